/- wire's and the reference's ReadText. -/
import Derived.Test.YtndkhlafpcedbaaWireC
namespace Go.Proofs.Ytndkhlafpcedbaa
set_option linter.unusedVariables false
open Go.RowKit
set_option maxRecDepth 100000 in
set_option maxHeartbeats 400000 in
theorem wire_ReadText (A : Option Addr) (n cap B : Nat) (p most : Int) (w : World) (l : List UInt8) (hn : n = l.length) (hcap : n ≤ cap) (h47 : n ≤ 140737488351232) (hr : Row w B A (l.map bv)) (hm : most < 9223372036854775808) :
    Calls Try.prog 20 #[.slice A n cap, .int .i64 p, .int .i64 most] w fun e w' => w = w' ∧ e = .returned (.tuple #[.string ⟨(txt l p most).1.toArray⟩, .int .i64 (txt l p most).2.1, .int .i64 (txt l p most).2.2]) := by
  have HC := Lib.hid (wire_counted A n cap B p most 13 w l hn h47 hr hm)
  have hf := cnt_facts l p most 13 hm (by omega)
  unfold txt
  generalize cnt l p most 13 = r at *
  obtain ⟨v, nx, e⟩ := r
  simp only at HC hf ⊢
  obtain ⟨f1, f2, f3⟩ := hf
  have Hr := Lib.hid hr; clear hr
  have Hn := Lib.hid hn; clear hn
  rw [← Hn.out] at f2 ⊢
  by_cases he : e = 0
  · subst he
    rw [if_neg (by omega)]
    by_cases hlt : n < v + nx
    · rw [if_pos hlt]
      go_enter Try.func20, Try.ntmps20
      go_wp2_with (go_at_call 68; refine HC.out.mono ?_; rintro e w' ⟨rfl, rfl⟩)
      go_ret3
      exact ⟨rfl, ret3s rfl rfl rfl⟩
    · rw [if_neg hlt]
      have hsub : v = ((l.drop nx).take v).length := by rw [List.length_take, List.length_drop, ← Hn.out]; omega
      have Hs := Lib.hid hsub; clear hsub
      by_cases hv : v = 0
      · subst hv
        have hcv := fun (w : World) (A : Option Addr) (c : Nat) => conv_bytes (P := Try.prog) 23 5 9 Try.underlying23 Try.underlying5 Try.underlying9 w 0 A 0 c [] rfl (Row.nil _ _ _)
        go_enter Try.func20, Try.ntmps20
        go_wp2_with (go_at_call 68; refine HC.out.mono ?_; rintro e w' ⟨rfl, rfl⟩)
        all_goals
          go_ret3
          exact ⟨rfl, ret3s (by simp) (by simp) rfl⟩
      · have hne : ¬ cap = nx := by omega
        have hcv := conv_bytes (P := Try.prog) 23 5 9 Try.underlying23 Try.underlying5 Try.underlying9 w B (Option.map (fun x => x.add nx) A) v (cap - nx) ((l.drop nx).take v) Hs.out
          (by have := (Hr.out.drop nx).cut v; rw [List.map_take, List.map_drop]; exact this)
        go_enter Try.func20, Try.ntmps20
        go_wp2_with (go_at_call 68; refine HC.out.mono ?_; rintro e w' ⟨rfl, rfl⟩)
        go_ret3
        exact ⟨rfl, ret3s rfl (by simp) rfl⟩
  · have e0 : ((e : Int) != 0) = true := by simp; omega
    rw [if_pos he]
    go_enter Try.func20, Try.ntmps20
    go_wp2_with (go_at_call 68; refine HC.out.mono ?_; rintro e w' ⟨rfl, rfl⟩)
    go_ret3
    exact ⟨rfl, ret3s rfl rfl rfl⟩
set_option maxRecDepth 100000 in
set_option maxHeartbeats 400000 in
theorem ref_ReadText (A : Option Addr) (n cap B : Nat) (p most : Int) (w : World) (l : List UInt8) (hn : n = l.length) (hcap : n ≤ cap) (h47 : n ≤ 140737488351232) (hr : Row w B A (l.map bv)) (hm : most < 9223372036854775808) :
    Calls Try.prog 27 #[.slice A n cap, .int .i64 p, .int .i64 most] w fun e w' => w = w' ∧ e = .returned (.tuple #[.string ⟨(txt l p most).1.toArray⟩, .int .i64 (txt l p most).2.1, .int .i64 (txt l p most).2.2]) := by
  have HC := Lib.hid (ref_ReadCount A n cap B p most w l hn h47 hr hm)
  have hf := cnt_facts l p most 13 hm (by omega)
  have hgr := cnt_great l p most 13 20 (.inl rfl) (.inr rfl)
  unfold txt
  generalize cnt l p most 20 = r' at *
  generalize cnt l p most 13 = r at *
  rcases hgr with ⟨g1, g2⟩ | ⟨g1, g2, g3⟩
  · rw [if_pos (by omega), g1]
    obtain ⟨v, nx, e⟩ := r'
    simp only at HC g2 ⊢
    subst g2
    clear hf g1 hr hn
    go_enter Try.func27, Try.ntmps27
    go_wp2_with (go_at_call 26; refine HC.out.mono ?_; rintro e w' ⟨rfl, rfl⟩)
    go_ret3
    exact ⟨rfl, ret3s rfl rfl rfl⟩
  subst g3
  obtain ⟨v, nx, e⟩ := r
  simp only at HC hf g1 g2 ⊢
  have e20 : ((e : Int) == 20) = false := by simp; omega
  clear g1 g2
  obtain ⟨f1, f2, f3⟩ := hf
  have Hr := Lib.hid hr; clear hr
  have Hn := Lib.hid hn; clear hn
  rw [← Hn.out] at f2 ⊢
  by_cases he : e = 0
  · subst he
    rw [if_neg (by omega)]
    by_cases hlt : n < v + nx
    · rw [if_pos hlt]
      go_enter Try.func27, Try.ntmps27
      go_wp2_with (go_at_call 26; refine HC.out.mono ?_; rintro e w' ⟨rfl, rfl⟩)
      go_ret3
      exact ⟨rfl, ret3s rfl rfl rfl⟩
    · rw [if_neg hlt]
      have hsub : v = ((l.drop nx).take v).length := by rw [List.length_take, List.length_drop, ← Hn.out]; omega
      have Hs := Lib.hid hsub; clear hsub
      by_cases hv : v = 0
      · subst hv
        have hcv := fun (w : World) (A : Option Addr) (c : Nat) => conv_bytes (P := Try.prog) 23 5 9 Try.underlying23 Try.underlying5 Try.underlying9 w 0 A 0 c [] rfl (Row.nil _ _ _)
        go_enter Try.func27, Try.ntmps27
        go_wp2_with (go_at_call 26; refine HC.out.mono ?_; rintro e w' ⟨rfl, rfl⟩)
        all_goals
          go_ret3
          exact ⟨rfl, ret3s (by simp) (by simp) rfl⟩
      · have hne : ¬ cap = nx := by omega
        have hcv := conv_bytes (P := Try.prog) 23 5 9 Try.underlying23 Try.underlying5 Try.underlying9 w B (Option.map (fun x => x.add nx) A) v (cap - nx) ((l.drop nx).take v) Hs.out
          (by have := (Hr.out.drop nx).cut v; rw [List.map_take, List.map_drop]; exact this)
        go_enter Try.func27, Try.ntmps27
        go_wp2_with (go_at_call 26; refine HC.out.mono ?_; rintro e w' ⟨rfl, rfl⟩)
        go_ret3
        exact ⟨rfl, ret3s rfl (by simp) rfl⟩
  · have e0 : ((e : Int) != 0) = true := by simp; omega
    rw [if_pos he]
    go_enter Try.func27, Try.ntmps27
    go_wp2_with (go_at_call 26; refine HC.out.mono ?_; rintro e w' ⟨rfl, rfl⟩)
    go_ret3
    exact ⟨rfl, ret3s rfl rfl rfl⟩
end Go.Proofs.Ytndkhlafpcedbaa
