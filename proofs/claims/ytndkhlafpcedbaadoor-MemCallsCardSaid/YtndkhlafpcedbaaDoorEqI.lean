/- flagonref00.EqInts: are two lists of numbers the same? -/
import Derived.Test.YtndkhlafpcedbaaDoorProg
import Derived.Test.YtndkhlafpcedbaaDoorBase
import Derived.Test.YtndkhlafpcedbaaDoorLists
import Derived.Handy
import Derived.Deep.QuietTactic
import Derived.BigQuiet
namespace Go.Proofs.YtndkhlafpcedbaaDoor
set_option linter.unusedVariables false
open Go.RowKit
def EqIRel (l l' : List Int) (w : World) (n : Nat) (i : Value) (wr : World) : Prop :=
  ∃ k m : Nat, k ≤ n ∧ i = .int .i64 k ∧ wr = w.drewN m ∧ l.take k = l'.take k
set_option maxRecDepth 100000 in
set_option maxHeartbeats 400000 in
theorem eq_ints (A A' : Option Addr) (n n' c c' B B' : Nat) (w : World) (l l' : List Int) (hn : n = l.length) (hn' : n' = l'.length) (h47 : n ≤ 140737488351232) (hr : Row w B A (ivals l)) (hr' : Row w B' A' (ivals l')) :
    Calls Tryd.prog 41 #[.slice A n c, .slice A' n' c'] w fun e w' => (∃ k, w' = w.drewN k) ∧ e = .returned (.bool (decide (l = l'))) := by
  by_cases hnn : n = n'
  · subst hnn
    have Hr := Lib.hid hr; clear hr
    have Hn := Lib.hid hn; clear hn
    have Hr' := Lib.hid hr'; clear hr'
    have Hn' := Lib.hid hn'; clear hn'
    go_enter Tryd.func41, Tryd.ntmps41
    go_wp2
    go_loopw [5] (fun i wr => EqIRel l l' w n i wr) (fun i _ => n - (intOf i).toNat)
    case atStart => exact ⟨0, 0, by omega, rfl, rfl, rfl⟩
    case round =>
      obtain ⟨k, m, hk, rfl, rfl, hR⟩ := hrel
      have HR := Lib.hid hR; clear hR
      by_cases hlt : k < n
      · obtain ⟨b, o, rfl, _, hcell⟩ := ivals_cell Hr.out (k := k) (by rw [← Hn.out]; exact hlt)
        obtain ⟨b', o', rfl, _, hcell'⟩ := ivals_cell Hr'.out (k := k) (by rw [← Hn'.out]; exact hlt)
        have hi : (0 : Int) ≤ k := by omega
        have hlk : l[k]? = some (l[k]?.getD 0) := by rw [List.getElem?_eq_getElem (by rw [← Hn.out]; exact hlt)]; rfl
        have hlk' : l'[k]? = some (l'[k]?.getD 0) := by rw [List.getElem?_eq_getElem (by rw [← Hn'.out]; exact hlt)]; rfl
        have Hlk := Lib.hid hlk; clear hlk
        have Hlk' := Lib.hid hlk'; clear hlk'
        by_cases hq : l[k]?.getD 0 = l'[k]?.getD 0
        · have HT : Hid (l.take (k + 1) = l'.take (k + 1)) := by
            have h1 := Hlk.out
            rw [hq, ← Hlk'.out] at h1
            refine Lib.hid ?_
            rw [List.take_add_one, List.take_add_one, HR.out, h1]
          rw [hq] at hcell
          clear hq Hlk Hlk'
          generalize l'[k]?.getD 0 = x at *
          have hne : (x != x) = false := by simp
          go_wp2
          go_quiet (fail)
          go_wp2
          exact ⟨⟨k + 1, m + nq, by omega, by go_num, rfl, HT.out⟩, by simp [intOf]; omega⟩
        · have hF : Hid (decide (l = l') = false) := by
            refine Lib.hid (decide_eq_false fun h => hq ?_)
            rw [h]
          have hq' : l[k]?.getD 0 ≠ l'[k]?.getD 0 := hq
          clear hq Hlk Hlk'
          generalize l'[k]?.getD 0 = x at *
          generalize l[k]?.getD 0 = y at *
          have hne : (y != x) = true := by simp; omega
          clear hq'
          go_wp2
          go_quiet (fail)
          go_wp2
          go_ret
          exact ⟨⟨m + nq, World.drewN_drewN _ _ _⟩, by rw [hF.out]; rfl⟩
      · obtain rfl : k = n := by omega
        have hT : Hid (decide (l = l') = true) := by
          have := HR.out
          rw [List.take_of_length_le (by rw [Hn.out]; exact Nat.le_refl _), List.take_of_length_le (by rw [Hn'.out]; exact Nat.le_refl _)] at this
          exact Lib.hid (decide_eq_true this)
        go_wp2
        go_ret
        exact ⟨⟨_, rfl⟩, by rw [hT.out]; rfl⟩
  · have hF : Hid (decide (l = l') = false) := Lib.hid (decide_eq_false fun h => hnn (by rw [hn, hn', h]))
    have hne : ((n : Int) != n') = true := by simp; omega
    clear hr hr' hn hn'
    go_enter Tryd.func41, Tryd.ntmps41
    go_wp2
    go_ret
    exact ⟨⟨0, rfl⟩, by rw [hF.out]; rfl⟩
end Go.Proofs.YtndkhlafpcedbaaDoor
