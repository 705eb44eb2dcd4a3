/- shape.Push, Top, Pop. -/
import Derived.Test.YtndkhlafpcedbaaShapeA
namespace Go.Proofs.Ytndkhlafpcedbaa
set_option linter.unusedVariables false
open Go.RowKit
set_option maxHeartbeats 400000 in
theorem shape_Push (s t : ByteArray) (hs : s.size ≤ 140737488351232) (ht : t.size ≤ 140737488351232) (w : World) :
    Calls Try.prog 42 #[.string s, .string t] w fun e w' => Below w.heap.size w w' ∧ e = .returned (.tuple #[.string (pushS s t).1, .int .i64 (pushS s t).2]) := by
  have HA := Lib.hid (shape_all2 s t hs ht w)
  unfold pushS
  cases hb : (letS s && letS t) with
  | false =>
    rw [hb] at HA
    rw [if_pos rfl]
    clear hb
    go_enter Try.func42, Try.ntmps42
    go_wp2_with fail
    refine HA.out.mono ?_
    rintro e w1 ⟨h1, rfl⟩
    have H1 := Lib.hid h1; clear h1
    go_wp2_with fail
    go_ret2
    exact ⟨H1.out, rfl⟩
  | true =>
    rw [hb] at HA
    rw [if_neg (by simp)]
    clear hb
    by_cases hbig : 256 < s.size + t.size
    · rw [if_pos hbig]
      have hb2 : (256 : Int) < s.size + t.size := by omega
      go_enter Try.func42, Try.ntmps42
      go_wp2_with fail
      refine HA.out.mono ?_
      rintro e w1 ⟨h1, rfl⟩
      have H1 := Lib.hid h1; clear h1
      go_wp2_with fail
      go_ret2
      exact ⟨H1.out, rfl⟩
    · rw [if_neg hbig]
      have hb2 : ¬ (256 : Int) < s.size + t.size := by omega
      go_enter Try.func42, Try.ntmps42
      go_wp2_with fail
      refine HA.out.mono ?_
      rintro e w1 ⟨h1, rfl⟩
      have H1 := Lib.hid h1; clear h1
      go_wp2_with fail
      go_goals
      go_ret2
      exact ⟨H1.out, rfl⟩
theorem shape_Top (s t : ByteArray) (hs : s.size ≤ 140737488351232) (ht : t.size ≤ 140737488351232) (w : World) :
    Calls Try.prog 46 #[.string s, .string t] w fun e w' => Below w.heap.size w w' ∧ e = .returned (.bool (topS s t)) := by
  have HA := Lib.hid (shape_all2 s t hs ht w)
  have HB := Lib.hid (fun W => str_HasSuffix s t hs ht W)
  unfold topS
  generalize ends s t = b2 at *
  cases hb : (letS s && letS t) with
  | false =>
    rw [hb] at HA
    clear hb
    go_enter Try.func46, Try.ntmps46
    go_wp2_with fail
    refine HA.out.mono ?_
    rintro e w1 ⟨h1, rfl⟩
    have H1 := Lib.hid h1; clear h1
    go_wp2_with fail
    go_ret
    exact ⟨H1.out, rfl⟩
  | true =>
    rw [hb] at HA
    clear hb
    go_enter Try.func46, Try.ntmps46
    go_wp2_with fail
    refine HA.out.mono ?_
    rintro e w1 ⟨h1, rfl⟩
    have H1 := Lib.hid h1; clear h1
    go_wp2_with fail
    refine (HB.out _).mono ?_
    rintro e w' ⟨rfl, rfl⟩
    go_wp2_with fail
    go_ret
    exact ⟨H1.out, rfl⟩
set_option maxHeartbeats 400000 in
theorem shape_Pop (s t : ByteArray) (hs : s.size ≤ 140737488351232) (ht : t.size ≤ 140737488351232) (w : World) :
    Calls Try.prog 44 #[.string s, .string t] w fun e w' => Below w.heap.size w w' ∧ e = .returned (.tuple #[.string (popS s t).1, .int .i64 (popS s t).2]) := by
  have HA := Lib.hid (shape_all2 s t hs ht w)
  have HB := Lib.hid (fun W => str_CutSuffix s t hs ht W)
  unfold popS
  cases hb : (letS s && letS t) with
  | false =>
    rw [hb] at HA
    rw [if_pos rfl]
    clear hb HB
    go_enter Try.func44, Try.ntmps44
    go_wp2_with fail
    refine HA.out.mono ?_
    rintro e w1 ⟨h1, rfl⟩
    have H1 := Lib.hid h1; clear h1
    go_wp2_with fail
    go_ret2
    exact ⟨H1.out, rfl⟩
  | true =>
    rw [hb] at HA
    rw [if_neg (by simp)]
    clear hb
    cases hb2 : ends s t with
    | false =>
      rw [hb2] at HB
      rw [if_pos rfl]
      clear hb2
      go_enter Try.func44, Try.ntmps44
      go_wp2_with fail
      refine HA.out.mono ?_
      rintro e w1 ⟨h1, rfl⟩
      have H1 := Lib.hid h1; clear h1
      go_wp2_with fail
      refine (HB.out _).mono ?_
      rintro e w' ⟨rfl, rfl⟩
      go_wp2_with fail
      go_ret2
      exact ⟨H1.out, rfl⟩
    | true =>
      rw [hb2] at HB
      rw [if_neg (by simp)]
      clear hb2
      go_enter Try.func44, Try.ntmps44
      go_wp2_with fail
      refine HA.out.mono ?_
      rintro e w1 ⟨h1, rfl⟩
      have H1 := Lib.hid h1; clear h1
      go_wp2_with fail
      refine (HB.out _).mono ?_
      rintro e w' ⟨rfl, rfl⟩
      go_wp2_with fail
      go_ret2
      exact ⟨H1.out, rfl⟩
end Go.Proofs.Ytndkhlafpcedbaa
