/- shape.Keep. -/
import Derived.Test.YtndkhlafpcedbaaShapeB
namespace Go.Proofs.Ytndkhlafpcedbaa
set_option linter.unusedVariables false
open Go.RowKit
theorem popS_bad (s t : ByteArray) (h : (letS s && letS t) = false) : popS s t = (ByteArray.empty, 15) := by unfold popS; rw [if_pos h]
theorem popS_not (s t : ByteArray) (h : ¬ (letS s && letS t) = false) (he : ends s t = false) : popS s t = (ByteArray.empty, 33) := by unfold popS; rw [if_neg h, if_pos he]
theorem popS_ok (s t : ByteArray) (h : ¬ (letS s && letS t) = false) (he : ¬ ends s t = false) : popS s t = (s.extract 0 (s.size - t.size), 0) := by unfold popS; rw [if_neg h, if_neg he]
set_option maxHeartbeats 400000 in
theorem shape_Keep (s t : ByteArray) (f : Int) (hs : s.size ≤ 140737488351232) (ht : t.size ≤ 140737488351232) (w : World) :
    Calls Try.prog 48 #[.string s, .int .i64 f, .string t] w fun e w' => Below w.heap.size w w' ∧ e = .returned (.tuple #[.string (keepS s f t).1, .int .i64 (keepS s f t).2]) := by
  have HA := Lib.hid (shape_Pop s t hs ht w)
  unfold keepS
  by_cases hb : (letS s && letS t) = false
  · rw [popS_bad s t hb] at HA
    rw [if_pos hb]
    clear hb
    go_enter Try.func48, Try.ntmps48
    go_wp2_with fail
    refine HA.out.mono ?_
    rintro e w1 ⟨h1, rfl⟩
    have H1 := Lib.hid h1; clear h1
    go_wp2_with fail
    go_ret2
    exact ⟨H1.out, rfl⟩
  · rw [if_neg hb]
    by_cases he : ends s t = false
    · rw [popS_not s t hb he] at HA
      rw [if_pos (.inr (.inl he))]
      clear hb he
      go_enter Try.func48, Try.ntmps48
      go_wp2_with fail
      refine HA.out.mono ?_
      rintro e w1 ⟨h1, rfl⟩
      have H1 := Lib.hid h1; clear h1
      go_wp2_with fail
      go_ret2
      exact ⟨H1.out, rfl⟩
    · rw [popS_ok s t hb he] at HA
      have hle := ends_le s t (by simpa using he)
      have hsz : (s.extract 0 (s.size - t.size)).size = s.size - t.size := by simp
      have Hsz := Lib.hid hsz; clear hsz
      by_cases hf : f < 0
      · rw [if_pos (.inl hf)]
        generalize s.extract 0 (s.size - t.size) = r at *
        clear hb he
        go_enter Try.func48, Try.ntmps48
        go_wp2_with fail
        refine HA.out.mono ?_
        rintro e w1 ⟨h1, rfl⟩
        have H1 := Lib.hid h1; clear h1
        go_wp2_with fail
        go_ret2
        exact ⟨H1.out, rfl⟩
      · obtain ⟨k, rfl⟩ := Int.eq_ofNat_of_zero_le (show 0 ≤ f by omega)
        by_cases hk : (s.size : Int) - t.size < k
        · rw [if_pos (.inr (.inr hk))]
          have hk2 : ((s.extract 0 (s.size - t.size)).size : Int) < k := by rw [Hsz.out]; omega
          generalize s.extract 0 (s.size - t.size) = r at *
          clear hb he
          go_enter Try.func48, Try.ntmps48
          go_wp2_with fail
          refine HA.out.mono ?_
          rintro e w1 ⟨h1, rfl⟩
          have H1 := Lib.hid h1; clear h1
          go_wp2_with fail
          go_ret2
          exact ⟨H1.out, rfl⟩
        · rw [if_neg (fun hc => by rcases hc with h | h | h; exact absurd h (by omega); exact he h; exact hk h)]
          have hk2 : ¬ ((s.extract 0 (s.size - t.size)).size : Int) < k := by rw [Hsz.out]; omega
          have hk3 : (s.extract 0 (s.size - t.size)).size ≤ 140737488351232 := by rw [Hsz.out]; omega
          have hk0 : (0 : Int) ≤ k := by omega
          have HX : Hid ((s.extract 0 (s.size - t.size)).extract 0 k = s.extract 0 k) := Lib.hid (by
            rw [ByteArray.extract_extract]
            congr 1
            omega)
          generalize s.extract 0 (s.size - t.size) = r at *
          clear hb he
          go_enter Try.func48, Try.ntmps48
          go_wp2_with fail
          refine HA.out.mono ?_
          rintro e w1 ⟨h1, rfl⟩
          have H1 := Lib.hid h1; clear h1
          have hkr : (r.extract 0 k).size ≤ 140737488351232 := by simp; omega
          go_wp2_with fail
          go_ret2
          refine ⟨H1.out, ?_⟩
          rw [show (k : Int).toNat = k from rfl, ← HX.out]
          rfl
end Go.Proofs.Ytndkhlafpcedbaa
