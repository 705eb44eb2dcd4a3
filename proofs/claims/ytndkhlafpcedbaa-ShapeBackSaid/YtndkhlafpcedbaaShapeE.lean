/- The reference's Keep. -/
import Derived.Test.YtndkhlafpcedbaaShapeD
namespace Go.Proofs.Ytndkhlafpcedbaa
set_option linter.unusedVariables false
open Go.RowKit
set_option maxHeartbeats 1000000 in
theorem ref_Keep (s t : ByteArray) (f : Int) (hs : s.size ≤ 140737488351232) (ht : t.size ≤ 140737488351232) (w : World) :
    Calls Try.prog 49 #[.string s, .int .i64 f, .string t] w fun e w' => w = w' ∧ e = .returned (.tuple #[.string (keepS s f t).1, .int .i64 (keepS s f t).2]) := by
  have HS := Lib.hid (ref_letS s hs w)
  have HT := Lib.hid (ref_letS t ht w)
  have HE := Lib.hid (ref_Ends s t hs ht w)
  have HL := Lib.hid (ends_le s t)
  unfold keepS
  cases h1 : letS s with
  | false =>
    rw [h1] at HS
    rw [if_pos (by simp)]
    clear h1
    go_enter Try.func49, Try.ntmps49
    go_wp2_with fail
    refine HS.out.mono ?_
    rintro e w' ⟨rfl, rfl⟩
    go_wp2_with fail
    go_ret2
    exact ⟨rfl, rfl⟩
  | true =>
    rw [h1] at HS
    clear h1
    cases h2 : letS t with
    | false =>
      rw [h2] at HT
      rw [if_pos (by simp)]
      clear h2
      go_enter Try.func49, Try.ntmps49
      go_wp2_with fail
      refine HS.out.mono ?_
      rintro e w' ⟨rfl, rfl⟩
      go_wp2_with fail
      refine HT.out.mono ?_
      rintro e w' ⟨rfl, rfl⟩
      go_wp2_with fail
      go_ret2
      exact ⟨rfl, rfl⟩
    | true =>
      rw [h2] at HT
      rw [if_neg (by simp)]
      clear h2
      by_cases hf : f < 0
      · rw [if_pos (.inl hf)]
        go_enter Try.func49, Try.ntmps49
        go_wp2_with fail
        refine HS.out.mono ?_
        rintro e w' ⟨rfl, rfl⟩
        go_wp2_with fail
        refine HT.out.mono ?_
        rintro e w' ⟨rfl, rfl⟩
        go_wp2_with fail
        go_ret2
        exact ⟨rfl, rfl⟩
      · obtain ⟨k, rfl⟩ := Int.eq_ofNat_of_zero_le (show 0 ≤ f by omega)
        have hf2 : ¬ (k : Int) < 0 := by omega
        cases he : ends s t with
        | false =>
          rw [he] at HE
          rw [if_pos (.inr (.inl rfl))]
          clear he HL
          go_enter Try.func49, Try.ntmps49
          go_wp2_with fail
          refine HS.out.mono ?_
          rintro e w' ⟨rfl, rfl⟩
          go_wp2_with fail
          refine HT.out.mono ?_
          rintro e w' ⟨rfl, rfl⟩
          go_wp2_with fail
          refine HE.out.mono ?_
          rintro e w' ⟨rfl, rfl⟩
          go_wp2_with fail
          go_ret2
          exact ⟨rfl, rfl⟩
        | true =>
          have hle := HL.out he
          rw [he] at HE
          clear he HL
          by_cases hk : (s.size : Int) - t.size < k
          · rw [if_pos (.inr (.inr hk))]
            go_enter Try.func49, Try.ntmps49
            go_wp2_with fail
            refine HS.out.mono ?_
            rintro e w' ⟨rfl, rfl⟩
            go_wp2_with fail
            refine HT.out.mono ?_
            rintro e w' ⟨rfl, rfl⟩
            go_wp2_with fail
            refine HE.out.mono ?_
            rintro e w' ⟨rfl, rfl⟩
            go_wp2_with fail
            go_ret2
            exact ⟨rfl, rfl⟩
          · rw [if_neg (fun hc => by rcases hc with h | h | h; exact hf2 h; exact absurd h (by simp); exact hk h)]
            have hk0 : (0 : Int) ≤ k := by omega
            have hks : (k : Int) ≤ s.size := by omega
            have hkr : (s.extract 0 k).size ≤ 140737488351232 := by simp; omega
            go_enter Try.func49, Try.ntmps49
            go_wp2_with fail
            refine HS.out.mono ?_
            rintro e w' ⟨rfl, rfl⟩
            go_wp2_with fail
            refine HT.out.mono ?_
            rintro e w' ⟨rfl, rfl⟩
            go_wp2_with fail
            refine HE.out.mono ?_
            rintro e w' ⟨rfl, rfl⟩
            go_wp2_with fail
            go_ret2
            exact ⟨rfl, rfl⟩
end Go.Proofs.Ytndkhlafpcedbaa
