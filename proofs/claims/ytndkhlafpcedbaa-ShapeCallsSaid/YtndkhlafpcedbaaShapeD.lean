/- The reference of layer 8. -/
import Derived.Test.YtndkhlafpcedbaaShapeC
namespace Go.Proofs.Ytndkhlafpcedbaa
set_option linter.unusedVariables false
open Go.RowKit
theorem ref_letS (s : ByteArray) (hs : s.size ≤ 140737488351232) (w : World) : Calls Try.prog 75 #[.string s] w fun e w' => w = w' ∧ e = .returned (.bool (letS s)) := ref_Shape s hs w
set_option maxHeartbeats 400000 in
theorem ref_Push (s t : ByteArray) (hs : s.size ≤ 140737488351232) (ht : t.size ≤ 140737488351232) (w : World) :
    Calls Try.prog 43 #[.string s, .string t] w fun e w' => w = w' ∧ e = .returned (.tuple #[.string (pushS s t).1, .int .i64 (pushS s t).2]) := by
  have HS := Lib.hid (ref_letS s hs w)
  have HT := Lib.hid (ref_letS t ht w)
  unfold pushS
  cases h1 : letS s with
  | false =>
    rw [h1] at HS
    rw [if_pos (by simp)]
    clear h1
    go_enter Try.func43, Try.ntmps43
    go_wp2_with fail
    refine HS.out.mono ?_
    rintro e w' ⟨rfl, rfl⟩
    go_wp2_with fail
    go_ret2
    exact ⟨rfl, rfl⟩
  | true =>
    rw [h1] at HS
    clear h1
    cases h2 : letS t with
    | false =>
      rw [h2] at HT
      rw [if_pos (by simp)]
      clear h2
      go_enter Try.func43, Try.ntmps43
      go_wp2_with fail
      refine HS.out.mono ?_
      rintro e w' ⟨rfl, rfl⟩
      go_wp2_with fail
      refine HT.out.mono ?_
      rintro e w' ⟨rfl, rfl⟩
      go_wp2_with fail
      go_ret2
      exact ⟨rfl, rfl⟩
    | true =>
      rw [h2] at HT
      rw [if_neg (by simp)]
      clear h2
      by_cases hbig : 256 < s.size + t.size
      · rw [if_pos hbig]
        have hb2 : (256 : Int) < s.size + t.size := by omega
        go_enter Try.func43, Try.ntmps43
        go_wp2_with fail
        refine HS.out.mono ?_
        rintro e w' ⟨rfl, rfl⟩
        go_wp2_with fail
        refine HT.out.mono ?_
        rintro e w' ⟨rfl, rfl⟩
        go_wp2_with fail
        go_ret2
        exact ⟨rfl, rfl⟩
      · rw [if_neg hbig]
        have hb2 : ¬ (256 : Int) < s.size + t.size := by omega
        go_enter Try.func43, Try.ntmps43
        go_wp2_with fail
        refine HS.out.mono ?_
        rintro e w' ⟨rfl, rfl⟩
        go_wp2_with fail
        refine HT.out.mono ?_
        rintro e w' ⟨rfl, rfl⟩
        go_wp2_with fail
        go_ret2
        exact ⟨rfl, rfl⟩
set_option maxHeartbeats 400000 in
theorem ref_Pop (s t : ByteArray) (hs : s.size ≤ 140737488351232) (ht : t.size ≤ 140737488351232) (w : World) :
    Calls Try.prog 45 #[.string s, .string t] w fun e w' => w = w' ∧ e = .returned (.tuple #[.string (popS s t).1, .int .i64 (popS s t).2]) := by
  have HS := Lib.hid (ref_letS s hs w)
  have HT := Lib.hid (ref_letS t ht w)
  have HE := Lib.hid (ref_Ends s t hs ht w)
  have HL := Lib.hid (ends_le s t)
  unfold popS
  cases h1 : letS s with
  | false =>
    rw [h1] at HS
    rw [if_pos (by simp)]
    clear h1
    go_enter Try.func45, Try.ntmps45
    go_wp2_with fail
    refine HS.out.mono ?_
    rintro e w' ⟨rfl, rfl⟩
    go_wp2_with fail
    go_ret2
    exact ⟨rfl, rfl⟩
  | true =>
    rw [h1] at HS
    clear h1
    cases h2 : letS t with
    | false =>
      rw [h2] at HT
      rw [if_pos (by simp)]
      clear h2
      go_enter Try.func45, Try.ntmps45
      go_wp2_with fail
      refine HS.out.mono ?_
      rintro e w' ⟨rfl, rfl⟩
      go_wp2_with fail
      refine HT.out.mono ?_
      rintro e w' ⟨rfl, rfl⟩
      go_wp2_with fail
      go_ret2
      exact ⟨rfl, rfl⟩
    | true =>
      rw [h2] at HT
      rw [if_neg (by simp)]
      clear h2
      cases he : ends s t with
      | false =>
        rw [he] at HE
        rw [if_pos rfl]
        clear he HL
        go_enter Try.func45, Try.ntmps45
        go_wp2_with fail
        refine HS.out.mono ?_
        rintro e w' ⟨rfl, rfl⟩
        go_wp2_with fail
        refine HT.out.mono ?_
        rintro e w' ⟨rfl, rfl⟩
        go_wp2_with fail
        refine HE.out.mono ?_
        rintro e w' ⟨rfl, rfl⟩
        go_wp2_with fail
        go_ret2
        exact ⟨rfl, rfl⟩
      | true =>
        have hle := HL.out he
        rw [he] at HE
        rw [if_neg (by simp)]
        clear he HL
        go_enter Try.func45, Try.ntmps45
        go_wp2_with fail
        refine HS.out.mono ?_
        rintro e w' ⟨rfl, rfl⟩
        go_wp2_with fail
        refine HT.out.mono ?_
        rintro e w' ⟨rfl, rfl⟩
        go_wp2_with fail
        refine HE.out.mono ?_
        rintro e w' ⟨rfl, rfl⟩
        go_wp2_with fail
        go_ret2
        exact ⟨rfl, rfl⟩
set_option maxHeartbeats 400000 in
theorem ref_Top (s t : ByteArray) (hs : s.size ≤ 140737488351232) (ht : t.size ≤ 140737488351232) (w : World) :
    Calls Try.prog 47 #[.string s, .string t] w fun e w' => w = w' ∧ e = .returned (.bool (topS s t)) := by
  have HS := Lib.hid (ref_letS s hs w)
  have HT := Lib.hid (ref_letS t ht w)
  have HE := Lib.hid (ref_Ends s t hs ht w)
  unfold topS
  generalize ends s t = b at *
  cases h1 : letS s with
  | false =>
    rw [h1] at HS
    clear h1
    go_enter Try.func47, Try.ntmps47
    go_wp2_with fail
    refine HS.out.mono ?_
    rintro e w' ⟨rfl, rfl⟩
    go_wp2_with fail
    go_ret
    exact ⟨rfl, by simp⟩
  | true =>
    rw [h1] at HS
    clear h1
    cases h2 : letS t with
    | false =>
      rw [h2] at HT
      clear h2
      go_enter Try.func47, Try.ntmps47
      go_wp2_with fail
      refine HS.out.mono ?_
      rintro e w' ⟨rfl, rfl⟩
      go_wp2_with fail
      refine HT.out.mono ?_
      rintro e w' ⟨rfl, rfl⟩
      go_wp2_with fail
      go_ret
      exact ⟨rfl, by simp⟩
    | true =>
      rw [h2] at HT
      clear h2
      go_enter Try.func47, Try.ntmps47
      go_wp2_with fail
      refine HS.out.mono ?_
      rintro e w' ⟨rfl, rfl⟩
      go_wp2_with fail
      refine HT.out.mono ?_
      rintro e w' ⟨rfl, rfl⟩
      go_wp2_with fail
      refine HE.out.mono ?_
      rintro e w' ⟨rfl, rfl⟩
      go_wp2_with fail
      go_ret
      exact ⟨rfl, by simp⟩
end Go.Proofs.Ytndkhlafpcedbaa
