/- Signatures there and back: plain laws of layer 2. No program in sight. -/
import Derived.Test.YtndkhlafpcedbaaTypesF
import Derived.Test.YtndkhlafpcedbaaShapeQ
import Derived.Lib.IndexMore
import Derived.Lib.IndexLaws
namespace Go.Proofs.Ytndkhlafpcedbaa
set_option linter.unusedVariables false
open Go.RowKit
def arr : List UInt8 := [32, 45, 62, 32]
theorem occ_app (a b : List UInt8) : Lib.occAt (a ++ (arr ++ b)) arr a.length = true := by
  unfold Lib.occAt
  rw [List.drop_left' rfl]
  rfl
theorem occ_no (a b : List UInt8) (h : ∀ c ∈ a, c ≠ 32) : ∀ j, j < a.length → Lib.occAt (a ++ (arr ++ b)) arr j = false := by
  intro j hj
  unfold Lib.occAt
  rw [List.drop_append_of_le_length (by omega), List.drop_eq_getElem_cons hj]
  have hc := h _ (List.getElem_mem hj)
  have hb : (32 == a[j]) = false := by simpa using fun e : (32 : UInt8) = a[j] => hc e.symm
  show (32 == a[j] && _) = false
  rw [hb, Bool.false_and]
theorem cut_app (a b : List UInt8) (h : ∀ c ∈ a, c ≠ 32) : Lib.cut (a ++ (arr ++ b)) arr = (a, b, true) := by
  have hi := Lib.index_first (s := a ++ (arr ++ b)) (sub := arr) (i := a.length) (by rw [List.length_append]; omega) (occ_app a b) (occ_no a b h)
  unfold Lib.cut
  rw [hi, if_pos (by omega), Int.toNat_natCast, List.take_left' rfl]
  have : (a ++ (arr ++ b)).drop (a.length + arr.length) = b := by
    rw [← List.drop_drop, List.drop_left' rfl, List.drop_left' rfl]
  rw [this]
theorem bl_none : bl none_ = [] := rfl
theorem bl_dash : bl dash = [45] := rfl
theorem letter_ne {c : UInt8} (h : isL c = true) : c ≠ 32 ∧ c ≠ 45 := by
  constructor <;> (rintro rfl; exact absurd h (by decide))
theorem side_no32 {m : Nat} {p : ByteArray} (h : letB m (bl p) = true) : ∀ c ∈ bl (sideS p), c ≠ 32 := by
  intro c hc
  unfold sideS at hc
  split at hc
  · rw [bl_dash] at hc
    simp at hc
    subst hc
    decide
  · exact (letter_ne (((letB_iff _ _).1 h).2 c hc)).1
theorem meant_side {m : Nat} {p : ByteArray} (h : letB m (bl p) = true) : meantS (sideS p) = (p, true) := by
  unfold sideS
  by_cases hp : p = none_
  · rw [if_pos hp, hp]; rfl
  · rw [if_neg hp]
    unfold meantS
    rw [if_neg, decide_eq_true hp]
    rintro rfl
    have := ((letB_iff _ _).1 h).2 45 (by rw [bl_dash]; simp)
    exact absurd this (by decide)
theorem bl_of (l : List UInt8) : bl (⟨l.toArray⟩ : ByteArray) = l := by unfold bl; simp
theorem of_bl (s : ByteArray) : (⟨(bl s).toArray⟩ : ByteArray) = s := by cases s; unfold bl; simp
theorem sig_iff (p r : ByteArray) : sigB p r = true ↔ letB 8 (bl p) = true ∧ letB 8 (bl r) = true := by unfold sigB bl; rw [Bool.and_eq_true]
/-- What is written is read as itself. -/
theorem word_read {p r s : ByteArray} (h : wordS p r = (s, 0)) : readS s = (p, r, 0) := by
  unfold wordS at h
  split at h
  case isFalse => injection h with _ h; cases h
  case isTrue hs =>
    injection h with h _
    obtain ⟨hp, hr⟩ := (sig_iff p r).1 hs
    have hb : bl s = bl (sideS p) ++ (arr ++ bl (sideS r)) := by
      rw [← h, bl_app, bl_app, List.append_assoc]; rfl
    have hc : Lib.cut s.data.toList [32, 45, 62, 32] = (bl (sideS p), bl (sideS r), true) := by
      rw [show s.data.toList = bl s from rfl, hb]
      exact cut_app _ _ (side_no32 hp)
    have ha : cutA s = sideS p := by unfold cutA; rw [hc]; exact of_bl _
    have hbb : cutB s = sideS r := by unfold cutB; rw [hc]; exact of_bl _
    have hk : cutK s = true := by unfold cutK; rw [hc]
    unfold readS
    rw [ha, hbb, meant_side hp, meant_side hr, hk, if_pos ⟨rfl, rfl, rfl, hs⟩]
theorem side_meant {a : ByteArray} (h : (meantS a).2 = true) : sideS (meantS a).1 = a := by
  unfold meantS at h ⊢
  split
  case isTrue e => subst e; rfl
  case isFalse e =>
    rw [if_neg e] at h
    unfold sideS
    rw [if_neg (of_decide_eq_true h)]
theorem cut_spec {s : ByteArray} (h : cutK s = true) : s = cutA s ++ arrow ++ cutB s := by
  have hk : (Lib.cut s.data.toList arr).2.2 = true := h
  apply bl_inj
  rw [bl_app, bl_app, show bl arrow = arr from rfl]
  have e1 : bl (cutA s) = (Lib.cut (bl s) arr).1 := by unfold cutA; rw [bl_of]; rfl
  have e2 : bl (cutB s) = (Lib.cut (bl s) arr).2.1 := by unfold cutB; rw [bl_of]; rfl
  rw [e1, e2]
  have hk' : (Lib.cut (bl s) arr).2.2 = true := hk
  generalize bl s = l at *
  unfold Lib.cut at hk' ⊢
  rcases Lib.index_spec l arr with ⟨h0, _⟩ | ⟨i, h0, hi, hocc, _⟩
  · rw [h0] at hk'
    simp at hk'
  · rw [h0, if_pos (by omega), Int.toNat_natCast]
    unfold Lib.occAt at hocc
    rw [List.isPrefixOf_iff_prefix] at hocc
    obtain ⟨t, ht⟩ := hocc
    show l = l.take i ++ arr ++ l.drop (i + arr.length)
    rw [← List.drop_drop, ← ht, List.drop_left' rfl, List.append_assoc, ht, List.take_append_drop]
/-- What is read is written again as the same text. -/
theorem read_word {s : ByteArray} (h : (readS s).2.2 = 0) : wordS (readS s).1 (readS s).2.1 = (s, 0) ∧ sigB (readS s).1 (readS s).2.1 = true := by
  unfold readS at h ⊢
  split
  case isFalse e => rw [if_neg e] at h; cases h
  case isTrue e =>
    obtain ⟨h1, h2, h3, h4⟩ := e
    refine ⟨?_, h4⟩
    unfold wordS
    rw [if_pos h4, side_meant h2, side_meant h3, ← cut_spec h1]
theorem read_bad {s : ByteArray} (h : (readS s).2.2 ≠ 0) : readS s = (none_, none_, 15) := by
  unfold readS at h ⊢
  split
  case isTrue e => rw [if_pos e] at h; exact absurd rfl h
  case isFalse e => rfl
/-- The sides that the document tries. -/
def undash (a : ByteArray) : ByteArray := if a = dash then none_ else a
def ppS (s : ByteArray) (i : Nat) : ByteArray := undash (s.extract 0 i)
def rrS (s : ByteArray) (k : Nat) : ByteArray := if k ≤ s.size then undash (s.extract (s.size - k) s.size) else none_
theorem undash_side {m : Nat} {p : ByteArray} (h : letB m (bl p) = true) : undash (sideS p) = p := by
  unfold undash sideS
  by_cases hp : p = none_
  · rw [if_pos hp, if_pos rfl, hp]
  · rw [if_neg hp, if_neg]
    rintro rfl
    have := ((letB_iff _ _).1 h).2 45 (by rw [bl_dash]; simp)
    exact absurd this (by decide)
theorem side_size {m : Nat} {p : ByteArray} (h : letB (m + 1) (bl p) = true) : (sideS p).size ≤ m + 1 := by
  unfold sideS
  split
  · show 1 ≤ m + 1; omega
  · rw [← bl_len]; exact ((letB_iff _ _).1 h).1
/-- What is read well is met by the document's loops. -/
theorem read_met {s : ByteArray} (h : (readS s).2.2 = 0) : ∃ i k, i < s.size ∧ i ≤ 8 ∧ k ≤ 8 ∧ wordS (ppS s i) (rrS s k) = (s, 0) := by
  obtain ⟨hw, hs⟩ := read_word h
  generalize (readS s).1 = p at *
  generalize (readS s).2.1 = r at *
  obtain ⟨hp, hr⟩ := (sig_iff p r).1 hs
  have he : s = sideS p ++ arrow ++ sideS r := by
    unfold wordS at hw
    rw [if_pos hs] at hw
    injection hw with hw _
    exact hw.symm
  have hsz : s.size = (sideS p).size + 4 + (sideS r).size := by
    have := congrArg ByteArray.size he
    rw [size_app, size_app] at this
    exact this
  refine ⟨(sideS p).size, (sideS r).size, by omega, side_size (m := 7) hp, side_size (m := 7) hr, ?_⟩
  have e1 : ppS s (sideS p).size = p := by
    unfold ppS
    have : s.extract 0 (sideS p).size = sideS p := by
      apply bl_inj
      rw [bl_ext, he, bl_app, bl_app, ← bl_len, List.append_assoc, List.take_left' rfl]
      rfl
    rw [this, undash_side hp]
  have e2 : rrS s (sideS r).size = r := by
    unfold rrS
    rw [if_pos (by omega)]
    have : s.extract (s.size - (sideS r).size) s.size = sideS r := by
      apply bl_inj
      rw [bl_ext, ← bl_len s, List.take_length]
      have hd : s.size - (sideS r).size = (bl (sideS p) ++ bl arrow).length := by
        rw [List.length_append, bl_len, bl_len]
        show _ = _ + 4
        omega
      rw [bl_len, hd, he, bl_app, bl_app, List.drop_left' rfl]
    rw [this, undash_side hr]
  rw [e1, e2]
  exact hw
end Go.Proofs.Ytndkhlafpcedbaa
