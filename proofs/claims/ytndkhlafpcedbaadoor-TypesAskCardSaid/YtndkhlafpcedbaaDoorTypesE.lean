/- types: said, meant, Sig, Word; the document's side, Sig, Word. -/
import Derived.Test.YtndkhlafpcedbaaDoorTypesD
import Derived.Test.YtndkhlafpcedbaaDoorStrP
namespace Go.Proofs.YtndkhlafpcedbaaDoor
set_option linter.unusedVariables false
open Go.RowKit
def dash : ByteArray := ⟨#[45]⟩
def arrow : ByteArray := ⟨#[32, 45, 62, 32]⟩
def none_ : ByteArray := ⟨#[]⟩
def sideS (s : ByteArray) : ByteArray := if s = none_ then dash else s
def meantS (s : ByteArray) : ByteArray × Bool := if s = dash then (none_, true) else (s, decide (s ≠ none_))
theorem empty_no {s : ByteArray} (h : s ≠ none_) : s.toList.isEmpty = false := by
  rw [ByteArray.toList_eq]
  cases hl : s.data.toList with
  | nil => exact absurd (by cases s; simp at hl; subst hl; rfl) h
  | cons a l => rfl
theorem dash_no {s : ByteArray} (h : s ≠ dash) : (s.toList == [45]) = false := by
  rw [ByteArray.toList_eq]
  refine beq_eq_false_iff_ne.2 fun he => h ?_
  cases s
  have he' := Array.toList_inj.1 (show _ = (#[45] : Array UInt8).toList from he)
  unfold dash
  rw [← he']
set_option maxHeartbeats 400000 in
theorem types_said (s : ByteArray) (w : World) : Calls Tryd.prog 97 #[.string s] w fun e w' => w = w' ∧ e = .returned (.string (sideS s)) := by
  by_cases h : s = none_
  · subst h
    have hE : none_.toList.isEmpty = true := by decide +kernel
    go_enter Tryd.func97, Tryd.ntmps97
    go_wp2
    go_ret
    exact ⟨rfl, rfl⟩
  · have HF : Hid (sideS s = s) := Lib.hid (if_neg h)
    have hE := empty_no h
    clear h
    go_enter Tryd.func97, Tryd.ntmps97
    go_wp2
    go_ret
    exact ⟨rfl, by rw [HF.out]; rfl⟩
set_option maxHeartbeats 400000 in
theorem types_meant (s : ByteArray) (w : World) : Calls Tryd.prog 99 #[.string s] w fun e w' => w = w' ∧ e = .returned (.tuple #[.string (meantS s).1, .bool (meantS s).2]) := by
  by_cases h : s = dash
  · subst h
    have hE : (dash.toList == [45]) = true := by decide +kernel
    go_enter Tryd.func99, Tryd.ntmps99
    go_wp2
    go_ret2
    exact ⟨rfl, rfl⟩
  · have hE := dash_no h
    by_cases h0 : s = none_
    · have HF : Hid (meantS s = (s, false)) := Lib.hid (by unfold meantS; rw [if_neg h]; simp [h0])
      have hE2 : s.toList.isEmpty = true := by rw [h0]; decide +kernel
      clear h h0
      go_enter Tryd.func99, Tryd.ntmps99
      go_wp2
      go_ret2
      exact ⟨rfl, by rw [HF.out]; rfl⟩
    · have HF : Hid (meantS s = (s, true)) := Lib.hid (by unfold meantS; rw [if_neg h]; simp [h0])
      have hE2 := empty_no h0
      clear h h0
      go_enter Tryd.func99, Tryd.ntmps99
      go_wp2
      go_ret2
      exact ⟨rfl, by rw [HF.out]; rfl⟩
def sigB (p r : ByteArray) : Bool := letB 8 p.data.toList && letB 8 r.data.toList
set_option maxHeartbeats 400000 in
theorem types_Sig (p r : ByteArray) (hp : p.size ≤ 140737488351232) (hr : r.size ≤ 140737488351232) (w : World) :
    Calls Tryd.prog 49 #[.agg #[.string p, .string r]] w fun e w' => Below w.heap.size w w' ∧ e = .returned (.bool (sigB p r)) := by
  have HP := Lib.hid (fun W => types_letters p 8 hp (by omega) W)
  have HR := Lib.hid (fun W => types_letters r 8 hr (by omega) W)
  have HE : Hid (sigB p r = (letB 8 p.data.toList && letB 8 r.data.toList)) := Lib.hid rfl
  generalize letB 8 p.data.toList = bp at *
  generalize letB 8 r.data.toList = br at *
  go_enter Tryd.func49, Tryd.ntmps49
  go_wp2_with fail
  generalize hw : w.alloc (.cells #[.string p, .string r] 81) = w1
  have hblk : Blk w1 w.heap.size 81 [.string p, .string r] := by rw [← hw]; exact Blk.new w 81 [.string p, .string r]
  have H1 : Hid (Below w.heap.size w w1) := by rw [← hw]; exact Lib.hid ((Below.refl _ _).alloc (Nat.le_refl _) _)
  have Hb := Lib.hid hblk; clear hblk hw
  refine (HP.out w1).mono ?_
  rintro e w2 ⟨h2, rfl⟩
  have H2 : Hid (Below w.heap.size w w2) := Lib.hid (H1.out.trans (h2.mono H1.out.size))
  have Hb2 : Hid (Blk w2 w.heap.size 81 [.string p, .string r]) := Lib.hid (Hb.out.below h2 Hb.out.lt)
  clear h2 Hb H1
  have hc1 : w2.cell? ⟨w.heap.size, 1, none⟩ = some (.string r) := Hb2.out.cell 1
  cases bp with
  | false =>
    go_wp2_with fail
    go_ret
    exact ⟨H2.out, by rw [HE.out]; rfl⟩
  | true =>
    go_wp2_with fail
    refine (HR.out w2).mono ?_
    rintro e w3 ⟨h3, rfl⟩
    have H3 : Hid (Below w.heap.size w w3) := Lib.hid (H2.out.trans (h3.mono H2.out.size))
    go_wp2_with fail
    go_ret
    exact ⟨H3.out, by rw [HE.out]; rfl⟩
set_option maxHeartbeats 400000 in
theorem ref_Sig (p r : ByteArray) (hp : p.size ≤ 140737488351232) (hr : r.size ≤ 140737488351232) (w : World) :
    Calls Tryd.prog 50 #[.agg #[.string p, .string r]] w fun e w' => Below w.heap.size w w' ∧ e = .returned (.bool (sigB p r)) := by
  have HP := Lib.hid (fun W => ref_Letters p 8 hp W)
  have HR := Lib.hid (fun W => ref_Letters r 8 hr W)
  have HE : Hid (sigB p r = (letB 8 p.data.toList && letB 8 r.data.toList)) := Lib.hid rfl
  generalize letB 8 p.data.toList = bp at *
  generalize letB 8 r.data.toList = br at *
  go_enter Tryd.func50, Tryd.ntmps50
  go_wp2_with fail
  generalize hw : w.alloc (.cells #[.string p, .string r] 81) = w1
  have hblk : Blk w1 w.heap.size 81 [.string p, .string r] := by rw [← hw]; exact Blk.new w 81 [.string p, .string r]
  have H1 : Hid (Below w.heap.size w w1) := by rw [← hw]; exact Lib.hid ((Below.refl _ _).alloc (Nat.le_refl _) _)
  have hc1 : w1.cell? ⟨w.heap.size, 1, none⟩ = some (.string r) := hblk.cell 1
  clear hblk hw
  refine (HP.out w1).mono ?_
  rintro e w' ⟨rfl, rfl⟩
  cases bp with
  | false =>
    go_wp2_with fail
    go_ret
    exact ⟨H1.out, by rw [HE.out]; rfl⟩
  | true =>
    go_wp2_with fail
    refine (HR.out _).mono ?_
    rintro e w' ⟨rfl, rfl⟩
    go_wp2_with fail
    go_ret
    exact ⟨H1.out, by rw [HE.out]; rfl⟩
theorem sig_size {p r : ByteArray} (h : sigB p r = true) : p.size ≤ 8 ∧ r.size ≤ 8 := by
  unfold sigB letB at h
  simp only [Bool.and_eq_true, decide_eq_true_eq] at h
  have h1 : p.data.toList.length = p.size := by simp
  have h2 : r.data.toList.length = r.size := by simp
  omega
def wordS (p r : ByteArray) : ByteArray × Nat := if sigB p r = true then (sideS p ++ arrow ++ sideS r, 0) else (none_, 15)
set_option maxRecDepth 100000 in
set_option maxHeartbeats 400000 in
theorem types_Word (p r : ByteArray) (hp : p.size ≤ 140737488351232) (hr : r.size ≤ 140737488351232) (w : World) :
    Calls Tryd.prog 88 #[.agg #[.string p, .string r]] w fun e w' => Below w.heap.size w w' ∧ e = .returned (.tuple #[.string (wordS p r).1, .int .i64 (wordS p r).2]) := by
  have HS := Lib.hid (fun W => types_Sig p r hp hr W)
  have HP := Lib.hid (fun W => types_said p W)
  have HR := Lib.hid (fun W => types_said r W)
  cases hb : sigB p r with
  | false =>
    have HE : Hid (wordS p r = (none_, 15)) := Lib.hid (by unfold wordS; rw [hb]; rfl)
    rw [hb] at HS
    clear hb
    go_enter Tryd.func88, Tryd.ntmps88
    go_wp2_with fail
    refine (HS.out _).mono ?_
    rintro e w1 ⟨h1, rfl⟩
    have H1 : Hid (Below w.heap.size w w1) := Lib.hid (((Below.refl _ _).alloc (Nat.le_refl _) _).trans (h1.mono (by simp)))
    clear h1
    go_wp2_with fail
    go_ret2
    exact ⟨H1.out, by rw [HE.out]; rfl⟩
  | true =>
    have HE : Hid (wordS p r = (sideS p ++ ⟨#[32, 45, 62, 32]⟩ ++ sideS r, 0)) := Lib.hid (by unfold wordS; rw [hb]; rfl)
    have hpa : (sideS p).size ≤ 100 := by have := (sig_size hb).1; unfold sideS; split <;> (try (have : dash.size = 1 := rfl)) <;> omega
    have hra : (sideS r).size ≤ 100 := by have := (sig_size hb).2; unfold sideS; split <;> (try (have : dash.size = 1 := rfl)) <;> omega
    have hsz : (sideS p ++ (⟨#[32, 45, 62, 32]⟩ : ByteArray)).size = (sideS p).size + 4 := ByteArray.size_append
    have hs4 : (⟨#[32, 45, 62, 32]⟩ : ByteArray).size = 4 := rfl
    rw [hb] at HS
    clear hb
    go_enter Tryd.func88, Tryd.ntmps88
    go_wp2_with fail
    generalize hw : w.alloc (.cells #[.string p, .string r] 81) = w1
    have hblk : Blk w1 w.heap.size 81 [.string p, .string r] := by rw [← hw]; exact Blk.new w 81 [.string p, .string r]
    have H1 : Hid (Below w.heap.size w w1) := by rw [← hw]; exact Lib.hid ((Below.refl _ _).alloc (Nat.le_refl _) _)
    have Hb := Lib.hid hblk; clear hblk hw
    refine (HS.out w1).mono ?_
    rintro e w2 ⟨h2, rfl⟩
    have H2 : Hid (Below w.heap.size w w2) := Lib.hid (H1.out.trans (h2.mono H1.out.size))
    have Hb2 : Hid (Blk w2 w.heap.size 81 [.string p, .string r]) := Lib.hid (Hb.out.below h2 Hb.out.lt)
    clear h2 Hb H1
    have hc0 : w2.cell? ⟨w.heap.size, 0, none⟩ = some (.string p) := Hb2.out.cell 0
    have hc1 : w2.cell? ⟨w.heap.size, 1, none⟩ = some (.string r) := Hb2.out.cell 1
    go_wp2_with fail
    generalize sideS p = a at *
    generalize sideS r = b at *
    go_quiet ((go_at_call 97; first | exact quiet_on (HP.out _) | exact quiet_on (HR.out _)))
    go_wp2_with fail
    go_ret2
    exact ⟨below_drewN H2.out _, by rw [HE.out]; rfl⟩
end Go.Proofs.YtndkhlafpcedbaaDoor
