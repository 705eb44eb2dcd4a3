/- flagonlaw01.works: the anchor of layer 1. -/
import Derived.Test.YtndkhlafpcedbaaDoorWireD
import Derived.Test.YtndkhlafpcedbaaDoorWireF
import Derived.Test.YtndkhlafpcedbaaDoorEq
import Derived.Test.YtndkhlafpcedbaaDoorLists
namespace Go.Proofs.YtndkhlafpcedbaaDoor
set_option linter.unusedVariables false
open Go.RowKit
theorem uvar_a : uvar [1, 172, 2] 1 = (300, 3, 0) := by decide +kernel
theorem uvar_b : uvar [1] 0 = (1, 1, 0) := by decide +kernel
theorem uvar_c : uvar [128, 0] 0 = (0, 0, 12) := by decide +kernel
theorem enc_300 : enc 300 = [172, 2] := by rw [enc_great _ (by omega), enc_small _ (by omega)]; rfl
set_option maxRecDepth 100000 in
set_option maxHeartbeats 400000 in
theorem works01 (w : World) : Calls Tryd.prog 7 #[] w fun e w' => e = .returned (.bool true) ∧ Below w.heap.size w w' := by
  go_enter Tryd.func7, Tryd.ntmps7
  go_wp2_with fail
  generalize hw : w.alloc (.cells #[.int .u8 1, .int .u8 172, .int .u8 2] 5) = w1
  have HR : Hid (Row w1 (w.heap.size + 1) (some ⟨w.heap.size, 0, none⟩) ([1, 172, 2].map bv)) := by rw [← hw]; exact Lib.hid (row_lit w [.int .u8 1, .int .u8 172, .int .u8 2] 5)
  have H1 : Hid (Below w.heap.size w w1) := by rw [← hw]; exact Lib.hid ((Below.refl _ _).alloc (Nat.le_refl _) _)
  clear hw
  refine (wire_ReadUvar _ 3 3 _ 1 _ [1, 172, 2] rfl (by omega) HR.out).mono ?_
  rw [uvar_a]
  rintro e w' ⟨rfl, rfl⟩
  clear HR
  go_wp2_with fail
  generalize hw : w1.alloc (.cells #[.int .u8 1] 5) = w2
  have HR : Hid (Row w2 (w1.heap.size + 1) (some ⟨w1.heap.size, 0, none⟩) ([1].map bv)) := by rw [← hw]; exact Lib.hid (row_lit w1 [.int .u8 1] 5)
  have H2 : Hid (Below w.heap.size w w2) := by rw [← hw]; exact Lib.hid (H1.out.alloc H1.out.size _)
  clear hw
  refine (wire_ReadSvar _ 1 1 _ 0 _ [1] rfl (by omega) HR.out).mono ?_
  rw [uvar_b]
  rintro e w' ⟨rfl, rfl⟩
  rw [show unfolded (1, 1, 0).1 = -1 from rfl]
  clear HR
  go_wp2_with fail
  generalize hw : w2.alloc (.cells #[.int .u8 128, .int .u8 0] 5) = w3
  have HR : Hid (Row w3 (w2.heap.size + 1) (some ⟨w2.heap.size, 0, none⟩) ([128, 0].map bv)) := by rw [← hw]; exact Lib.hid (row_lit w2 [.int .u8 128, .int .u8 0] 5)
  have H3 : Hid (Below w.heap.size w w3) := by rw [← hw]; exact Lib.hid (H2.out.alloc H2.out.size _)
  clear hw
  refine (wire_ReadUvar _ 2 2 _ 0 _ [128, 0] rfl (by omega) HR.out).mono ?_
  rw [uvar_c]
  rintro e w' ⟨rfl, rfl⟩
  clear HR
  go_wp2_with fail
  refine (wire_Uvar 300 (by omega) w3).mono ?_
  rw [enc_300]
  rintro e w4 ⟨A, c, rfl, h1, h2⟩
  have H4 : Hid (Below w.heap.size w w4) := Lib.hid (H3.out.trans (h2.mono H3.out.size))
  have HU : Hid (Row w4 w4.heap.size A ([172, 2].map bv)) := Lib.hid (Row.own h1)
  clear h1 h2
  go_wp2_with fail
  generalize hw : w4.alloc (.cells #[.int .u8 172, .int .u8 2] 5) = w5
  have HR : Hid (Row w5 (w4.heap.size + 1) (some ⟨w4.heap.size, 0, none⟩) ([172, 2].map bv)) := by rw [← hw]; exact Lib.hid (row_lit w4 [.int .u8 172, .int .u8 2] 5)
  have HU2 : Hid (Row w5 w4.heap.size A ([172, 2].map bv)) := by rw [← hw]; exact Lib.hid (HU.out.below ((Below.refl _ _).alloc (Nat.le_refl _) _))
  have H5 : Hid (Below w.heap.size w w5) := by rw [← hw]; exact Lib.hid (H4.out.alloc H4.out.size _)
  clear hw
  refine (eq_bytes _ _ 2 2 _ _ _ _ w5 [172, 2] [172, 2] rfl rfl (by omega) HU2.out HR.out).mono ?_
  rintro e w' ⟨⟨k, rfl⟩, rfl⟩
  rw [show decide (([172, 2] : List UInt8) = [172, 2]) = true from rfl]
  go_wp2_with fail
  go_ret
  exact ⟨rfl, below_drewN H5.out k⟩
end Go.Proofs.YtndkhlafpcedbaaDoor
