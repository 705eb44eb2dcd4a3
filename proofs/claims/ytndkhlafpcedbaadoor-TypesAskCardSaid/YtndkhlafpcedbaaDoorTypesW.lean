/- flagonlaw02.works: the anchor of layer 2. -/
import Derived.Test.YtndkhlafpcedbaaDoorTypesF
import Derived.Test.YtndkhlafpcedbaaDoorLists
import Derived.Laws.StructEq
namespace Go.Proofs.YtndkhlafpcedbaaDoor
set_option linter.unusedVariables false
open Go.RowKit
theorem word_w : wordS ⟨#[119, 108]⟩ ⟨#[]⟩ = (⟨#[119, 108, 32, 45, 62, 32, 45]⟩, 0) := by decide +kernel
theorem read_w : readS ⟨#[45, 32, 45, 62, 32, 108]⟩ = (⟨#[]⟩, ⟨#[108]⟩, 0) := by decide +kernel
theorem shape_w : letB 256 (⟨#[119, 108]⟩ : ByteArray).data.toList = true := by decide +kernel
theorem shape_x : letB 256 (⟨#[119, 120]⟩ : ByteArray).data.toList = false := by decide +kernel
theorem all_w : allB [1] (⟨#[108]⟩ : ByteArray).data.toList = true := by decide +kernel
theorem fit_w : fitN 7 119 = true := by decide +kernel
theorem fit_x : fitN 4294967296 119 = false := by decide +kernel
set_option maxRecDepth 100000 in
set_option maxHeartbeats 1000000 in
theorem works02 (m : Int) (w : World) (h0 : 0 < w.heap.size) (hm : w.cell? ⟨0, 0, none⟩ = some (.int .i64 m)) : Calls Tryd.prog 43 #[] w fun e w' => e = .returned (.bool true) ∧ Below w.heap.size w w' := by
  have Hm := Lib.hid hm; clear hm
  go_enter Tryd.func43, Tryd.ntmps43
  go_wp2_with fail
  refine (types_Word ⟨#[119, 108]⟩ ⟨#[]⟩ (by decide) (by decide) w).mono ?_
  rw [word_w]
  rintro e w1 ⟨h1, rfl⟩
  have H1 := Lib.hid h1; clear h1
  go_wp2_with fail
  refine (types_ReadSig ⟨#[45, 32, 45, 62, 32, 108]⟩ (by decide) m w1 (by rw [H1.out.cell (p := ⟨0, 0, none⟩) h0]; exact Hm.out)).mono ?_
  rw [read_w]
  rintro e w2 ⟨h2, rfl⟩
  have H2 := Lib.hid (H1.out.trans (h2.mono H1.out.size)); clear h2
  go_wp2_with fail
  generalize hw : w2.alloc (.cells #[.string ⟨#[]⟩, .string ⟨#[108]⟩] 81) = w3
  have Hx : Hid (Blk w3 w2.heap.size 81 [.string ⟨#[]⟩, .string ⟨#[108]⟩]) := by rw [← hw]; exact Lib.hid (Blk.new w2 81 [.string ⟨#[]⟩, .string ⟨#[108]⟩])
  have H3 : Hid (Below w.heap.size w w3) := by rw [← hw]; exact Lib.hid (H2.out.alloc H2.out.size _)
  clear hw
  refine (types_Shape ⟨#[119, 108]⟩ (by decide) w3).mono ?_
  rw [shape_w]
  rintro e w4 ⟨h4, rfl⟩
  have H4 := Lib.hid (H3.out.trans (h4.mono H3.out.size))
  have Hx4 := Lib.hid (Hx.out.below h4 Hx.out.lt); clear h4 Hx
  go_wp2_with fail
  refine (types_Shape ⟨#[119, 120]⟩ (by decide) w4).mono ?_
  rw [shape_x]
  rintro e w5 ⟨h5, rfl⟩
  have H5 := Lib.hid (H4.out.trans (h5.mono H4.out.size))
  have Hx5 := Lib.hid (Hx4.out.below h5 Hx4.out.lt); clear h5 Hx4
  go_wp2_with fail
  refine (types_Fits 7 119 (by omega) w5).mono ?_
  rw [fit_w]
  rintro e w' ⟨rfl, rfl⟩
  go_wp2_with fail
  refine (types_Fits 4294967296 119 (by omega) w5).mono ?_
  rw [fit_x]
  rintro e w' ⟨rfl, rfl⟩
  go_wp2_with fail
  generalize hw : w5.alloc (.cells #[.int .u64 1] 22) = w6
  have HR : Hid (Row w6 (w5.heap.size + 1) (some ⟨w5.heap.size, 0, none⟩) ([1].map uv)) := by rw [← hw]; exact Lib.hid (row_lit w5 [.int .u64 1] 22)
  have H6 : Hid (Below w.heap.size w w6) := by rw [← hw]; exact Lib.hid (H5.out.alloc H5.out.size _)
  have hs6 : w5.heap.size + 1 ≤ w6.heap.size := by rw [← hw]; simp
  have Hx6 : Hid (Blk w6 w2.heap.size 81 [.string ⟨#[]⟩, .string ⟨#[108]⟩]) := by rw [← hw]; exact Lib.hid (Hx5.out.alloc _)
  clear hw Hx5
  refine (types_All _ 1 1 _ [1] ⟨#[108]⟩ w6 rfl HR.out hs6 (by decide)).mono ?_
  rw [all_w]
  rintro e w7 ⟨h7, rfl⟩
  have H7 := Lib.hid (H6.out.trans (h7.mono H6.out.size))
  have Hx7 := Lib.hid (Hx6.out.below h7 Hx6.out.lt); clear h7 Hx6
  have hx0 : w7.cell? ⟨w2.heap.size, 0, none⟩ = some (.string ⟨#[]⟩) := Hx7.out.cell 0
  have hx1 : w7.cell? ⟨w2.heap.size, 1, none⟩ = some (.string ⟨#[108]⟩) := Hx7.out.cell 1
  go_wp2_with fail
  trace_state
  go_ret
  exact ⟨rfl, H7.out⟩
end Go.Proofs.YtndkhlafpcedbaaDoor
