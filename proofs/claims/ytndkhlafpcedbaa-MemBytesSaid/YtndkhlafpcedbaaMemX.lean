/- The laws MemNil, MemBytes, walked. -/
import Derived.Test.YtndkhlafpcedbaaMemW
namespace Go.Proofs.Ytndkhlafpcedbaa
set_option linter.unusedVariables false
open Go.RowKit
set_option maxRecDepth 100000 in
set_option maxHeartbeats 400000 in
theorem walk_MemNil (w : World) : Calls Try.prog 10 #[] w fun e w' => e = .returned (.bool true) ∧ Below w.heap.size w w' := by
  go_enter Try.func10, Try.ntmps10
  go_wp2_with fail
  refine (nm_Load _ 0 1 w (.inl rfl)).mono ?_
  rintro e w' ⟨rfl, rfl⟩
  have hzm := zmem
  go_wp2_with fail
  generalize hw : w.alloc _ = w1
  have hc : w1.cell? ⟨w.heap.size, 0, none⟩ = some (.bool false) := by
    rw [← hw]
    exact (Blk.new w 83 _).cell 0
  have H1 : Hid (Below w.heap.size w w1) := by rw [← hw]; exact Lib.hid ((Below.refl _ _).alloc (Nat.le_refl _) _)
  clear hw
  refine (nm_Load _ 0 1 w1 (.inr ⟨_, rfl, hc⟩)).mono ?_
  rintro e w' ⟨rfl, rfl⟩
  go_wp2_with fail
  refine (works13 w1).mono ?_
  rintro e w2 ⟨rfl, h2⟩
  have H2 : Hid (Below w.heap.size w w2) := Lib.hid (H1.out.trans (h2.mono H1.out.size))
  clear h2 hc
  go_wp2_with fail
  refine (nm_Store _ 0 1 1 w2 (.inl rfl)).mono ?_
  rintro e w' ⟨rfl, rfl⟩
  go_wp2_with fail
  refine (nm_Size _ w2 (.inl rfl)).mono ?_
  rintro e w' ⟨rfl, rfl⟩
  go_wp2_with fail
  refine (nm_Grow _ 1 w2 (.inl rfl)).mono ?_
  rintro e w' ⟨rfl, rfl⟩
  go_wp2_with fail
  refine (nm_Pages _ w2 (.inl rfl)).mono ?_
  rintro e w' ⟨rfl, rfl⟩
  go_wp2_with fail
  refine (nm_Dirty _ w2 (.inl rfl)).mono ?_
  rintro e w' ⟨rfl, rfl⟩
  go_wp2_with fail
  refine (nm_Clean _ w2 (.inl rfl)).mono ?_
  rintro e w' ⟨rfl, rfl⟩
  go_wp2_with fail
  go_ret
  exact ⟨rfl, H2.out⟩
end Go.Proofs.Ytndkhlafpcedbaa
