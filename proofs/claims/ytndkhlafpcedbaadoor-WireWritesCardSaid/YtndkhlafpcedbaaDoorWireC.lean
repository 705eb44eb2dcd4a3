/- wire's and the reference's ReadSvar, ReadCount, ReadText. -/
import Derived.Test.YtndkhlafpcedbaaDoorWireA
import Derived.Test.YtndkhlafpcedbaaDoorWireB
import Derived.Lib.Hide
namespace Go.Proofs.YtndkhlafpcedbaaDoor
set_option linter.unusedVariables false
open Go.RowKit
set_option maxRecDepth 100000 in
theorem wire_ReadSvar (A : Option Addr) (n cap B : Nat) (p : Int) (w : World) (l : List UInt8) (hn : n = l.length) (h47 : n ≤ 140737488351232) (hr : Row w B A (l.map bv)) :
    Calls Tryd.prog 61 #[.slice A n cap, .int .i64 p] w fun e w' => w = w' ∧ e = .returned (.tuple #[.int .i64 (unfolded (uvar l p).1), .int .i64 (uvar l p).2.1, .int .i64 (uvar l p).2.2]) := by
  have HC := Lib.hid (wire_ReadUvar A n cap B p w l hn h47 hr)
  obtain ⟨f1, f2, f3, f4, f5⟩ := uvar_facts l p
  clear hn hr f4 f3
  generalize uvar l p = r at *
  obtain ⟨v, nx, e⟩ := r
  simp only at HC f1 f2 f5 ⊢
  go_enter Tryd.func61, Tryd.ntmps61
  go_wp2_with (go_at_call 60; refine HC.out.mono ?_; rintro e w' ⟨rfl, rfl⟩)
  go_ret3
  exact ⟨rfl, ret3 (unfold_wire v f1) rfl rfl⟩
end Go.Proofs.YtndkhlafpcedbaaDoor
