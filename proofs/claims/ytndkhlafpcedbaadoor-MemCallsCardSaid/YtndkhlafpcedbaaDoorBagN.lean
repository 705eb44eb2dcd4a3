/- flagonref00.num: a mark. -/
import Derived.Test.YtndkhlafpcedbaaDoorBagP
import Derived.Test.YtndkhlafpcedbaaDoorProg
import Derived.Handy
import Derived.StillTailTactics
namespace Go.Proofs.YtndkhlafpcedbaaDoor
set_option linter.unusedVariables false
open Go.RowKit
set_option maxRecDepth 100000 in
theorem bag_num (k i : Nat) (hk : k ≤ 300) (hi : i ≤ 10000100) (w : World) : Calls Tryd.prog 90 #[.int .i64 (k : Int), .int .i64 (i : Int)] w fun e w' => e = .returned (.int .i64 ((1048576 * k + i + 1 : Nat) : Int)) ∧ w = w' := by
  have h0 : (0 : Int) ≤ k := by omega
  have h1 : (0 : Int) ≤ i := by omega
  go_enter Tryd.func90, Tryd.ntmps90
  go_wp2_with fail
  go_ret
  exact ⟨by simp, rfl⟩
theorem MA.drew {base : Nat} {e : TypeId} {mk : Nat → Nat → Value} {bl : List Hd} {W : World} {k i : Nat} (h : MA base e mk bl W k i) : MA base e mk bl W.drew k i := h
theorem KeptB.drew {w W : World} {F : Nat → Prop} (h : KeptB w W F) : KeptB w W.drew F := h.drewN 1
end Go.Proofs.YtndkhlafpcedbaaDoor
