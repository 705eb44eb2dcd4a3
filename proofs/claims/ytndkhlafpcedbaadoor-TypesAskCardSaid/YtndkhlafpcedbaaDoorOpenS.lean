/- Arguments opened: a struct of two strings. No program in sight. -/
import Derived.Test.YtndkhlafpcedbaaDoorOpen
import Derived.Lib.SmallJoins
namespace Go.Proofs.YtndkhlafpcedbaaDoor
set_option linter.unusedVariables false
open Go.ChangeShapes Go.WideShapes Go.RowKit Go.Joins Go.Deep Go.WideElems Go.Maps
section
variable {H : Type} {enc : TypeId × Value → H} {P : Program} {w : World} {base : Nat} {spare : Nat → Bool} {held : Bool}
theorem open_str2 {r : Reach} {b0 : Nat} {t : TypeId} {f0 f1 : Field} {v : Value} {d : DataW H} {p : List MemPlace} (hs : P.underlying t = some (.struct #[f0, f1])) (hone : oneCellFields P #[f0, f1] = true) (hC : P.cellsOf t = 2)
    (h0 : P.underlying f0.type = some .string) (h1 : P.underlying f1.type = some .string)
    (hv : Value.okWide P w r b0 t v) (h : DataW.Trod enc P w base spare held t v d p) :
    ∃ x y : ByteArray, v = .agg #[.string x, .string y] ∧ ∀ (ts : List TypeId) (ds : List (DataW H)) (j : Nat), (DataW.weightsEach P ts ds).all (· ≤ reachBytes) = true → ts[j]? = some t → ds[j]? = some d → x.size ≤ 140737488351232 ∧ y.size ≤ 140737488351232 := by
  obtain ⟨v0, v1, y0, y1, n, rfl, rfl, rfl, e0, e1⟩ := open_agg2 hs hone hC hv h
  obtain ⟨x, hx, rfl, _⟩ := DataW.trod_string h0 e0
  obtain ⟨y, hy, rfl, _⟩ := DataW.trod_string h1 e1
  injection hx with hx _
  injection hy with hy _
  subst hx hy
  refine ⟨x, y, rfl, fun ts ds j hs2 ht hd => ?_⟩
  have g := fun n hn => List.all_eq_true.1 hs2 n (DataW.weights_mem_each ht hd n hn)
  have hw : (DataW.weights (H := H) P t (.agg [.lit (.string x.data.toList), .lit (.string y.data.toList)]) : List Nat) = [x.data.toList.length, y.data.toList.length] := by
    simp [DataW.weights, hs, DataW.weightsEach]
  rw [hw] at g
  have gx := g x.data.toList.length (by simp)
  have gy := g y.data.toList.length (by simp)
  simp [reachBytes] at gx gy
  exact ⟨of_decide_eq_true gx, of_decide_eq_true gy⟩
end
end Go.Proofs.YtndkhlafpcedbaaDoor
