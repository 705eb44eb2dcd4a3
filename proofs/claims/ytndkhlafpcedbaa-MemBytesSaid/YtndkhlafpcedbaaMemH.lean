/- Arrays of bools: loaded out of a block's middle, compared; where a guard wants it. No program in sight. -/
import Derived.Test.YtndkhlafpcedbaaMemF
import Derived.ChangeKeysEq
import Derived.Laws.StructEq
namespace Go.Proofs.Ytndkhlafpcedbaa
set_option linter.unusedVariables false
open Go.RowKit
def bools (d : List Bool) : Array Value := (d.map Value.bool).toArray
theorem bools_get (d : List Bool) (i : Nat) (h : i < d.length) : (bools d)[i]? = some (.bool (d[i]?.getD false)) := by
  unfold bools
  rw [List.getElem?_toArray, List.getElem?_map, List.getElem?_eq_getElem h]
  rfl
section
variable {P : Program}
theorem run_eqItems_bools (w : World) {e : TypeId} (hu : P.underlying e = some .bool) (k : Nat) (xs ys : List Bool) : ∀ is : List Nat, (∀ i ∈ is, i < xs.length ∧ i < ys.length) →
    (Op.eqItems (k + 1) e 1 (bools xs) (bools ys) is).run P w = .ok (is.all fun i => xs[i]?.getD false == ys[i]?.getD false) w
  | [], _ => by simp [Op.eqItems]
  | i :: is, h => by
    have he : P.plainKey e = true := by unfold Program.plainKey; rw [hu]
    have hi := h i (by simp)
    have p1 : (part e (bools xs) (i * 1)).run P w = .ok (.bool (xs[i]?.getD false)) w := run_part_plain w he (by rw [Nat.mul_one]; exact bools_get xs i hi.1)
    have p2 : (part e (bools ys) (i * 1)).run P w = .ok (.bool (ys[i]?.getD false)) w := run_part_plain w he (by rw [Nat.mul_one]; exact bools_get ys i hi.2)
    have p3 : (Op.equalIn (k + 1) e (.bool (xs[i]?.getD false)) (.bool (ys[i]?.getD false))).run P w = .ok (xs[i]?.getD false == ys[i]?.getD false) w := by
      simp [Op.equalIn, run_underlying hu]
    have ih := run_eqItems_bools w hu k xs ys is (fun j hj => h j (by simp [hj]))
    simp only [Op.eqItems, Sem.run_bind, p1, p2, p3, Result.andThen_ok, List.all_cons]
    cases hb : (xs[i]?.getD false == ys[i]?.getD false)
    · simp
    · simpa using ih
theorem eqB_all (xs ys : List Bool) (n : Nat) (hx : xs.length = n) (hy : ys.length = n) : ((List.range n).all fun i => xs[i]?.getD false == ys[i]?.getD false) = decide (xs = ys) := by
  rw [Bool.eq_iff_iff]
  simp only [List.all_eq_true, List.mem_range, beq_iff_eq, decide_eq_true_eq]
  constructor
  · intro h
    apply List.ext_getElem (by omega)
    intro i h1 h2
    have := h i (by omega)
    rw [List.getElem?_eq_getElem h1, List.getElem?_eq_getElem h2] at this
    exact this
  · rintro rfl _ _; rfl
theorem run_equal_bools (w : World) {t e : TypeId} {n : Nat} {i : TypeInfo} (hu : P.underlying t = some (.array n e)) (hue : P.underlying e = some .bool) (hi : P.info? e = some i) (hs : i.size = 1)
    (xs ys : List Bool) (hx : xs.length = n) (hy : ys.length = n) : (Op.equal t (.agg (bools xs)) (.agg (bools ys))).run P w = .ok (decide (xs = ys)) w := by
  have hc : P.cellsOf e = 1 := by unfold Program.cellsOf; rw [hi]; exact hs
  show (Op.equalIn (9998 + 1 + 1) t _ _).run P w = _
  rw [run_equalIn_array w (9998 + 1) _ _ hu hi, hc, run_eqItems_bools w hue 9998 xs ys (List.range n) (fun j hj => by rw [List.mem_range] at hj; omega), eqB_all xs ys n hx hy]
theorem run_index_bools (w : World) {t e : TypeId} {n : Nat} {i : TypeInfo} (hu : P.underlying t = some (.array n e)) (hue : P.underlying e = some .bool) (hi : P.info? e = some i) (hs : i.size = 1)
    (X : Array Value) (k : Nat) (b : Bool) (hk : k < n) (hX : X[k]? = some (.bool b)) : (Instr.index t (.agg X) (.int .i64 k)).run P w = .ok (.bool b) w := by
  have he : P.plainKey e = true := by unfold Program.plainKey; rw [hue]
  have hp : (part e X k).run P w = .ok (.bool b) w := run_part_plain w he hX
  have h1 : (0 : Int) ≤ (k : Int) ∧ (k : Int) < (n : Int) := by omega
  simp [Instr.index, asIntOf, run_underlying hu, sizeOf, typeInfo, hi, hs, hp, hk]
/-- THE OPERATION at the list, guarded or not. -/
theorem wpList_eql_bools {ops : Array Oper} {rest : List Oper} {o : Oper} {a : Act} {w : World} {Q : Exit → Act → World → Prop} (hg : Region.wanted o (yielded ops a.tmps) = true) (t : TypeId) (x y : Operand) (r : TypeId) (ho : o.op = .binOp .eql t x y r)
    {e : TypeId} {n : Nat} {i : TypeInfo} (hu : P.underlying t = some (.array n e)) (hue : P.underlying e = some .bool) (hi : P.info? e = some i) (hs : i.size = 1) (hm : P.eqGuardType P.depth t = false)
    (xs ys : List Bool) (hex : a.eval x = .agg (bools xs)) (hey : a.eval y = .agg (bools ys)) (hx : xs.length = n) (hy : ys.length = n)
    (b : Bool) (hb : decide (xs = ys) = b) (h : wpList P ops Q rest (a.put o.dst (.bool b)) w) : wpList P ops Q (o :: rest) a w := by
  refine BigFrame.wpList_want hg fun K hK => ?_
  unfold Oper.wp execOp
  simp only [ho, hex, hey, Sem.run_bind, run_eqGuard_agg w .eql t x y _ _ hm, Result.andThen_ok, binOp, run_equal_bools w hu hue hi hs xs ys hx hy, Sem.run_pure]
  rw [hb]
  exact hK _ _ h
theorem wpList_load_mid_g {ops : Array Oper} {rest : List Oper} {op : Oper} {a : Act} {w : World} {Q : Exit → Act → World → Prop} (hg : Region.wanted op (yielded ops a.tmps) = true) (ty : TypeId) (x : Operand) (ho : op.op = .load ty x)
    (b o : Nat) (hx : a.eval x = .pointer (some ⟨b, o, none⟩)) (cs : List Value) (d : TypeDesc) (hc : w.rangeAt b o cs)
    (hu : P.underlying ty = some d) (hd : d.isRow = true) (hi : (P.info? ty).map (·.size) = some cs.length)
    (h : wpList P ops Q rest (a.put op.dst (.agg cs.toArray)) w) : wpList P ops Q (op :: rest) a w :=
  BigFrame.wpList_want hg fun _ hK => wp_load_mid ty x ho b o hx cs d hc hu hd hi (hK _ _ h)
end
end Go.Proofs.Ytndkhlafpcedbaa
