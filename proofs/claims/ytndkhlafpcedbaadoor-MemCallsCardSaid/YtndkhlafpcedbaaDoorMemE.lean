/- mem: what is not made; Size; a bad New. -/
import Derived.Test.YtndkhlafpcedbaaDoorMemA
import Derived.Deep.MidRow
import Derived.ChangeKeysEq
import Derived.Laws.StructEq
namespace Go.Proofs.YtndkhlafpcedbaaDoor
set_option linter.unusedVariables false
open Go.RowKit
/-- No memory: nil, or a plain one. -/
def NoMem (p : Value) (w : World) : Prop := p = .pointer none ∨ ∃ b, p = .pointer (some ⟨b, 0, none⟩) ∧ w.cell? ⟨b, 0, none⟩ = some (.bool false)
set_option maxRecDepth 100000 in
set_option maxHeartbeats 400000 in
theorem nm_ok (p : Value) (w : World) (hp : NoMem p w) :
    Calls Tryd.prog 84 #[p] w fun e w' => w = w' ∧ e = .returned (.bool false) := by
  rcases hp with rfl | ⟨b, rfl, hc⟩
  · go_enter Tryd.func84, Tryd.ntmps84
    go_wp2_with fail
    go_ret
    exact ⟨rfl, rfl⟩
  · go_enter Tryd.func84, Tryd.ntmps84
    go_wp2_with fail
    go_ret
    exact ⟨rfl, rfl⟩
set_option maxRecDepth 100000 in
set_option maxHeartbeats 400000 in
theorem nm_lies (p : Value) (a : Nat) (n : Int) (w : World) (hp : NoMem p w) :
    Calls Tryd.prog 85 #[p, .int .u64 a, .int .i64 n] w fun e w' => w = w' ∧ e = .returned (.bool false) := by
  have HO := Lib.hid (nm_ok p w hp)
  clear hp
  go_enter Tryd.func85, Tryd.ntmps85
  go_wp2_with fail
  refine HO.out.mono ?_
  rintro e w' ⟨rfl, rfl⟩
  go_wp2_with fail
  go_ret
  exact ⟨rfl, rfl⟩
set_option maxRecDepth 100000 in
set_option maxHeartbeats 400000 in
theorem nm_Load (p : Value) (a : Nat) (n : Int) (w : World) (hp : NoMem p w) :
    Calls Tryd.prog 31 #[p, .int .u64 a, .int .i64 n] w fun e w' => w = w' ∧ e = .returned (.tuple #[.int .u64 0, .bool false]) := by
  have HO := Lib.hid (nm_lies p a n w hp)
  clear hp
  go_enter Tryd.func31, Tryd.ntmps31
  go_wp2_with fail
  refine HO.out.mono ?_
  rintro e w' ⟨rfl, rfl⟩
  go_wp2_with fail
  go_ret2
  exact ⟨rfl, rfl⟩
set_option maxRecDepth 100000 in
set_option maxHeartbeats 400000 in
theorem nm_Store (p : Value) (a v : Nat) (n : Int) (w : World) (hp : NoMem p w) :
    Calls Tryd.prog 33 #[p, .int .u64 a, .int .i64 n, .int .u64 v] w fun e w' => w = w' ∧ e = .returned (.bool false) := by
  have HO := Lib.hid (nm_lies p a n w hp)
  clear hp
  go_enter Tryd.func33, Tryd.ntmps33
  go_wp2_with fail
  refine HO.out.mono ?_
  rintro e w' ⟨rfl, rfl⟩
  go_wp2_with fail
  go_ret
  exact ⟨rfl, rfl⟩
set_option maxRecDepth 100000 in
set_option maxHeartbeats 400000 in
theorem nm_Size (p : Value) (w : World) (hp : NoMem p w) :
    Calls Tryd.prog 26 #[p] w fun e w' => w = w' ∧ e = .returned (.int .i64 0) := by
  have HO := Lib.hid (nm_ok p w hp)
  clear hp
  go_enter Tryd.func26, Tryd.ntmps26
  go_wp2_with fail
  refine HO.out.mono ?_
  rintro e w' ⟨rfl, rfl⟩
  go_wp2_with fail
  go_ret
  exact ⟨rfl, rfl⟩
set_option maxRecDepth 100000 in
set_option maxHeartbeats 400000 in
theorem nm_Grow (p : Value) (n : Nat) (w : World) (hp : NoMem p w) :
    Calls Tryd.prog 35 #[p, .int .u64 n] w fun e w' => w = w' ∧ e = .returned (.int .i64 0) := by
  have HO := Lib.hid (nm_ok p w hp)
  clear hp
  go_enter Tryd.func35, Tryd.ntmps35
  go_wp2_with fail
  refine HO.out.mono ?_
  rintro e w' ⟨rfl, rfl⟩
  go_wp2_with fail
  go_ret
  exact ⟨rfl, rfl⟩
set_option maxRecDepth 100000 in
set_option maxHeartbeats 400000 in
theorem nm_Pages (p : Value) (w : World) (hp : NoMem p w) :
    Calls Tryd.prog 28 #[p] w fun e w' => w = w' ∧ e = .returned (.slice none 0 0) := by
  have HO := Lib.hid (nm_ok p w hp)
  clear hp
  go_enter Tryd.func28, Tryd.ntmps28
  go_wp2_with fail
  refine HO.out.mono ?_
  rintro e w' ⟨rfl, rfl⟩
  go_wp2_with fail
  go_ret
  exact ⟨rfl, rfl⟩
set_option maxRecDepth 100000 in
set_option maxHeartbeats 400000 in
theorem nm_Dirty (p : Value) (w : World) (hp : NoMem p w) :
    Calls Tryd.prog 30 #[p] w fun e w' => w = w' ∧ e = .returned (.slice none 0 0) := by
  have HO := Lib.hid (nm_ok p w hp)
  clear hp
  go_enter Tryd.func30, Tryd.ntmps30
  go_wp2_with fail
  refine HO.out.mono ?_
  rintro e w' ⟨rfl, rfl⟩
  go_wp2_with fail
  go_ret
  exact ⟨rfl, rfl⟩
set_option maxRecDepth 100000 in
set_option maxHeartbeats 400000 in
theorem nm_Clean (p : Value) (w : World) (hp : NoMem p w) :
    Calls Tryd.prog 39 #[p] w fun e w' => w = w' ∧ e = .returned (.bool false) := by
  have HO := Lib.hid (nm_ok p w hp)
  clear hp
  go_enter Tryd.func39, Tryd.ntmps39
  go_wp2_with fail
  refine HO.out.mono ?_
  rintro e w' ⟨rfl, rfl⟩
  go_wp2_with fail
  go_ret
  exact ⟨rfl, rfl⟩
set_option maxRecDepth 100000 in
set_option maxHeartbeats 400000 in
theorem mem_Size (base : Nat) (m : MemV) (w : World) (hm : MAt base w m) :
    Calls Tryd.prog 26 #[.pointer (some ⟨m.p, 0, none⟩)] w fun e w' => w = w' ∧ e = .returned (.int .i64 m.bs.length) := by
  have HO := Lib.hid (mem_ok base m w hm)
  have hc := hm.cell1
  clear hm
  go_enter Tryd.func26, Tryd.ntmps26
  go_wp2_with fail
  refine HO.out.mono ?_
  rintro e w' ⟨rfl, rfl⟩
  go_wp2_with fail
  go_ret
  exact ⟨rfl, rfl⟩
/-- A New that is refused. -/
def newBad (n most : Int) : Prop := n < 0 ∨ most < n ∨ 64 < most
set_option maxRecDepth 100000 in
set_option maxHeartbeats 400000 in
theorem mem_New_bad (n most : Int) (h : newBad n most) (w : World) :
    Calls Tryd.prog 19 #[.int .i64 n, .int .i64 most] w fun e w' => w = w' ∧ e = .returned (.tuple #[.pointer none, .int .i64 1]) := by
  unfold newBad at h
  by_cases h1 : n < 0
  · clear h
    go_enter Tryd.func19, Tryd.ntmps19
    go_wp2_with fail
    go_ret2
    exact ⟨rfl, rfl⟩
  · have q1 : decide (n < 0) = false := decide_eq_false h1
    by_cases h2 : most < n
    · clear h h1
      go_enter Tryd.func19, Tryd.ntmps19
      go_wp2_with fail
      go_ret2
      exact ⟨rfl, rfl⟩
    · have q2 : decide (most < n) = false := decide_eq_false h2
      have h3 : 64 < most := by omega
      clear h h1 h2
      go_enter Tryd.func19, Tryd.ntmps19
      go_wp2_with fail
      go_ret2
      exact ⟨rfl, rfl⟩
end Go.Proofs.YtndkhlafpcedbaaDoor
namespace Go.Proofs.YtndkhlafpcedbaaDoor
set_option linter.unusedVariables false
open Go.RowKit
/-- A row with cells set from o on. -/
def putL : List Value → Nat → List Value → List Value
  | xs, _, [] => xs
  | xs, o, v :: r => putL (xs.set o v) (o + 1) r
theorem putL_end : ∀ (vs pre ys : List Value), ys.length = vs.length → putL (pre ++ ys) pre.length vs = pre ++ vs
  | [], pre, ys, h => by
    have : ys = [] := List.length_eq_zero_iff.1 h
    subst this; rfl
  | v :: r, pre, y :: ys, h => by
    rw [putL, List.set_append_right _ _ (Nat.le_refl _), Nat.sub_self, List.set_cons_zero]
    have := putL_end r (pre ++ [v]) ys (by simpa using h)
    rw [List.length_append, List.append_assoc, List.append_assoc] at this
    exact this
  | v :: r, pre, [], h => by simp at h
theorem Blk.sets {g : Nat} {t : TypeId} : ∀ (vs : List Value) (w : World) (xs : List Value) (o : Nat), Blk w g t xs → Blk (w.setCells g o vs) g t (putL xs o vs)
  | [], _, _, _, h => h
  | v :: r, w, xs, o, h => Blk.sets r _ _ (o + 1) (h.set o v)
theorem KeptF.setCells {F : Nat → Prop} {b : Nat} (hp : F b) : ∀ (vs : List Value) (o : Nat) (w : World), KeptF w (w.setCells b o vs) F
  | [], _, w => KeptF.refl w F
  | v :: r, o, w => (KeptF.setCell (p := ⟨b, o, none⟩) hp v).trans (KeptF.setCells hp r (o + 1) _)
def noD : List Bool := List.replicate 64 false
theorem info_marks : (Tryd.prog.info? 103).map (·.size) = some 64 := by kernel_rfl
theorem under_marks : ∃ d, Tryd.prog.underlying 103 = some d ∧ d.isRow = true := ⟨_, Tryd.underlying103, rfl⟩
section
variable {tm tp tg base : Nat} {w : World} {m : MemV}
def MemV.clean (m : MemV) : MemV := { m with d := noD }
theorem MemAt.clean (h : MemAt tm tp tg base w m) (h1 : tm ≠ tg) (h3 : tp ≠ tm) : MemAt tm tp tg base (w.setCells m.p 3 (noD.map Value.bool)) m.clean := by
  have hk : KeptF w (w.setCells m.p 3 (noD.map Value.bool)) (fun k => k = m.p) := KeptF.setCells (F := fun k => k = m.p) rfl _ _ _
  refine ⟨?_, rfl, ?_, ?_, h.len, h.apart, h.np, h.most, h.low⟩
  · have := Blk.sets (noD.map Value.bool) w m.cells 3 h.own
    have e : putL m.cells 3 (noD.map Value.bool) = m.clean.cells :=
      putL_end (noD.map Value.bool) [.bool true, .slice m.A m.bs.length m.c, .int .i64 m.most] (m.d.map .bool) (by rw [List.length_map, List.length_map, h.dl]; rfl)
    rw [e] at this
    exact this
  · refine ⟨h.row.1, ?_⟩
    rcases h.row.2 with hn | ⟨g, cap, cur, hv, hb', hg, rest⟩
    · exact .inl hn
    · refine .inr ⟨g, cap, cur, hv, hb', ?_, rest⟩
      rw [hk.block g (Array.getElem?_eq_some_iff.1 hg).1 (fun e => own_ne h.row h.own h3 (by rw [hv, ← e]; rfl))]
      exact hg
  · intro i b hib
    have hb := h.page i b hib
    exact (hk.block b hb.lt fun e => h.own.ne_ hb h1 e.symm).trans hb
theorem MemAt.clean_kept : KeptF w (w.setCells m.p 3 (noD.map Value.bool)) m.foot := KeptF.setCells (.inl rfl) _ _ _
end
set_option maxRecDepth 100000 in
set_option maxHeartbeats 400000 in
theorem mem_Clean (base : Nat) (m : MemV) (w : World) (hm : MAt base w m) :
    Calls Tryd.prog 39 #[.pointer (some ⟨m.p, 0, none⟩)] w fun e w' => e = .returned (.bool true) ∧ MAt base w' m.clean ∧ KeptF w w' m.foot := by
  have HO := Lib.hid (mem_ok base m w hm)
  have H1 := Lib.hid (hm.clean (by decide) (by decide))
  have H2 := Lib.hid (MemAt.clean_kept (w := w) (m := m))
  have ht : w.there m.p 3 (noD.map Value.bool).toArray.size := by
    intro j hj
    have hj' : j < 64 := hj
    exact ⟨by rw [hm.celld hj']; rfl, hm.own.frozen _⟩
  have Ht := Lib.hid ht; clear ht
  clear hm
  go_enter Tryd.func39, Tryd.ntmps39
  go_wp2_with fail
  refine HO.out.mono ?_
  rintro e w' ⟨rfl, rfl⟩
  go_wp2_with (refine wpList_store_mid rfl 103 _ _ rfl m.p 3 (noD.map Value.bool).toArray rfl rfl Ht.out info_marks (all_oneCell_toArray (fun v hv => by obtain ⟨_, _, rfl⟩ := List.mem_map.1 hv; rfl)) ?_)
  go_ret
  exact ⟨rfl, H1.out, H2.out⟩
end Go.Proofs.YtndkhlafpcedbaaDoor
namespace Go.Proofs.YtndkhlafpcedbaaDoor
set_option linter.unusedVariables false
open Go.RowKit
def bools (d : List Bool) : Array Value := (d.map Value.bool).toArray
theorem bools_get (d : List Bool) (i : Nat) (h : i < d.length) : (bools d)[i]? = some (.bool (d[i]?.getD false)) := by
  unfold bools
  rw [List.getElem?_toArray, List.getElem?_map, List.getElem?_eq_getElem h]
  rfl
section
variable {P : Program}
theorem run_eqItems_bools (w : World) {e : TypeId} (hu : P.underlying e = some .bool) (k : Nat) (xs ys : List Bool) : ∀ is : List Nat, (∀ i ∈ is, i < xs.length ∧ i < ys.length) →
    (Op.eqItems (k + 1) e 1 (bools xs) (bools ys) is).run P w = .ok (is.all fun i => xs[i]?.getD false == ys[i]?.getD false) w
  | [], _ => by simp [Op.eqItems]
  | i :: is, h => by
    have he : P.plainKey e = true := by unfold Program.plainKey; rw [hu]
    have hi := h i (by simp)
    have p1 : (part e (bools xs) (i * 1)).run P w = .ok (.bool (xs[i]?.getD false)) w := run_part_plain w he (by rw [Nat.mul_one]; exact bools_get xs i hi.1)
    have p2 : (part e (bools ys) (i * 1)).run P w = .ok (.bool (ys[i]?.getD false)) w := run_part_plain w he (by rw [Nat.mul_one]; exact bools_get ys i hi.2)
    have p3 : (Op.equalIn (k + 1) e (.bool (xs[i]?.getD false)) (.bool (ys[i]?.getD false))).run P w = .ok (xs[i]?.getD false == ys[i]?.getD false) w := by
      simp [Op.equalIn, run_underlying hu]
    have ih := run_eqItems_bools w hu k xs ys is (fun j hj => h j (by simp [hj]))
    simp only [Op.eqItems, Sem.run_bind, p1, p2, p3, Result.andThen_ok, List.all_cons]
    cases hb : (xs[i]?.getD false == ys[i]?.getD false)
    · simp
    · simpa using ih
theorem eqB_all (xs ys : List Bool) (n : Nat) (hx : xs.length = n) (hy : ys.length = n) : ((List.range n).all fun i => xs[i]?.getD false == ys[i]?.getD false) = decide (xs = ys) := by
  rw [Bool.eq_iff_iff]
  simp only [List.all_eq_true, List.mem_range, beq_iff_eq, decide_eq_true_eq]
  constructor
  · intro h
    apply List.ext_getElem (by omega)
    intro i h1 h2
    have := h i (by omega)
    rw [List.getElem?_eq_getElem h1, List.getElem?_eq_getElem h2] at this
    exact this
  · rintro rfl _ _; rfl
theorem run_equal_bools (w : World) {t e : TypeId} {n : Nat} {i : TypeInfo} (hu : P.underlying t = some (.array n e)) (hue : P.underlying e = some .bool) (hi : P.info? e = some i) (hs : i.size = 1)
    (xs ys : List Bool) (hx : xs.length = n) (hy : ys.length = n) : (Op.equal t (.agg (bools xs)) (.agg (bools ys))).run P w = .ok (decide (xs = ys)) w := by
  have hc : P.cellsOf e = 1 := by unfold Program.cellsOf; rw [hi]; exact hs
  show (Op.equalIn (9998 + 1 + 1) t _ _).run P w = _
  rw [run_equalIn_array w (9998 + 1) _ _ hu hi, hc, run_eqItems_bools w hue 9998 xs ys (List.range n) (fun j hj => by rw [List.mem_range] at hj; omega), eqB_all xs ys n hx hy]
theorem run_index_bools (w : World) {t e : TypeId} {n : Nat} {i : TypeInfo} (hu : P.underlying t = some (.array n e)) (hue : P.underlying e = some .bool) (hi : P.info? e = some i) (hs : i.size = 1)
    (X : Array Value) (k : Nat) (b : Bool) (hk : k < n) (hX : X[k]? = some (.bool b)) : (Instr.index t (.agg X) (.int .i64 k)).run P w = .ok (.bool b) w := by
  have he : P.plainKey e = true := by unfold Program.plainKey; rw [hue]
  have hp : (part e X k).run P w = .ok (.bool b) w := run_part_plain w he hX
  have h1 : (0 : Int) ≤ (k : Int) ∧ (k : Int) < (n : Int) := by omega
  simp [Instr.index, asIntOf, run_underlying hu, sizeOf, typeInfo, hi, hs, hp, hk]
/-- THE OPERATION at the list, guarded or not. -/
theorem wpList_eql_bools {ops : Array Oper} {rest : List Oper} {o : Oper} {a : Act} {w : World} {Q : Exit → Act → World → Prop} (hg : Region.wanted o (yielded ops a.tmps) = true) (t : TypeId) (x y : Operand) (r : TypeId) (ho : o.op = .binOp .eql t x y r)
    {e : TypeId} {n : Nat} {i : TypeInfo} (hu : P.underlying t = some (.array n e)) (hue : P.underlying e = some .bool) (hi : P.info? e = some i) (hs : i.size = 1) (hm : P.eqGuardType P.depth t = false)
    (xs ys : List Bool) (hex : a.eval x = .agg (bools xs)) (hey : a.eval y = .agg (bools ys)) (hx : xs.length = n) (hy : ys.length = n)
    (b : Bool) (hb : decide (xs = ys) = b) (h : wpList P ops Q rest (a.put o.dst (.bool b)) w) : wpList P ops Q (o :: rest) a w := by
  refine BigFrame.wpList_want hg fun K hK => ?_
  unfold Oper.wp execOp
  simp only [ho, hex, hey, Sem.run_bind, run_eqGuard_agg w .eql t x y _ _ hm, Result.andThen_ok, binOp, run_equal_bools w hu hue hi hs xs ys hx hy, Sem.run_pure]
  rw [hb]
  exact hK _ _ h
theorem wpList_load_mid_g {ops : Array Oper} {rest : List Oper} {op : Oper} {a : Act} {w : World} {Q : Exit → Act → World → Prop} (hg : Region.wanted op (yielded ops a.tmps) = true) (ty : TypeId) (x : Operand) (ho : op.op = .load ty x)
    (b o : Nat) (hx : a.eval x = .pointer (some ⟨b, o, none⟩)) (cs : List Value) (d : TypeDesc) (hc : w.rangeAt b o cs)
    (hu : P.underlying ty = some d) (hd : d.isRow = true) (hi : (P.info? ty).map (·.size) = some cs.length)
    (h : wpList P ops Q rest (a.put op.dst (.agg cs.toArray)) w) : wpList P ops Q (op :: rest) a w :=
  BigFrame.wpList_want hg fun _ hK => wp_load_mid ty x ho b o hx cs d hc hu hd hi (hK _ _ h)
end
end Go.Proofs.YtndkhlafpcedbaaDoor
