/- mem: New. -/
import Derived.Test.YtndkhlafpcedbaaDoorMemC
import Derived.Test.YtndkhlafpcedbaaDoorMemV
import Derived.KernelRfl
namespace Go.Proofs.YtndkhlafpcedbaaDoor
set_option linter.unusedVariables false
open Go.RowKit
theorem zpage : Tryd.zeroCells108 = (zpageB.map bv).toArray := by kernel_rfl
theorem Tryd.info_pg : (Tryd.prog.info? 106).map (fun i => (i.zero, i.size, i.bytes)) = some (some (.pointer none), 1, 8) := by kernel_rfl
theorem zmem : Tryd.zeroCells105 = (Value.bool false :: .slice none 0 0 :: .int .i64 0 :: (List.replicate 64 false).map Value.bool).toArray := by kernel_rfl
/-- append of a page's pointer onto a row of the call's own, at this program. -/
theorem app_page (w : World) {ops : Array Oper} {rest : List Oper} {o : Oper} {a : Act} {Q : Exit → Act → World → Prop} (hgd : o.guard = none) (s x : Operand)
    (ho : o.op = .call { callee := .builtin .append, args := #[s, x], argTypes := #[101, 101] }) (base : Nat)
    (A : Option Addr) (n c : Nat) (xs : List Value) (hs : a.eval s = .slice A n c) (hown : w.ownsRow base 106 1 (.slice A n c) n xs)
    (B : Nat) (A2 : Option Addr) (m c2 : Nat) (ys : List Value) (hx : a.eval x = .slice A2 m c2) (hm : m = ys.length) (hr : Row w B A2 ys) (h1 : ∀ u ∈ ys, u.oneCell' = true)
    (h47 : n + m ≤ 1000000) (hbase : base ≤ w.heap.size)
    (h : ∀ A' c' w', w'.ownsRow base 106 1 (.slice A' (n + m) c') (n + m) (xs ++ ys) → w.grownBy w' (Value.slice A n c).ownBlock →
      ((Value.slice A' (n + m) c').ownBlock = (Value.slice A n c).ownBlock ∨ (Value.slice A' (n + m) c').ownBlock = some w.heap.size) → wpList Tryd.prog ops Q rest (a.put o.dst (.slice A' (n + m) c')) w') : wpList Tryd.prog ops Q (o :: rest) a w := by
  obtain ⟨i0, hi, hz, hs', hb⟩ := info_parts Tryd.info_pg
  exact wpList_app w hgd s x 101 ho base 106 i0 (.pointer none) 8 Tryd.underlying101 hi hz hs' hb rfl _ n xs hs hown B A2 m c2 ys hx hm hr h1 (by unfold maxLen; omega) (by omega) hbase h
/-- What New leaves: n pages of noughts, none dirty. -/
def NewPost (n most : Nat) (w : World) (e : Ending) (w' : World) : Prop :=
  ∃ m : MemV, e = .returned (.tuple #[.pointer (some ⟨m.p, 0, none⟩), .int .i64 0]) ∧ m.most = most ∧ m.bs.length = n ∧ m.B = List.replicate (4096 * n) 0 ∧ m.d = List.replicate 64 false ∧ MAt w.heap.size w' m ∧ Below w.heap.size w w'
def NewRel (n most p : Nat) (w : World) (i : Value) (wr : World) : Prop :=
  ∃ (k : Nat) (m : MemV), k ≤ n ∧ i = .int .i64 k ∧ m.p = p ∧ m.most = most ∧ m.bs.length = k ∧ m.B = List.replicate (4096 * k) 0 ∧ m.d = List.replicate 64 false ∧ MAt w.heap.size wr m ∧ Below w.heap.size w wr
theorem new_start (w : World) (most : Nat) (h : most ≤ 64) : MAt w.heap.size (w.alloc (.cells ((Tryd.zeroCells105.setIfInBounds 0 (.bool true)).setIfInBounds 2 (.int .i64 (most : Int))) 105)) ⟨w.heap.size, none, 0, [], most, [], List.replicate 64 false⟩ := by
  refine ⟨?_, rfl, World.ownsRow_nil _ _ _ _, fun i b h => by simp at h, rfl, by simp, Nat.zero_le _, h, ⟨Nat.le_refl _, fun b h => by simp at h⟩⟩
  rw [zmem]
  exact Blk.new w _ _
set_option maxRecDepth 100000 in
set_option maxHeartbeats 1000000 in
theorem mem_New (n most : Nat) (hn : n ≤ most) (hm : most ≤ 64) (w : World) :
    Calls Tryd.prog 19 #[.int .i64 n, .int .i64 most] w (NewPost n most w) := by
  have q1 : decide ((n : Int) < 0) = false := by simp
  have q2 : ¬ (64 : Int) < most := by omega
  have q3 : decide ((64 : Int) < most) = false := by simp; omega
  have q4 : decide (most < n) = false := by simp; omega
  go_enter Tryd.func19, Tryd.ntmps19
  go_wp2_with fail
  go_loopw [22] (fun i wr => NewRel n most w.heap.size w i wr) (fun i _ => n - (intOf i).toNat)
  case atStart => exact ⟨0, _, Nat.zero_le _, rfl, rfl, rfl, rfl, rfl, rfl, new_start w most hm, (Below.refl _ _).alloc (Nat.le_refl _) _⟩
  case round =>
    obtain ⟨k, m, hk, rfl, hp, hmo, hbs, hB, hd, hmat, hbel⟩ := hrel
    have HM := Lib.hid hmat; clear hmat
    have Hbel := Lib.hid hbel; clear hbel
    have Hmo := Lib.hid hmo; clear hmo
    have HB := Lib.hid hB; clear hB
    have Hd := Lib.hid hd; clear hd
    by_cases hlt : k < n
    · have hc1 := HM.out.cell1
      have hf1 := HM.out.own.frozen 1
      rw [hp, hbs] at hc1
      rw [hp] at hf1
      have Hrow := Lib.hid HM.out.row
      rw [hbs] at Hrow
      have Hp := Lib.hid hp; clear hp
      have Hbs := Lib.hid hbs; clear hbs
      have Hone : Hid (Row ((wr.alloc (.cells (zpageB.map bv).toArray 108)).alloc (.cells #[ptrV wr.heap.size] 106)) (wr.heap.size + 1 + 1) (some ⟨wr.heap.size + 1, 0, none⟩) [ptrV wr.heap.size]) := by
        have := row_one (wr.alloc (.cells (zpageB.map bv).toArray 108)) (ptrV wr.heap.size) 106
        rw [World.size_alloc] at this
        exact Lib.hid this
      have hzp := zpage
      have hsz : w.heap.size ≤ wr.heap.size := Hbel.out.size
      go_wp2_with (at_builtin; refine app_page _ rfl (.tmp 28) (.tmp 31) rfl w.heap.size m.A k m.c (m.bs.map ptrV) rfl ((Hrow.out.alloc _).alloc _) (wr.heap.size + 1 + 1) _ 1 1 [ptrV wr.heap.size] rfl rfl Hone.out (ptr_one [wr.heap.size]) (by omega) (by simp; omega) ?_; intro A' c' w3 h2 h3 h4; have hb3 := Lib.hid (HM.out.grow_own (by decide) (by rw [Hbs.out]; exact h3)); have hc3 := hb3.out.cell 1; have hf3 := hb3.out.frozen 1; rw [Hp.out] at hc3 hf3; rw [show m.cells[1]? = some (.slice m.A m.bs.length m.c) from rfl] at hc3; have H2 := Lib.hid h2; have H3 := Lib.hid h3; have H4 := Lib.hid h4; clear h2 h3 h4)
      have hgrow := HM.out.grow (A' := A') (c' := c') (w3 := w3) (by decide) (by decide) (by decide) (by rw [Hbs.out, Hmo.out]; omega) hsz (by rw [Hbs.out]; exact H2.out) (by rw [Hbs.out]; exact H3.out)
      have hkept := HM.out.grow_kept (w3 := w3) (u := .slice A' (m.bs.length + 1) c') (by rw [Hbs.out]; exact H3.out)
      have hlow := HM.out.ge
      rw [Hbs.out, Hp.out] at hgrow hkept
      refine ⟨⟨k + 1, m.more A' c' wr.heap.size, by omega, by go_num, Hp.out, Hmo.out, by show (m.bs ++ [_]).length = _; simp [Hbs.out], ?_, Hd.out, hgrow, Hbel.out.trans (hkept.below hlow hsz)⟩, by simp [intOf]; omega⟩
      show m.B ++ zpageB = _
      rw [HB.out]
      unfold zpageB
      rw [List.replicate_append_replicate]
      congr 1
    · obtain rfl : k = n := by omega
      go_wp2_with fail
      go_ret2
      exact ⟨m, by rw [hp]; rfl, Hmo.out, hbs, HB.out, Hd.out, HM.out, Hbel.out⟩
end Go.Proofs.YtndkhlafpcedbaaDoor
