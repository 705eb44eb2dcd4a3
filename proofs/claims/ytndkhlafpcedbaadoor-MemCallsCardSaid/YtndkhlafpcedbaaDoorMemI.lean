/- mem: Dirty. -/
import Derived.Test.YtndkhlafpcedbaaDoorMemE
import Derived.Test.YtndkhlafpcedbaaDoorLists
namespace Go.Proofs.YtndkhlafpcedbaaDoor
set_option linter.unusedVariables false
open Go.RowKit
theorem Tryd.info_int : (Tryd.prog.info? 3).map (fun i => (i.zero, i.size, i.bytes)) = some (some (.int .i64 0), 1, 8) := by kernel_rfl
theorem info_bool : ∃ i, Tryd.prog.info? 4 = some i ∧ i.size = 1 := by
  have h : (Tryd.prog.info? 4).map (·.size) = some 1 := by kernel_rfl
  cases hq : Tryd.prog.info? 4 with
  | none => rw [hq] at h; cases h
  | some i => rw [hq] at h; exact ⟨i, rfl, Option.some.inj h⟩
theorem eqg_marks : Tryd.prog.eqGuardType Tryd.prog.depth 103 = false := by kernel_rfl
/-- append of a number onto a row of the call's own, at this program. -/
theorem app_int (w : World) {ops : Array Oper} {rest : List Oper} {o : Oper} {a : Act} {Q : Exit → Act → World → Prop} (hgd : o.guard = none) (s x : Operand)
    (ho : o.op = .call { callee := .builtin .append, args := #[s, x], argTypes := #[66, 66] }) (base : Nat)
    (A : Option Addr) (n c : Nat) (xs : List Value) (hs : a.eval s = .slice A n c) (hown : w.ownsRow base 3 1 (.slice A n c) n xs)
    (B : Nat) (A2 : Option Addr) (m c2 : Nat) (ys : List Value) (hx : a.eval x = .slice A2 m c2) (hm : m = ys.length) (hr : Row w B A2 ys) (h1 : ∀ u ∈ ys, u.oneCell' = true)
    (h47 : n + m ≤ 1000000) (hbase : base ≤ w.heap.size)
    (h : ∀ A' c' w', w'.ownsRow base 3 1 (.slice A' (n + m) c') (n + m) (xs ++ ys) → w.grownBy w' (Value.slice A n c).ownBlock → wpList Tryd.prog ops Q rest (a.put o.dst (.slice A' (n + m) c')) w') : wpList Tryd.prog ops Q (o :: rest) a w := by
  obtain ⟨i0, hi, hz, hs', hb⟩ := info_parts Tryd.info_int
  exact wpList_app w hgd s x 66 ho base 3 i0 (.int .i64 0) 8 Tryd.underlying66 hi hz hs' hb rfl _ n xs hs hown B A2 m c2 ys hx hm hr h1 (by unfold maxLen; omega) (by omega) hbase (fun A' c' w' h2 h3 _ => h A' c' w' h2 h3)
/-- The pages below k that are dirty. -/
def dirtyL (d : List Bool) (k : Nat) : List Int := ((List.range k).filter fun i => d[i]?.getD false).map Int.ofNat
theorem dirtyL_succ (d : List Bool) (k : Nat) : dirtyL d (k + 1) = if d[k]?.getD false = true then dirtyL d k ++ [(k : Int)] else dirtyL d k := by
  unfold dirtyL
  rw [List.range_succ, List.filter_append, List.map_append]
  cases h : d[k]?.getD false <;> simp [h]
theorem dirtyL_le (d : List Bool) (k : Nat) : (dirtyL d k).length ≤ k := by
  unfold dirtyL
  rw [List.length_map]
  exact Nat.le_trans (List.length_filter_le ..) (by simp)
theorem dirtyL_no (k : Nat) : dirtyL noD k = [] := by
  unfold dirtyL
  rw [List.filter_eq_nil_iff.2]
  · rfl
  · intro i _
    unfold noD
    rw [List.getElem?_replicate]
    split <;> simp
def DiRel (d : List Bool) (w : World) (l i : Value) (wr : World) : Prop :=
  ∃ (k : Nat) (A : Option Addr) (c : Nat), k ≤ 64 ∧ i = .int .i64 k ∧ l = .slice A (dirtyL d k).length c ∧ wr.ownsRow w.heap.size 3 1 (.slice A (dirtyL d k).length c) (dirtyL d k).length (ivals (dirtyL d k)) ∧ Below w.heap.size w wr
def DirtyPost (d : List Bool) (w : World) (e : Ending) (w' : World) : Prop :=
  ∃ (A : Option Addr) (c : Nat), e = .returned (.slice A (dirtyL d 64).length c) ∧ w'.ownsRow w.heap.size 3 1 (.slice A (dirtyL d 64).length c) (dirtyL d 64).length (ivals (dirtyL d 64)) ∧ Below w.heap.size w w'
set_option maxRecDepth 100000 in
set_option maxHeartbeats 1000000 in
theorem mem_Dirty (base : Nat) (m : MemV) (w : World) (hm : MAt base w m) :
    Calls Tryd.prog 30 #[.pointer (some ⟨m.p, 0, none⟩)] w (DirtyPost m.d w) := by
  have HO := Lib.hid (mem_ok base m w hm)
  have Hdl := Lib.hid hm.dl
  have Hr : Hid (w.rangeAt m.p 3 (m.d.map .bool)) := Lib.hid (fun j v hv => by
    have hj : j < 64 := by have := (List.getElem?_eq_some_iff.1 hv).1; rw [List.length_map, hm.dl] at this; exact this
    rw [hm.celld hj]
    rw [List.getElem?_map, List.getElem?_eq_getElem (by rw [hm.dl]; exact hj)] at hv
    rw [List.getElem?_eq_getElem (by rw [hm.dl]; exact hj)]
    exact hv)
  have Hinfo : Hid ((Tryd.prog.info? 103).map (·.size) = some (m.d.map Value.bool).length) := by rw [List.length_map, hm.dl]; exact Lib.hid info_marks
  obtain ⟨ib, hib, hib1⟩ := info_bool
  have Hib := Lib.hid hib
  have Hib1 := Lib.hid hib1
  clear hm hib hib1
  by_cases hd : m.d = noD
  · have Hd := Lib.hid hd
    clear hd
    go_enter Tryd.func30, Tryd.ntmps30
    go_wp2_with fail
    refine HO.out.mono ?_
    rintro e w' ⟨rfl, rfl⟩
    go_wp2_with (first | refine wpList_load_mid_g rfl 103 _ rfl m.p 3 rfl (m.d.map Value.bool) _ Hr.out Tryd.underlying103 rfl Hinfo.out ?_ | refine wpList_eql_bools rfl 103 _ _ _ rfl Tryd.underlying103 Tryd.underlying4 Hib.out Hib1.out eqg_marks m.d noD rfl rfl Hdl.out rfl true (decide_eq_true Hd.out) ?_)
    go_ret
    refine ⟨none, 0, ?_, ?_, Below.refl _ _⟩
    · rw [Hd.out, dirtyL_no]; rfl
    · rw [Hd.out, dirtyL_no]; exact World.ownsRow_nil _ _ _ _
  · have Hd : Hid (decide (m.d = noD) = false) := Lib.hid (decide_eq_false hd)
    clear hd
    go_enter Tryd.func30, Tryd.ntmps30
    go_wp2_with fail
    refine HO.out.mono ?_
    rintro e w' ⟨rfl, rfl⟩
    go_wp2_with (first | refine wpList_load_mid_g rfl 103 _ rfl m.p 3 rfl (m.d.map Value.bool) _ Hr.out Tryd.underlying103 rfl Hinfo.out ?_ | refine wpList_eql_bools rfl 103 _ _ _ rfl Tryd.underlying103 Tryd.underlying4 Hib.out Hib1.out eqg_marks m.d noD rfl rfl Hdl.out rfl false Hd.out ?_)
    have HX : Hid (∀ k, k < 64 → (m.d.map Value.bool).toArray[k]? = some (.bool (m.d[k]?.getD false))) := Lib.hid (fun k hk => bools_get m.d k (by rw [Hdl.out]; exact hk))
    have HIx : Hid (∀ (X : Array Value) (k : Nat) (b : Bool) (W : World), k < 64 → X[k]? = some (.bool b) → (Instr.index 103 (.agg X) (.int .i64 k)).run Tryd.prog W = .ok (.bool b) W) := Lib.hid (fun X k b W hk hX => run_index_bools W Tryd.underlying103 Tryd.underlying4 Hib.out Hib1.out X k b hk hX)
    clear Hinfo Hib Hib1 Hr
    generalize (m.d.map Value.bool).toArray = X at *
    go_loopw [3, 21] (fun l i wr => DiRel m.d w l i wr) (fun _ i _ => 64 - (intOf i).toNat)
    case atStart => exact ⟨0, none, 0, Nat.zero_le _, rfl, rfl, World.ownsRow_nil _ _ _ _, Below.refl _ _⟩
    case round =>
      obtain ⟨k, A, c, hk, rfl, rfl, hown, hbel⟩ := hrel
      have Hown := Lib.hid hown; clear hown
      have Hbel := Lib.hid hbel; clear hbel
      by_cases hlt : k < 64
      · have hx := HX.out k hlt
        have Hs := Lib.hid (dirtyL_succ m.d k)
        have Hle := Lib.hid (dirtyL_le m.d k)
        cases hb : m.d[k]?.getD false with
        | false =>
          rw [hb] at hx Hs
          have hix := HIx.out X k _ wr hlt hx
          have Hs' := Hs.out
          rw [if_neg (by simp)] at Hs'
          have Hs := Lib.hid Hs'; clear Hs' hb
          go_wp2_with fail
          refine ⟨⟨k + 1, A, c, by omega, by go_num, by rw [Hs.out], by rw [Hs.out]; exact Hown.out, Hbel.out⟩, by simp [intOf]; omega⟩
        | true =>
          rw [hb] at hx Hs
          have hix := HIx.out X k _ wr hlt hx
          have Hs' := Hs.out
          rw [if_pos rfl] at Hs'
          have Hs := Lib.hid Hs'; clear Hs' hb
          have Hone := Lib.hid (row_one wr (.int .i64 k) 3)
          have Hl : Hid ((dirtyL m.d (k + 1)).length = (dirtyL m.d k).length + 1) := by rw [Hs.out, List.length_append]; exact Lib.hid rfl
          have hsz : w.heap.size ≤ wr.heap.size := Hbel.out.size
          have Hiv : Hid (ivals (dirtyL m.d (k + 1)) = ivals (dirtyL m.d k) ++ [.int .i64 k]) := by rw [Hs.out]; unfold ivals; rw [List.map_append]; exact Lib.hid rfl
          generalize (dirtyL m.d k).length = n at *
          go_wp2_with (at_builtin; refine app_int _ rfl (.tmp 26) (.tmp 28) rfl w.heap.size A n c (ivals (dirtyL m.d k)) rfl (Hown.out.alloc _) (wr.heap.size + 1) _ 1 1 [.int .i64 k] rfl rfl Hone.out (fun u hu => by rw [List.mem_singleton] at hu; subst hu; rfl) (by have := Hle.out; omega) (by simp; omega) ?_; intro A' c' w3 h2 h3; have H2 := Lib.hid h2; have H3 := Lib.hid h3; clear h2 h3)
          refine ⟨⟨k + 1, A', c', by omega, by go_num, by rw [Hl.out], ?_, ?_⟩, by simp [intOf]; omega⟩
          · rw [Hl.out, Hiv.out]; exact H2.out
          · exact (Hbel.out.alloc hsz _).trans (own_below (Hown.out.alloc _) H3.out (by simp; omega))
      · obtain rfl : k = 64 := by omega
        go_wp2_with fail
        go_ret
        exact ⟨A, c, rfl, Hown.out, Hbel.out⟩
end Go.Proofs.YtndkhlafpcedbaaDoor
namespace Go.Proofs.YtndkhlafpcedbaaDoor
set_option linter.unusedVariables false
open Go.RowKit
section
variable {tm tp tg base : Nat} {w : World} {m : MemV}
def MemV.mark (m : MemV) (i : Nat) : MemV := { m with d := m.d.set i true }
theorem MemAt.mark (h : MemAt tm tp tg base w m) (h1 : tm ≠ tg) (h3 : tp ≠ tm) (i : Nat) : MemAt tm tp tg base (w.setCell ⟨m.p, 3 + i, none⟩ (.bool true)) (m.mark i) := by
  have hk : KeptF w (w.setCell ⟨m.p, 3 + i, none⟩ (.bool true)) (fun k => k = m.p) := KeptF.setCell (p := ⟨m.p, 3 + i, none⟩) (F := fun k => k = m.p) rfl _
  refine ⟨?_, ?_, ?_, ?_, h.len, h.apart, h.np, h.most, h.low⟩
  · have := h.own.set (3 + i) (.bool true)
    have e : m.cells.set (3 + i) (.bool true) = (m.mark i).cells := by
      unfold MemV.cells MemV.mark
      rw [show 3 + i = i + 1 + 1 + 1 from by omega, List.set_cons_succ, List.set_cons_succ, List.set_cons_succ, List.map_set]
    rw [e] at this
    exact this
  · show (m.d.set _ _).length = 64
    rw [List.length_set]; exact h.dl
  · refine ⟨h.row.1, ?_⟩
    rcases h.row.2 with hn | ⟨g, cap, cur, hv, hb', hg, rest⟩
    · exact .inl hn
    · refine .inr ⟨g, cap, cur, hv, hb', ?_, rest⟩
      rw [hk.block g (Array.getElem?_eq_some_iff.1 hg).1 (fun e => own_ne h.row h.own h3 (by rw [hv, ← e]; rfl))]
      exact hg
  · intro i b hib
    have hb := h.page i b hib
    exact (hk.block b hb.lt fun e => h.own.ne_ hb h1 e.symm).trans hb
theorem MemAt.mark_kept (i : Nat) : KeptF w (w.setCell ⟨m.p, 3 + i, none⟩ (.bool true)) m.foot := KeptF.setCell (.inl rfl) _
end
def growD (d : List Bool) (np : Nat) : Nat → List Bool
  | 0 => d
  | k + 1 => (growD d np k).set (np + k) true
/-- How a memory stands behind k pages more. -/
structure Grown (base : Nat) (m : MemV) (k : Nat) (w wr : World) (m' : MemV) : Prop where
  p : m'.p = m.p
  most : m'.most = m.most
  bs : m'.bs.length = m.bs.length + k
  B : m'.B = m.B ++ List.replicate (4096 * k) 0
  d : m'.d = growD m.d m.bs.length k
  at_ : MAt base wr m'
  kept : KeptF w wr m.foot
  foot : ∀ j, m'.foot j → m.foot j ∨ w.heap.size ≤ j
theorem Grown.start {base : Nat} {w : World} {m : MemV} (h : MAt base w m) : Grown base m 0 w w m :=
  ⟨rfl, rfl, rfl, by simp, rfl, h, KeptF.refl _ _, fun j hj => .inl hj⟩
theorem Grown.next {base : Nat} {m : MemV} {k : Nat} {w wr wd w3 : World} {m' : MemV} {A' : Option Addr} {c' : Nat} (h : Grown base m k w wr m') (hlt : m.bs.length + k < m.most)
    (hmd : MAt base wd (m'.mark (m.bs.length + k))) (hkd : KeptF wr wd m.foot)
    (h2 : w3.ownsRow base 106 1 (.slice A' (m.bs.length + k + 1) c') (m.bs.length + k + 1) (m'.bs.map ptrV ++ [ptrV wd.heap.size]))
    (h3 : ((wd.alloc (.cells (zpageB.map bv).toArray 108)).alloc (.cells #[ptrV wd.heap.size] 106)).grownBy w3 (Value.slice m'.A (m.bs.length + k) m'.c).ownBlock)
    (h4 : (Value.slice A' (m.bs.length + k + 1) c').ownBlock = (Value.slice m'.A (m.bs.length + k) m'.c).ownBlock ∨ (Value.slice A' (m.bs.length + k + 1) c').ownBlock = some (wd.heap.size + 1 + 1)) :
    Grown base m (k + 1) w (w3.setCell ⟨m.p, 1, none⟩ (.slice A' (m.bs.length + k + 1) c')) ((m'.mark (m.bs.length + k)).more A' c' wd.heap.size) := by
  have hm := hmd
  have hb : base ≤ wd.heap.size := by have := hm.low.1; have := hm.own.lt; omega
  have hbs : (m'.mark (m.bs.length + k)).bs.length = m.bs.length + k := h.bs
  have hg := hm.grow (A' := A') (c' := c') (w3 := w3) (by decide) (by decide) (by decide) (by rw [hbs]; show _ < m'.most; rw [h.most]; exact hlt) hb
    (by rw [hbs]; exact h2) (by rw [hbs]; exact h3)
  have hkp := hm.grow_kept (w3 := w3) (u := .slice A' (m.bs.length + k + 1) c') (by rw [hbs]; exact h3)
  rw [hbs, show (m'.mark (m.bs.length + k)).p = m.p from h.p] at hg
  rw [show (m'.mark (m.bs.length + k)).p = m.p from h.p] at hkp
  have hk1 : KeptF w wd m.foot := h.kept.trans hkd
  have hsz : w.heap.size ≤ wd.heap.size := hk1.size
  refine ⟨h.p, h.most, ?_, ?_, ?_, hg, hk1.then hkp h.foot, fun j hj => ?_⟩
  · show (m'.bs ++ [_]).length = _
    rw [List.length_append, h.bs]; rfl
  · show m'.B ++ zpageB = _
    rw [h.B, List.append_assoc]
    unfold zpageB
    rw [List.replicate_append_replicate]
    congr 2
  · show m'.d.set _ _ = _
    rw [h.d]; rfl
  · have := (m'.mark (m.bs.length + k)).more_foot A' c' wd.heap.size (by rw [hbs]; rcases h4 with h4 | h4; exact .inl h4; exact .inr fun q hq => by rw [h4] at hq; injection hq with hq; omega) j hj
    rcases this with hj | hj
    · exact h.foot j hj
    · exact .inr (by omega)
end Go.Proofs.YtndkhlafpcedbaaDoor
namespace Go.Proofs.YtndkhlafpcedbaaDoor
set_option linter.unusedVariables false
open Go.RowKit
def GrRel (base : Nat) (m : MemV) (n : Nat) (w : World) (i : Value) (wr : World) : Prop := ∃ (k : Nat) (m' : MemV), k ≤ n ∧ i = .int .u64 k ∧ Grown base m k w wr m'
set_option maxRecDepth 100000 in
set_option maxHeartbeats 1000000 in
theorem mem_Grow (base : Nat) (m : MemV) (n : Nat) (w : World) (hm : MAt base w m) (hn : n < 18446744073709551616) :
    Calls Tryd.prog 35 #[.pointer (some ⟨m.p, 0, none⟩), .int .u64 n] w fun e w' =>
      if m.most < m.bs.length + n then w = w' ∧ e = .returned (.int .i64 (-1)) else e = .returned (.int .i64 m.bs.length) ∧ ∃ m', Grown base m n w w' m' := by
  have HO := Lib.hid (mem_ok base m w hm)
  have HM := Lib.hid hm
  have hc1 := hm.cell1
  have hc2 := hm.cell2
  have hnp := hm.np
  have hmo := hm.most
  clear hm
  by_cases hbig : m.most < m.bs.length + n
  · simp only [if_pos hbig]
    have q1 : ((m.most : Int) - m.bs.length) < n := by omega
    have q0 : (0 : Int) ≤ (m.most : Int) - m.bs.length := by omega
    clear HM
    generalize m.bs.length = np at *
    generalize m.most = mo at *
    generalize m.p = p at *
    generalize m.A = A at *
    generalize m.c = c at *
    go_enter Tryd.func35, Tryd.ntmps35
    go_wp2_with fail
    refine HO.out.mono ?_
    rintro e w' ⟨rfl, rfl⟩
    go_wp2_with fail
    go_ret
    exact ⟨rfl, rfl⟩
  · simp only [if_neg hbig]
    have q1 : decide (((m.most : Int) - m.bs.length) < n) = false := decide_eq_false (by omega)
    have q0 : (0 : Int) ≤ (m.most : Int) - m.bs.length := by omega
    have hn64 : m.bs.length + n ≤ 64 := by omega
    have Hle : Hid (m.bs.length + n ≤ m.most) := Lib.hid (by omega)
    clear hbig
    go_enter Tryd.func35, Tryd.ntmps35
    go_wp2_with fail
    refine HO.out.mono ?_
    rintro e w' ⟨rfl, rfl⟩
    go_wp2_with fail
    go_loopw [24] (fun i wr => GrRel base m n w i wr) (fun i _ => n - (intOf i).toNat)
    case atStart => exact ⟨0, m, Nat.zero_le _, rfl, Grown.start HM.out⟩
    case round =>
      obtain ⟨k, m', hk, rfl, hgr⟩ := hrel
      have Hg := Lib.hid hgr; clear hgr
      by_cases hlt : k < n
      · have hc1' := Hg.out.at_.cell1
        rw [Hg.out.p, Hg.out.bs] at hc1'
        have hj : m.bs.length + k < 64 := by omega
        have hcd := Hg.out.at_.celld hj
        have hfd := Hg.out.at_.own.frozen (3 + (m.bs.length + k))
        rw [Hg.out.p] at hcd hfd
        obtain ⟨q, hq⟩ : ∃ q, q = m.bs.length + k := ⟨_, rfl⟩
        rw [← hq] at hc1' hcd hfd hj
        have Hq := Lib.hid hq; clear hq
        have hqi : (q : Int) < 64 := by omega
        go_wp2_with fail
        go_region
        have hmd : MAt base (wr.setCell ⟨m.p, 3 + q, none⟩ (.bool true)).drew (m'.mark q) := by
          have := Hg.out.at_.mark (by decide) (by decide) q
          rw [Hg.out.p] at this
          exact this.keep fun _ _ => rfl
        have hkd : KeptF wr (wr.setCell ⟨m.p, 3 + q, none⟩ (.bool true)).drew m.foot := (KeptF.setCell (p := ⟨m.p, 3 + q, none⟩) (.inl rfl) _).drewN 1
        generalize (wr.setCell ⟨m.p, 3 + q, none⟩ (.bool true)).drew = wd at *
        have HMd := Lib.hid hmd; clear hmd
        have HKd := Lib.hid hkd; clear hkd
        clear hc1' hcd hfd
        have hpe : (m'.mark q).p = m.p := Hg.out.p
        have hbs : (m'.mark q).bs.length = q := by rw [Hq.out]; exact Hg.out.bs
        have hc1 := HMd.out.cell1
        have hf1 := HMd.out.own.frozen 1
        rw [hpe, hbs, show (m'.mark q).A = m'.A from rfl, show (m'.mark q).c = m'.c from rfl] at hc1
        rw [hpe] at hf1
        have Hrow := Lib.hid HMd.out.row
        rw [hbs, show (m'.mark q).bs = m'.bs from rfl, show (m'.mark q).A = m'.A from rfl, show (m'.mark q).c = m'.c from rfl] at Hrow
        have Hp := Lib.hid hpe; clear hpe
        have Hbs := Lib.hid hbs; clear hbs
        have Hone : Hid (Row ((wd.alloc (.cells (zpageB.map bv).toArray 108)).alloc (.cells #[ptrV wd.heap.size] 106)) (wd.heap.size + 1 + 1) (some ⟨wd.heap.size + 1, 0, none⟩) [ptrV wd.heap.size]) := by
          have := row_one (wd.alloc (.cells (zpageB.map bv).toArray 108)) (ptrV wd.heap.size) 106
          rw [World.size_alloc] at this
          exact Lib.hid this
        have hzp := zpage
        have hbz : base ≤ wd.heap.size := by have := HMd.out.low.1; have := HMd.out.own.lt; omega
        go_wp2_with (at_builtin; refine app_page _ rfl (.tmp 39) (.tmp 42) rfl base m'.A q m'.c (m'.bs.map ptrV) rfl ((Hrow.out.alloc _).alloc _) (wd.heap.size + 1 + 1) _ 1 1 [ptrV wd.heap.size] rfl rfl Hone.out (ptr_one [wd.heap.size]) (by omega) (by simp; omega) ?_; intro A' c' w3 h2 h3 h4; have hb3 := Lib.hid (HMd.out.grow_own (by decide) (by rw [Hbs.out]; exact h3)); have hc3 := hb3.out.cell 1; have hf3 := hb3.out.frozen 1; rw [Hp.out] at hc3 hf3; rw [show (m'.mark q).cells[1]? = some (.slice m'.A m'.bs.length m'.c) from rfl] at hc3; have H2 := Lib.hid h2; have H3 := Lib.hid h3; have H4 := Lib.hid h4; clear h2 h3 h4)
        have Hn := Hg.out.next (A' := A') (c' := c') (w3 := w3) (by have := Hle.out; omega) (by rw [← Hq.out]; exact HMd.out) HKd.out (by rw [← Hq.out]; exact H2.out) (by rw [← Hq.out]; exact H3.out) (by rw [← Hq.out]; have := H4.out; simpa using this)
        rw [← Hq.out] at Hn
        exact ⟨⟨k + 1, _, by omega, by go_num, Hn⟩, by simp [intOf]; omega⟩
      · obtain rfl : k = n := by omega
        go_wp2_with fail
        go_ret
        exact ⟨rfl, m', Hg.out⟩
end Go.Proofs.YtndkhlafpcedbaaDoor
