/- mem: Grow. -/
import Derived.Test.YtndkhlafpcedbaaDoorMemI
namespace Go.Proofs.YtndkhlafpcedbaaDoor
set_option linter.unusedVariables false
open Go.RowKit
section
variable {tm tp tg base : Nat} {w : World} {m : MemV}
def MemV.mark (m : MemV) (i : Nat) : MemV := { m with d := m.d.set i true }
theorem MemAt.mark (h : MemAt tm tp tg base w m) (h1 : tm ≠ tg) (h3 : tp ≠ tm) (i : Nat) : MemAt tm tp tg base (w.setCell ⟨m.p, 3 + i, none⟩ (.bool true)) (m.mark i) := by
  have hk : KeptF w (w.setCell ⟨m.p, 3 + i, none⟩ (.bool true)) (fun k => k = m.p) := KeptF.setCell (p := ⟨m.p, 3 + i, none⟩) (F := fun k => k = m.p) rfl _
  refine ⟨?_, ?_, ?_, ?_, h.len, h.apart, h.np, h.most, h.low⟩
  · have := h.own.set (3 + i) (.bool true)
    have e : m.cells.set (3 + i) (.bool true) = (m.mark i).cells := by
      unfold MemV.cells MemV.mark
      rw [show 3 + i = i + 1 + 1 + 1 from by omega, List.set_cons_succ, List.set_cons_succ, List.set_cons_succ, List.map_set]
    rw [e] at this
    exact this
  · show (m.d.set _ _).length = 64
    rw [List.length_set]; exact h.dl
  · refine ⟨h.row.1, ?_⟩
    rcases h.row.2 with hn | ⟨g, cap, cur, hv, hb', hg, rest⟩
    · exact .inl hn
    · refine .inr ⟨g, cap, cur, hv, hb', ?_, rest⟩
      rw [hk.block g (Array.getElem?_eq_some_iff.1 hg).1 (fun e => own_ne h.row h.own h3 (by rw [hv, ← e]; rfl))]
      exact hg
  · intro i b hib
    have hb := h.page i b hib
    exact (hk.block b hb.lt fun e => h.own.ne_ hb h1 e.symm).trans hb
theorem MemAt.mark_kept (i : Nat) : KeptF w (w.setCell ⟨m.p, 3 + i, none⟩ (.bool true)) m.foot := KeptF.setCell (.inl rfl) _
end
def growD (d : List Bool) (np : Nat) : Nat → List Bool
  | 0 => d
  | k + 1 => (growD d np k).set (np + k) true
/-- How a memory stands behind k pages more. -/
structure Grown (base : Nat) (m : MemV) (k : Nat) (w wr : World) (m' : MemV) : Prop where
  p : m'.p = m.p
  most : m'.most = m.most
  bs : m'.bs.length = m.bs.length + k
  B : m'.B = m.B ++ List.replicate (4096 * k) 0
  d : m'.d = growD m.d m.bs.length k
  at_ : MAt base wr m'
  kept : KeptF w wr m.foot
  foot : ∀ j, m'.foot j → m.foot j ∨ w.heap.size ≤ j
theorem Grown.start {base : Nat} {w : World} {m : MemV} (h : MAt base w m) : Grown base m 0 w w m :=
  ⟨rfl, rfl, rfl, by simp, rfl, h, KeptF.refl _ _, fun j hj => .inl hj⟩
theorem Grown.next {base : Nat} {m : MemV} {k : Nat} {w wr wd w3 : World} {m' : MemV} {A' : Option Addr} {c' : Nat} (h : Grown base m k w wr m') (hlt : m.bs.length + k < m.most)
    (hmd : MAt base wd (m'.mark (m.bs.length + k))) (hkd : KeptF wr wd m.foot)
    (h2 : w3.ownsRow base 106 1 (.slice A' (m.bs.length + k + 1) c') (m.bs.length + k + 1) (m'.bs.map ptrV ++ [ptrV wd.heap.size]))
    (h3 : ((wd.alloc (.cells (zpageB.map bv).toArray 108)).alloc (.cells #[ptrV wd.heap.size] 106)).grownBy w3 (Value.slice m'.A (m.bs.length + k) m'.c).ownBlock)
    (h4 : (Value.slice A' (m.bs.length + k + 1) c').ownBlock = (Value.slice m'.A (m.bs.length + k) m'.c).ownBlock ∨ (Value.slice A' (m.bs.length + k + 1) c').ownBlock = some (wd.heap.size + 1 + 1)) :
    Grown base m (k + 1) w (w3.setCell ⟨m.p, 1, none⟩ (.slice A' (m.bs.length + k + 1) c')) ((m'.mark (m.bs.length + k)).more A' c' wd.heap.size) := by
  have hm := hmd
  have hb : base ≤ wd.heap.size := by have := hm.low.1; have := hm.own.lt; omega
  have hbs : (m'.mark (m.bs.length + k)).bs.length = m.bs.length + k := h.bs
  have hg := hm.grow (A' := A') (c' := c') (w3 := w3) (by decide) (by decide) (by decide) (by rw [hbs]; show _ < m'.most; rw [h.most]; exact hlt) hb
    (by rw [hbs]; exact h2) (by rw [hbs]; exact h3)
  have hkp := hm.grow_kept (w3 := w3) (u := .slice A' (m.bs.length + k + 1) c') (by rw [hbs]; exact h3)
  rw [hbs, show (m'.mark (m.bs.length + k)).p = m.p from h.p] at hg
  rw [show (m'.mark (m.bs.length + k)).p = m.p from h.p] at hkp
  have hk1 : KeptF w wd m.foot := h.kept.trans hkd
  have hsz : w.heap.size ≤ wd.heap.size := hk1.size
  refine ⟨h.p, h.most, ?_, ?_, ?_, hg, hk1.then hkp h.foot, fun j hj => ?_⟩
  · show (m'.bs ++ [_]).length = _
    rw [List.length_append, h.bs]; rfl
  · show m'.B ++ zpageB = _
    rw [h.B, List.append_assoc]
    unfold zpageB
    rw [List.replicate_append_replicate]
    congr 2
  · show m'.d.set _ _ = _
    rw [h.d]; rfl
  · have := (m'.mark (m.bs.length + k)).more_foot A' c' wd.heap.size (by rw [hbs]; rcases h4 with h4 | h4; exact .inl h4; exact .inr fun q hq => by rw [h4] at hq; injection hq with hq; omega) j hj
    rcases this with hj | hj
    · exact h.foot j hj
    · exact .inr (by omega)
end Go.Proofs.YtndkhlafpcedbaaDoor
namespace Go.Proofs.YtndkhlafpcedbaaDoor
set_option linter.unusedVariables false
open Go.RowKit
def GrRel (base : Nat) (m : MemV) (n : Nat) (w : World) (i : Value) (wr : World) : Prop := ∃ (k : Nat) (m' : MemV), k ≤ n ∧ i = .int .u64 k ∧ Grown base m k w wr m'
set_option maxRecDepth 100000 in
set_option maxHeartbeats 1000000 in
theorem mem_Grow (base : Nat) (m : MemV) (n : Nat) (w : World) (hm : MAt base w m) (hn : n < 18446744073709551616) :
    Calls Tryd.prog 35 #[.pointer (some ⟨m.p, 0, none⟩), .int .u64 n] w fun e w' =>
      if m.most < m.bs.length + n then w = w' ∧ e = .returned (.int .i64 (-1)) else e = .returned (.int .i64 m.bs.length) ∧ ∃ m', Grown base m n w w' m' := by
  have HO := Lib.hid (mem_ok base m w hm)
  have HM := Lib.hid hm
  have hc1 := hm.cell1
  have hc2 := hm.cell2
  have hnp := hm.np
  have hmo := hm.most
  clear hm
  by_cases hbig : m.most < m.bs.length + n
  · simp only [if_pos hbig]
    have q1 : ((m.most : Int) - m.bs.length) < n := by omega
    have q0 : (0 : Int) ≤ (m.most : Int) - m.bs.length := by omega
    clear HM
    generalize m.bs.length = np at *
    generalize m.most = mo at *
    generalize m.p = p at *
    generalize m.A = A at *
    generalize m.c = c at *
    go_enter Tryd.func35, Tryd.ntmps35
    go_wp2_with fail
    refine HO.out.mono ?_
    rintro e w' ⟨rfl, rfl⟩
    go_wp2_with fail
    go_ret
    exact ⟨rfl, rfl⟩
  · simp only [if_neg hbig]
    have q1 : decide (((m.most : Int) - m.bs.length) < n) = false := decide_eq_false (by omega)
    have q0 : (0 : Int) ≤ (m.most : Int) - m.bs.length := by omega
    have hn64 : m.bs.length + n ≤ 64 := by omega
    have Hle : Hid (m.bs.length + n ≤ m.most) := Lib.hid (by omega)
    clear hbig
    go_enter Tryd.func35, Tryd.ntmps35
    go_wp2_with fail
    refine HO.out.mono ?_
    rintro e w' ⟨rfl, rfl⟩
    go_wp2_with fail
    go_loopw [24] (fun i wr => GrRel base m n w i wr) (fun i _ => n - (intOf i).toNat)
    case atStart => exact ⟨0, m, Nat.zero_le _, rfl, Grown.start HM.out⟩
    case round =>
      obtain ⟨k, m', hk, rfl, hgr⟩ := hrel
      have Hg := Lib.hid hgr; clear hgr
      by_cases hlt : k < n
      · have hc1' := Hg.out.at_.cell1
        rw [Hg.out.p, Hg.out.bs] at hc1'
        have hj : m.bs.length + k < 64 := by omega
        have hcd := Hg.out.at_.celld hj
        have hfd := Hg.out.at_.own.frozen (3 + (m.bs.length + k))
        rw [Hg.out.p] at hcd hfd
        obtain ⟨q, hq⟩ : ∃ q, q = m.bs.length + k := ⟨_, rfl⟩
        rw [← hq] at hc1' hcd hfd hj
        have Hq := Lib.hid hq; clear hq
        have hqi : (q : Int) < 64 := by omega
        go_wp2_with fail
        go_region
        have hmd : MAt base (wr.setCell ⟨m.p, 3 + q, none⟩ (.bool true)).drew (m'.mark q) := by
          have := Hg.out.at_.mark (by decide) (by decide) q
          rw [Hg.out.p] at this
          exact this.keep fun _ _ => rfl
        have hkd : KeptF wr (wr.setCell ⟨m.p, 3 + q, none⟩ (.bool true)).drew m.foot := (KeptF.setCell (p := ⟨m.p, 3 + q, none⟩) (.inl rfl) _).drewN 1
        generalize (wr.setCell ⟨m.p, 3 + q, none⟩ (.bool true)).drew = wd at *
        have HMd := Lib.hid hmd; clear hmd
        have HKd := Lib.hid hkd; clear hkd
        clear hc1' hcd hfd
        have hpe : (m'.mark q).p = m.p := Hg.out.p
        have hbs : (m'.mark q).bs.length = q := by rw [Hq.out]; exact Hg.out.bs
        have hc1 := HMd.out.cell1
        have hf1 := HMd.out.own.frozen 1
        rw [hpe, hbs, show (m'.mark q).A = m'.A from rfl, show (m'.mark q).c = m'.c from rfl] at hc1
        rw [hpe] at hf1
        have Hrow := Lib.hid HMd.out.row
        rw [hbs, show (m'.mark q).bs = m'.bs from rfl, show (m'.mark q).A = m'.A from rfl, show (m'.mark q).c = m'.c from rfl] at Hrow
        have Hp := Lib.hid hpe; clear hpe
        have Hbs := Lib.hid hbs; clear hbs
        have Hone : Hid (Row ((wd.alloc (.cells (zpageB.map bv).toArray 108)).alloc (.cells #[ptrV wd.heap.size] 106)) (wd.heap.size + 1 + 1) (some ⟨wd.heap.size + 1, 0, none⟩) [ptrV wd.heap.size]) := by
          have := row_one (wd.alloc (.cells (zpageB.map bv).toArray 108)) (ptrV wd.heap.size) 106
          rw [World.size_alloc] at this
          exact Lib.hid this
        have hzp := zpage
        have hbz : base ≤ wd.heap.size := by have := HMd.out.low.1; have := HMd.out.own.lt; omega
        go_wp2_with (at_builtin; refine app_page _ rfl (.tmp 39) (.tmp 42) rfl base m'.A q m'.c (m'.bs.map ptrV) rfl ((Hrow.out.alloc _).alloc _) (wd.heap.size + 1 + 1) _ 1 1 [ptrV wd.heap.size] rfl rfl Hone.out (ptr_one [wd.heap.size]) (by omega) (by simp; omega) ?_; intro A' c' w3 h2 h3 h4; have hb3 := Lib.hid (HMd.out.grow_own (by decide) (by rw [Hbs.out]; exact h3)); have hc3 := hb3.out.cell 1; have hf3 := hb3.out.frozen 1; rw [Hp.out] at hc3 hf3; rw [show (m'.mark q).cells[1]? = some (.slice m'.A m'.bs.length m'.c) from rfl] at hc3; have H2 := Lib.hid h2; have H3 := Lib.hid h3; have H4 := Lib.hid h4; clear h2 h3 h4)
        have Hn := Hg.out.next (A' := A') (c' := c') (w3 := w3) (by have := Hle.out; omega) (by rw [← Hq.out]; exact HMd.out) HKd.out (by rw [← Hq.out]; exact H2.out) (by rw [← Hq.out]; exact H3.out) (by rw [← Hq.out]; have := H4.out; simpa using this)
        rw [← Hq.out] at Hn
        exact ⟨⟨k + 1, _, by omega, by go_num, Hn⟩, by simp [intOf]; omega⟩
      · obtain rfl : k = n := by omega
        go_wp2_with fail
        go_ret
        exact ⟨rfl, m', Hg.out⟩
end Go.Proofs.YtndkhlafpcedbaaDoor
