/- mem: Grow. -/
import Derived.Test.YtndkhlafpcedbaaMemI
namespace Go.Proofs.Ytndkhlafpcedbaa
set_option linter.unusedVariables false
open Go.RowKit
section
variable {tm tp tg base : Nat} {w : World} {m : MemV}
def MemV.mark (m : MemV) (i : Nat) : MemV := { m with d := m.d.set i true }
theorem MemAt.mark (h : MemAt tm tp tg base w m) (h1 : tm ≠ tg) (h3 : tp ≠ tm) (i : Nat) : MemAt tm tp tg base (w.setCell ⟨m.p, 3 + i, none⟩ (.bool true)) (m.mark i) := by
  have hk : KeptF w (w.setCell ⟨m.p, 3 + i, none⟩ (.bool true)) (fun k => k = m.p) := KeptF.setCell (p := ⟨m.p, 3 + i, none⟩) (F := fun k => k = m.p) rfl _
  refine ⟨?_, ?_, ?_, ?_, h.len, h.apart, h.np, h.most, h.low⟩
  · have := h.own.set (3 + i) (.bool true)
    have e : m.cells.set (3 + i) (.bool true) = (m.mark i).cells := by
      unfold MemV.cells MemV.mark
      rw [show 3 + i = i + 1 + 1 + 1 from by omega, List.set_cons_succ, List.set_cons_succ, List.set_cons_succ, List.map_set]
    rw [e] at this
    exact this
  · show (m.d.set _ _).length = 64
    rw [List.length_set]; exact h.dl
  · refine ⟨h.row.1, ?_⟩
    rcases h.row.2 with hn | ⟨g, cap, cur, hv, hb', hg, rest⟩
    · exact .inl hn
    · refine .inr ⟨g, cap, cur, hv, hb', ?_, rest⟩
      rw [hk.block g (Array.getElem?_eq_some_iff.1 hg).1 (fun e => own_ne h.row h.own h3 (by rw [hv, ← e]; rfl))]
      exact hg
  · intro i b hib
    have hb := h.page i b hib
    exact (hk.block b hb.lt fun e => h.own.ne_ hb h1 e.symm).trans hb
theorem MemAt.mark_kept (i : Nat) : KeptF w (w.setCell ⟨m.p, 3 + i, none⟩ (.bool true)) m.foot := KeptF.setCell (.inl rfl) _
end
def growD (d : List Bool) (np : Nat) : Nat → List Bool
  | 0 => d
  | k + 1 => (growD d np k).set (np + k) true
/-- How a memory stands behind k pages more. -/
structure Grown (base : Nat) (m : MemV) (k : Nat) (w wr : World) (m' : MemV) : Prop where
  p : m'.p = m.p
  most : m'.most = m.most
  bs : m'.bs.length = m.bs.length + k
  B : m'.B = m.B ++ List.replicate (4096 * k) 0
  d : m'.d = growD m.d m.bs.length k
  at_ : MAt base wr m'
  kept : KeptF w wr m.foot
  foot : ∀ j, m'.foot j → m.foot j ∨ w.heap.size ≤ j
theorem Grown.start {base : Nat} {w : World} {m : MemV} (h : MAt base w m) : Grown base m 0 w w m :=
  ⟨rfl, rfl, rfl, by simp, rfl, h, KeptF.refl _ _, fun j hj => .inl hj⟩
theorem Grown.next {base : Nat} {m : MemV} {k : Nat} {w wr wd w3 : World} {m' : MemV} {A' : Option Addr} {c' : Nat} (h : Grown base m k w wr m') (hlt : m.bs.length + k < m.most)
    (hmd : MAt base wd (m'.mark (m.bs.length + k))) (hkd : KeptF wr wd m.foot)
    (h2 : w3.ownsRow base 109 1 (.slice A' (m.bs.length + k + 1) c') (m.bs.length + k + 1) (m'.bs.map ptrV ++ [ptrV wd.heap.size]))
    (h3 : ((wd.alloc (.cells (zpageB.map bv).toArray 111)).alloc (.cells #[ptrV wd.heap.size] 109)).grownBy w3 (Value.slice m'.A (m.bs.length + k) m'.c).ownBlock)
    (h4 : (Value.slice A' (m.bs.length + k + 1) c').ownBlock = (Value.slice m'.A (m.bs.length + k) m'.c).ownBlock ∨ (Value.slice A' (m.bs.length + k + 1) c').ownBlock = some (wd.heap.size + 1 + 1)) :
    Grown base m (k + 1) w (w3.setCell ⟨m.p, 1, none⟩ (.slice A' (m.bs.length + k + 1) c')) ((m'.mark (m.bs.length + k)).more A' c' wd.heap.size) := by
  have hm := hmd
  have hb : base ≤ wd.heap.size := by have := hm.low.1; have := hm.own.lt; omega
  have hbs : (m'.mark (m.bs.length + k)).bs.length = m.bs.length + k := h.bs
  have hg := hm.grow (A' := A') (c' := c') (w3 := w3) (by decide) (by decide) (by decide) (by rw [hbs]; show _ < m'.most; rw [h.most]; exact hlt) hb
    (by rw [hbs]; exact h2) (by rw [hbs]; exact h3)
  have hkp := hm.grow_kept (w3 := w3) (u := .slice A' (m.bs.length + k + 1) c') (by rw [hbs]; exact h3)
  rw [hbs, show (m'.mark (m.bs.length + k)).p = m.p from h.p] at hg
  rw [show (m'.mark (m.bs.length + k)).p = m.p from h.p] at hkp
  have hk1 : KeptF w wd m.foot := h.kept.trans hkd
  have hsz : w.heap.size ≤ wd.heap.size := hk1.size
  refine ⟨h.p, h.most, ?_, ?_, ?_, hg, hk1.then hkp h.foot, fun j hj => ?_⟩
  · show (m'.bs ++ [_]).length = _
    rw [List.length_append, h.bs]; rfl
  · show m'.B ++ zpageB = _
    rw [h.B, List.append_assoc]
    unfold zpageB
    rw [List.replicate_append_replicate]
    congr 2
  · show m'.d.set _ _ = _
    rw [h.d]; rfl
  · have := (m'.mark (m.bs.length + k)).more_foot A' c' wd.heap.size (by rw [hbs]; rcases h4 with h4 | h4; exact .inl h4; exact .inr fun q hq => by rw [h4] at hq; injection hq with hq; omega) j hj
    rcases this with hj | hj
    · exact h.foot j hj
    · exact .inr (by omega)
end Go.Proofs.Ytndkhlafpcedbaa
