/- Two memories, their twins, a bag: how they stand apart. -/
import Derived.Test.YtndkhlafpcedbaaDoorRefmD
import Derived.Test.YtndkhlafpcedbaaDoorBagH
import Derived.Test.YtndkhlafpcedbaaDoorBagIA
import Derived.Test.YtndkhlafpcedbaaDoorMadeA
import Derived.Test.YtndkhlafpcedbaaDoorBagE
namespace Go.Proofs.YtndkhlafpcedbaaDoor
set_option linter.unusedVariables false
open Go.RowKit
/-- A bag's block and the rows of its lists of bytes, ints, pages. -/
structure BagV where
  g : Nat
  AB : Option Addr
  cB : Nat
  AI : Option Addr
  cI : Nat
  AP : Option Addr
  cP : Nat
  bl : List Hd
  il : List Hd
  pl : List Hd
def BagV.cells (b : BagV) : List Value := [.slice b.AB b.bl.length b.cB, .slice b.AI b.il.length b.cI, .slice none 0 0, .slice none 0 0, .slice none 0 0, .slice none 0 0, .slice none 0 0, .slice none 0 0, .slice none 0 0, .slice none 0 0, .slice none 0 0, .slice none 0 0, .slice none 0 0, .slice none 0 0, .slice none 0 0, .slice b.AP b.pl.length b.cP, .slice none 0 0]
def BagV.core (b : BagV) (k : Nat) : Prop := k = b.g ∨ blockOf b.AB = some k ∨ blockOf b.AI = some k ∨ blockOf b.AP = some k
structure BagH (base : Nat) (w : World) (b : BagV) : Prop where
  own : Blk w b.g 47 b.cells
  low : base ≤ b.g
  rb : w.ownsRow base 24 1 (.slice b.AB b.bl.length b.cB) b.bl.length (b.bl.map hdV)
  ri : w.ownsRow base 66 1 (.slice b.AI b.il.length b.cI) b.il.length (b.il.map hdV)
  rp : w.ownsRow base 29 1 (.slice b.AP b.pl.length b.cP) b.pl.length (b.pl.map hdV)
def Rows1 (base : Nat) (e : TypeId) (w : World) (bl : List Hd) : Prop := ∀ (q : Nat) A n c, bl[q]? = some (A, n, c) → ∃ xs, w.ownsRow base e 1 (.slice A n c) n xs
/-- What was gathered: lists of bytes, of ints, of pages. -/
structure BagE (base : Nat) (w : World) (bl il pl : List Hd) : Prop where
  ob : Rows1 base 5 w bl
  oi : Rows1 base 3 w il
  op : Rows1 base 24 w pl
  db : Dist bl
  di : Dist il
  dp : Dist pl
  len : ∀ l, l = bl ∨ l = il ∨ l = pl → ∀ (q : Nat) A n c, l[q]? = some (A, n, c) → n ≤ 100000
theorem own_keepb {w w' : World} {base n : Nat} {e : TypeId} {v : Value} {xs : List Value} (h : w.ownsRow base e 1 v n xs) (hk : ∀ k, v.ownBlock = some k → w'.heap[k]? = w.heap[k]?) : w'.ownsRow base e 1 v n xs := by
  refine ⟨h.1, ?_⟩
  rcases h.2 with hn | ⟨g, cap, cur, hv, hb, hg, rest⟩
  · exact .inl hn
  · exact .inr ⟨g, cap, cur, hv, hb, (hk g (by rw [hv]; rfl)).trans hg, rest⟩
theorem Rows1.keep {base : Nat} {e : TypeId} {w w' : World} {bl : List Hd} (h : Rows1 base e w bl) (hk : ∀ k, Foot bl k → w'.heap[k]? = w.heap[k]?) : Rows1 base e w' bl := fun q A n c hq => by
  obtain ⟨xs, hx⟩ := h q A n c hq
  exact ⟨xs, own_keepb hx fun k hk' => hk k ⟨q, A, n, c, hq, by rwa [ownBlock_of] at hk'⟩⟩
theorem Rows1.lt {base : Nat} {e : TypeId} {w : World} {bl : List Hd} (h : Rows1 base e w bl) {k : Nat} (hf : Foot bl k) : base ≤ k ∧ k < w.heap.size := by
  obtain ⟨q, A, n, c, hq, hA⟩ := hf
  obtain ⟨xs, hx⟩ := h q A n c hq
  exact hx.lt k (by rw [ownBlock_of]; exact hA)
theorem foot_snoc {bl : List Hd} {x : Hd} {k : Nat} (h : Foot (bl ++ [x]) k) : Foot bl k ∨ blockOf x.1 = some k := by
  obtain ⟨q, A, n, c, hq, hA⟩ := h
  by_cases hlt : q < bl.length
  · rw [List.getElem?_append_left hlt] at hq
    exact .inl ⟨q, A, n, c, hq, hA⟩
  · rw [List.getElem?_append_right (by omega)] at hq
    obtain ⟨hq1, hq2⟩ := List.getElem?_eq_some_iff.1 hq
    have : q - bl.length = 0 := by simpa using hq1
    simp only [this, List.getElem_cons_zero] at hq2
    subst hq2
    exact .inr hA
theorem get_snoc {bl : List Hd} {x : Hd} {q : Nat} {y : Hd} (h : (bl ++ [x])[q]? = some y) : bl[q]? = some y ∨ (q = bl.length ∧ y = x) := by
  by_cases hlt : q < bl.length
  · rw [List.getElem?_append_left hlt] at h
    exact .inl h
  · rw [List.getElem?_append_right (by omega)] at h
    obtain ⟨hq1, hq2⟩ := List.getElem?_eq_some_iff.1 h
    have h0 : q - bl.length = 0 := by simpa using hq1
    simp only [h0, List.getElem_cons_zero] at hq2
    exact .inr ⟨by omega, hq2.symm⟩
theorem Rows1.snoc {base : Nat} {e : TypeId} {w : World} {bl : List Hd} (h : Rows1 base e w bl) {A : Option Addr} {n c : Nat} {xs : List Value} (hx : w.ownsRow base e 1 (.slice A n c) n xs) : Rows1 base e w (bl ++ [(A, n, c)]) := fun q A' n' c' hq => by
  rcases get_snoc hq with hq | ⟨_, hq⟩
  · exact h q A' n' c' hq
  · injection hq with h1 h2
    injection h2 with h2 h3
    subst h1 h2 h3
    exact ⟨xs, hx⟩
theorem Dist.snoc {bl : List Hd} (h : Dist bl) {x : Hd} (hx : ∀ k, blockOf x.1 = some k → ¬ Foot bl k) : Dist (bl ++ [x]) := fun q q' A n c A' n' c' h1 h2 hne b hb hb' => by
  rcases get_snoc h1 with g1 | ⟨e1, g1⟩
  · rcases get_snoc h2 with g2 | ⟨e2, g2⟩
    · exact h q q' A n c A' n' c' g1 g2 hne b hb hb'
    · exact absurd ⟨q, A, n, c, g1, hb⟩ (hx b (by rw [← g2]; exact hb'))
  · rcases get_snoc h2 with g2 | ⟨e2, g2⟩
    · exact absurd ⟨q', A', n', c', g2, hb'⟩ (hx b (by rw [← g1]; exact hb))
    · omega
section
variable {base : Nat} {w w' : World} {b : BagV} {bl il pl : List Hd}
theorem BagE.keep (h : BagE base w bl il pl) (hk : ∀ k, Foot bl k ∨ Foot il k ∨ Foot pl k → w'.heap[k]? = w.heap[k]?) : BagE base w' bl il pl :=
  ⟨h.ob.keep fun k hf => hk k (.inl hf), h.oi.keep fun k hf => hk k (.inr (.inl hf)), h.op.keep fun k hf => hk k (.inr (.inr hf)), h.db, h.di, h.dp, h.len⟩
theorem BagE.lt (h : BagE base w bl il pl) {k : Nat} (hf : Foot bl k ∨ Foot il k ∨ Foot pl k) : base ≤ k ∧ k < w.heap.size := by
  rcases hf with hf | hf | hf
  · exact h.ob.lt hf
  · exact h.oi.lt hf
  · exact h.op.lt hf
theorem BagH.lt (h : BagH base w b) {k : Nat} (hf : b.core k) : base ≤ k ∧ k < w.heap.size := by
  rcases hf with rfl | hf | hf | hf
  · exact ⟨h.low, h.own.lt⟩
  · exact h.rb.lt k (by rw [ownBlock_of]; exact hf)
  · exact h.ri.lt k (by rw [ownBlock_of]; exact hf)
  · exact h.rp.lt k (by rw [ownBlock_of]; exact hf)
theorem BagH.keep (h : BagH base w b) (hk : ∀ k, b.core k → w'.heap[k]? = w.heap[k]?) : BagH base w' b :=
  ⟨(hk _ (.inl rfl)).trans h.own, h.low, own_keepb h.rb fun k hf => hk k (.inr (.inl (by rwa [ownBlock_of] at hf))), own_keepb h.ri fun k hf => hk k (.inr (.inr (.inl (by rwa [ownBlock_of] at hf)))), own_keepb h.rp fun k hf => hk k (.inr (.inr (.inr (by rwa [ownBlock_of] at hf))))⟩
end
/-- The block of a call's own copy. -/
def BxF (bx : Option (Nat × List Value)) (k : Nat) : Prop := ∃ cs, bx = some (k, cs)
/-- The law's state. -/
structure Raw (w0 w : World) (bx : Option (Nat × List Value)) (m : MemV) (r : RefM) (m2 : MemV) (r2 : RefM) (b : BagV) (bl il pl : List Hd) : Prop where
  at1 : MAt w0.heap.size w m
  at2 : RAt w0.heap.size w r
  at3 : MAt w0.heap.size w m2
  at4 : RAt w0.heap.size w r2
  hd : BagH w0.heap.size w b
  el : BagE w0.heap.size w bl il pl
  bel : Below w0.heap.size w0 w
  box : ∀ g cs, bx = some (g, cs) → Blk w g 71 cs
  ap : ∃ col : Nat → Nat, (∀ k, m.foot k → col k = 0) ∧ (∀ k, r.foot k → col k = 1) ∧ (∀ k, m2.foot k → col k = 2) ∧ (∀ k, r2.foot k → col k = 3) ∧ (∀ k, b.core k → col k = 4) ∧ (∀ k, Foot bl k ∨ Foot il k ∨ Foot pl k → col k = 5) ∧ (∀ k, BxF bx k → col k = 6)
section
variable {w0 w w' : World} {bx : Option (Nat × List Value)} {m m' m2 : MemV} {r r' r2 : RefM} {b b' : BagV} {bl il pl : List Hd}
theorem Raw.bxlt (h : Raw w0 w bx m r m2 r2 b bl il pl) {k : Nat} (hk : BxF bx k) : k < w.heap.size := by
  obtain ⟨cs, e⟩ := hk
  exact (h.box k cs e).lt
theorem Raw.below (h : Raw w0 w bx m r m2 r2 b bl il pl) (hb : Below w.heap.size w w') : Raw w0 w' bx m r m2 r2 b bl il pl :=
  ⟨h.at1.below hb, h.at2.below hb, h.at3.below hb, h.at4.below hb, h.hd.keep fun k hk => hb.block k (h.hd.lt hk).2, h.el.keep fun k hk => hb.block k (h.el.lt hk).2, h.bel.trans (hb.mono h.bel.size), fun g cs e => (hb.block g (h.box g cs e).lt).trans (h.box g cs e), h.ap⟩
theorem Raw.unbox (h : Raw w0 w bx m r m2 r2 b bl il pl) : Raw w0 w none m r m2 r2 b bl il pl := by
  obtain ⟨col, h0, h1, h2, h3, h4, h5, h6⟩ := h.ap
  exact ⟨h.at1, h.at2, h.at3, h.at4, h.hd, h.el, h.bel, (fun g cs e => by cases e), col, h0, h1, h2, h3, h4, h5, (fun k hk => by obtain ⟨cs, e⟩ := hk; cases e)⟩
theorem Raw.swap (h : Raw w0 w bx m r m2 r2 b bl il pl) : Raw w0 w bx m2 r2 m r b bl il pl := by
  obtain ⟨col, h0, h1, h2, h3, h4, h5, h6⟩ := h.ap
  refine ⟨h.at3, h.at4, h.at1, h.at2, h.hd, h.el, h.bel, h.box, fun k => if col k = 0 then 2 else if col k = 1 then 3 else if col k = 2 then 0 else if col k = 3 then 1 else col k, ?_, ?_, ?_, ?_, ?_, ?_, ?_⟩
  · intro k hk; simp [h2 k hk]
  · intro k hk; simp [h3 k hk]
  · intro k hk; simp [h0 k hk]
  · intro k hk; simp [h1 k hk]
  · intro k hk; simp [h4 k hk]
  · intro k hk; simp [h5 k hk]
  · intro k hk; simp [h6 k hk]
theorem Raw.setbox (h : Raw w0 w none m r m2 r2 b bl il pl) (cs : List Value) : Raw w0 (w.alloc (.cells cs.toArray 71)) (some (w.heap.size, cs)) m r m2 r2 b bl il pl := by
  have hb : Below w.heap.size w (w.alloc (.cells cs.toArray 71)) := (Below.refl _ _).alloc (Nat.le_refl _) _
  have h' := h.below hb
  obtain ⟨col, h0, h1, h2, h3, h4, h5, h6⟩ := h.ap
  refine ⟨h'.at1, h'.at2, h'.at3, h'.at4, h'.hd, h'.el, h'.bel, fun g cs' e => ?_, fun k => if k < w.heap.size then col k else 6, ?_, ?_, ?_, ?_, ?_, ?_, ?_⟩
  · injection e with e
    injection e with e1 e2
    subst e1 e2
    exact Blk.new w _ cs
  · intro k hk; dsimp only; rw [if_pos (h.at1.lt k hk)]; exact h0 k hk
  · intro k hk; dsimp only; rw [if_pos (h.at2.lt k hk)]; exact h1 k hk
  · intro k hk; dsimp only; rw [if_pos (h.at3.lt k hk)]; exact h2 k hk
  · intro k hk; dsimp only; rw [if_pos (h.at4.lt k hk)]; exact h3 k hk
  · intro k hk; dsimp only; rw [if_pos (h.hd.lt hk).2]; exact h4 k hk
  · intro k hk; dsimp only; rw [if_pos (h.el.lt hk).2]; exact h5 k hk
  · intro k hk
    obtain ⟨cs', e⟩ := hk
    injection e with e
    injection e with e1 e2
    dsimp only
    rw [if_neg (by omega)]
theorem Raw.opM (h : Raw w0 w bx m r m2 r2 b bl il pl) (hk : KeptF w w' m.foot) (hm : MAt w0.heap.size w' m') (hf : ∀ j, m'.foot j → m.foot j ∨ w.heap.size ≤ j) : Raw w0 w' bx m' r m2 r2 b bl il pl := by
  obtain ⟨col, h0, h1, h2, h3, h4, h5, h6⟩ := h.ap
  have kp : ∀ k, k < w.heap.size → col k ≠ 0 → w'.heap[k]? = w.heap[k]? := fun k hlt hc => hk.block k hlt fun hf => hc (h0 k hf)
  refine ⟨hm, h.at2.keep fun k hf => kp k (h.at2.lt k hf) (by rw [h1 k hf]; decide), h.at3.keep fun k hf => kp k (h.at3.lt k hf) (by rw [h2 k hf]; decide), h.at4.keep fun k hf => kp k (h.at4.lt k hf) (by rw [h3 k hf]; decide), h.hd.keep fun k hf => kp k ((h.hd.lt hf).2) (by rw [h4 k hf]; decide), h.el.keep fun k hf => kp k ((h.el.lt hf).2) (by rw [h5 k hf]; decide), h.bel.trans (hk.below (fun i hi => h.at1.ge i hi) h.bel.size), fun g cs e => (kp g (h.box g cs e).lt (by rw [h6 g ⟨cs, e⟩]; decide)).trans (h.box g cs e), fun k => if k < w.heap.size then col k else 0, ?_, ?_, ?_, ?_, ?_, ?_, ?_⟩
  · intro k hk
    rcases hf k hk with h | h
    · simp only [h0 k h]; split <;> rfl
    · dsimp only; rw [if_neg (by omega)]
  · intro k hf; dsimp only; rw [if_pos (h.at2.lt k hf)]; exact h1 k hf
  · intro k hf; dsimp only; rw [if_pos (h.at3.lt k hf)]; exact h2 k hf
  · intro k hf; dsimp only; rw [if_pos (h.at4.lt k hf)]; exact h3 k hf
  · intro k hf; dsimp only; rw [if_pos ((h.hd.lt hf).2)]; exact h4 k hf
  · intro k hf; dsimp only; rw [if_pos ((h.el.lt hf).2)]; exact h5 k hf
  · intro k hf; dsimp only; rw [if_pos (h.bxlt hf)]; exact h6 k hf
theorem Raw.opR (h : Raw w0 w bx m r m2 r2 b bl il pl) (hk : KeptF w w' r.foot) (hm : RAt w0.heap.size w' r') (hf : ∀ j, r'.foot j → r.foot j ∨ w.heap.size ≤ j) : Raw w0 w' bx m r' m2 r2 b bl il pl := by
  obtain ⟨col, h0, h1, h2, h3, h4, h5, h6⟩ := h.ap
  have kp : ∀ k, k < w.heap.size → col k ≠ 1 → w'.heap[k]? = w.heap[k]? := fun k hlt hc => hk.block k hlt fun hf => hc (h1 k hf)
  refine ⟨h.at1.keep fun k hf => kp k (h.at1.lt k hf) (by rw [h0 k hf]; decide), hm, h.at3.keep fun k hf => kp k (h.at3.lt k hf) (by rw [h2 k hf]; decide), h.at4.keep fun k hf => kp k (h.at4.lt k hf) (by rw [h3 k hf]; decide), h.hd.keep fun k hf => kp k ((h.hd.lt hf).2) (by rw [h4 k hf]; decide), h.el.keep fun k hf => kp k ((h.el.lt hf).2) (by rw [h5 k hf]; decide), h.bel.trans (hk.below (fun i hi => h.at2.ge i hi) h.bel.size), fun g cs e => (kp g (h.box g cs e).lt (by rw [h6 g ⟨cs, e⟩]; decide)).trans (h.box g cs e), fun k => if k < w.heap.size then col k else 1, ?_, ?_, ?_, ?_, ?_, ?_, ?_⟩
  · intro k hf; dsimp only; rw [if_pos (h.at1.lt k hf)]; exact h0 k hf
  · intro k hk
    rcases hf k hk with h | h
    · simp only [h1 k h]; split <;> rfl
    · dsimp only; rw [if_neg (by omega)]
  · intro k hf; dsimp only; rw [if_pos (h.at3.lt k hf)]; exact h2 k hf
  · intro k hf; dsimp only; rw [if_pos (h.at4.lt k hf)]; exact h3 k hf
  · intro k hf; dsimp only; rw [if_pos ((h.hd.lt hf).2)]; exact h4 k hf
  · intro k hf; dsimp only; rw [if_pos ((h.el.lt hf).2)]; exact h5 k hf
  · intro k hf; dsimp only; rw [if_pos (h.bxlt hf)]; exact h6 k hf
theorem Raw.opB (h : Raw w0 w bx m r m2 r2 b bl il pl) (hk : KeptF w w' b.core) (hm : BagH w0.heap.size w' b') (hf : ∀ j, b'.core j → b.core j ∨ w.heap.size ≤ j) : Raw w0 w' bx m r m2 r2 b' bl il pl := by
  obtain ⟨col, h0, h1, h2, h3, h4, h5, h6⟩ := h.ap
  have kp : ∀ k, k < w.heap.size → col k ≠ 4 → w'.heap[k]? = w.heap[k]? := fun k hlt hc => hk.block k hlt fun hf => hc (h4 k hf)
  refine ⟨h.at1.keep fun k hf => kp k (h.at1.lt k hf) (by rw [h0 k hf]; decide), h.at2.keep fun k hf => kp k (h.at2.lt k hf) (by rw [h1 k hf]; decide), h.at3.keep fun k hf => kp k (h.at3.lt k hf) (by rw [h2 k hf]; decide), h.at4.keep fun k hf => kp k (h.at4.lt k hf) (by rw [h3 k hf]; decide), hm, h.el.keep fun k hf => kp k ((h.el.lt hf).2) (by rw [h5 k hf]; decide), h.bel.trans (hk.below (fun i hi => (h.hd.lt hi).1) h.bel.size), fun g cs e => (kp g (h.box g cs e).lt (by rw [h6 g ⟨cs, e⟩]; decide)).trans (h.box g cs e), fun k => if k < w.heap.size then col k else 4, ?_, ?_, ?_, ?_, ?_, ?_, ?_⟩
  · intro k hf; dsimp only; rw [if_pos (h.at1.lt k hf)]; exact h0 k hf
  · intro k hf; dsimp only; rw [if_pos (h.at2.lt k hf)]; exact h1 k hf
  · intro k hf; dsimp only; rw [if_pos (h.at3.lt k hf)]; exact h2 k hf
  · intro k hf; dsimp only; rw [if_pos (h.at4.lt k hf)]; exact h3 k hf
  · intro k hk
    rcases hf k hk with h | h
    · simp only [h4 k h]; split <;> rfl
    · dsimp only; rw [if_neg (by omega)]
  · intro k hf; dsimp only; rw [if_pos ((h.el.lt hf).2)]; exact h5 k hf
  · intro k hf; dsimp only; rw [if_pos (h.bxlt hf)]; exact h6 k hf
/-- More was gathered: its blocks are none of those that stood at 'lo'. -/
theorem Raw.more (h : Raw w0 w bx m r m2 r2 b bl il pl) {lo : Nat} {bl' il' pl' : List Hd} (hlo : (∀ k, m.foot k ∨ r.foot k ∨ m2.foot k ∨ r2.foot k ∨ b.core k ∨ BxF bx k → k < lo)) (he : BagE w0.heap.size w bl' il' pl') (hn : ∀ k, Foot bl' k ∨ Foot il' k ∨ Foot pl' k → (Foot bl k ∨ Foot il k ∨ Foot pl k) ∨ lo ≤ k) : Raw w0 w bx m r m2 r2 b bl' il' pl' := by
  obtain ⟨col, h0, h1, h2, h3, h4, h5, h6⟩ := h.ap
  refine ⟨h.at1, h.at2, h.at3, h.at4, h.hd, he, h.bel, h.box, fun k => if k < lo then col k else 5, ?_, ?_, ?_, ?_, ?_, ?_, ?_⟩
  · intro k hk; dsimp only; rw [if_pos (hlo k (.inl hk))]; exact h0 k hk
  · intro k hk; dsimp only; rw [if_pos (hlo k (.inr (.inl hk)))]; exact h1 k hk
  · intro k hk; dsimp only; rw [if_pos (hlo k (.inr (.inr (.inl hk))))]; exact h2 k hk
  · intro k hk; dsimp only; rw [if_pos (hlo k (.inr (.inr (.inr (.inl hk)))))]; exact h3 k hk
  · intro k hk; dsimp only; rw [if_pos (hlo k (.inr (.inr (.inr (.inr (.inl hk))))))]; exact h4 k hk
  · intro k hk
    rcases hn k hk with hk | hk
    · simp only [h5 k hk]; split <;> rfl
    · dsimp only; rw [if_neg (by omega)]
  · intro k hk; dsimp only; rw [if_pos (hlo k (.inr (.inr (.inr (.inr (.inr hk))))))]; exact h6 k hk
theorem Raw.lt (h : Raw w0 w bx m r m2 r2 b bl il pl) : ∀ k, m.foot k ∨ r.foot k ∨ m2.foot k ∨ r2.foot k ∨ b.core k ∨ BxF bx k → k < w.heap.size := by
  rintro k (hk | hk | hk | hk | hk | hk)
  · exact h.at1.lt k hk
  · exact h.at2.lt k hk
  · exact h.at3.lt k hk
  · exact h.at4.lt k hk
  · exact (h.hd.lt hk).2
  · exact h.bxlt hk
end
end Go.Proofs.YtndkhlafpcedbaaDoor
namespace Go.Proofs.YtndkhlafpcedbaaDoor
set_option linter.unusedVariables false
open Go.RowKit
theorem own_own {w : World} {base base' n n' : Nat} {e e' : TypeId} {v v' : Value} {xs ys : List Value} (h : w.ownsRow base e 1 v n xs) (h' : w.ownsRow base' e' 1 v' n' ys) (hne : e ≠ e') : ∀ k, v.ownBlock = some k → v'.ownBlock ≠ some k := fun k h1 h2 => by
  rcases h.2 with ⟨hv, _⟩ | ⟨g, cap, cur, hv, _, hg, _⟩
  · rw [hv] at h1; cases h1
  · rcases h'.2 with ⟨hv', _⟩ | ⟨g', cap', cur', hv', _, hg', _⟩
    · rw [hv'] at h2; cases h2
    · rw [hv] at h1; rw [hv'] at h2
      have e1 : g = k := by simpa [Value.ownBlock] using h1
      have e2 : g' = k := by simpa [Value.ownBlock] using h2
      subst e1
      subst e2
      rw [hg] at hg'
      injection hg' with hg'
      injection hg' with _ ht
      exact hne ht
/-- What an Add leaves. -/
structure Added (base g idx N n c : Nat) (e : TypeId) (A AH : Option Addr) (cells hs : List Value) (w : World) (A' : Option Addr) (c' : Nat) (w' : World) : Prop where
  own : Blk w' g 47 (cells.set idx (.slice A' (N + 1) c'))
  row : w'.ownsRow base e 1 (.slice A' (N + 1) c') (N + 1) (hs ++ [.slice A n c])
  kept : KeptF w w' (fun k => k = g ∨ blockOf AH = some k)
  at_ : blockOf A' = blockOf AH ∨ ∃ k, blockOf A' = some k ∧ w.heap.size ≤ k
theorem Added.of {base g idx N n c : Nat} {e t : TypeId} {A AH : Option Addr} {cells hs : List Value} {w : World} {A3 : Option Addr} {c3 cH : Nat} {w3 : World} (hb : Blk w g 47 cells) (hb3 : Blk w3 g 47 cells)
    (hne3 : (Value.slice A3 (N + 1) c3).ownBlock ≠ some g) (h2 : w3.ownsRow base e 1 (.slice A3 (N + 1) c3) (N + 1) (hs ++ [.slice A n c]))
    (h3 : (w.alloc (.cells #[.slice A n c] t)).grownBy w3 (Value.slice A3 (N + 1) c3).ownBlock) (h4 : (Value.slice A3 (N + 1) c3).ownBlock = (Value.slice AH N cH).ownBlock ∨ (Value.slice A3 (N + 1) c3).ownBlock = some (w.heap.size + 1)) :
    Added base g idx N n c e A AH cells hs w A3 c3 (w3.setCell ⟨g, idx, none⟩ (.slice A3 (N + 1) c3)) := by
  rw [ownBlock_of] at h4
  rw [ownBlock_of] at h4
  refine ⟨hb3.set idx _, h2.kept (row := some g) ⟨rfl, rfl, rfl, by simp [World.setCell], fun b _ hn => Below.heap_setCell _ _ _ _ (fun e => hn (by rw [e]))⟩ (.inr hne3), ?_, ?_⟩
  · refine KeptF.trans (b := w.alloc (.cells #[.slice A n c] t)) (KeptF.of_below ((Below.refl _ _).alloc (Nat.le_refl _) _) _) (KeptF.trans (b := w3) ⟨h3.os, h3.tape, h3.output, h3.size, fun k hk hF => h3.block k hk fun e => ?_⟩ (KeptF.setCell (p := ⟨g, idx, none⟩) (.inl rfl) _))
    rw [ownBlock_of] at e
    rcases h4 with h4 | h4
    · exact hF (.inr (by rw [← h4, e]))
    · rw [h4] at e; injection e with e; simp at hk; omega
  · rcases h4 with h4 | h4
    · exact .inl h4
    · exact .inr ⟨_, h4, by omega⟩

set_option maxRecDepth 100000 in
set_option maxHeartbeats 1000000 in
theorem bag2_AddBytes (g base N n c cH : Nat) (A AH : Option Addr) (cells hs : List Value) (w : World) (hb : Blk w g 47 cells) (hc0 : cells[0]? = some (.slice AH N cH)) (hH : w.ownsRow base 24 1 (.slice AH N cH) N hs) (hN : N < 300) (hbase : base ≤ w.heap.size) :
    Calls Tryd.prog 11 #[.pointer (some ⟨g, 0, none⟩), .slice A n c] w fun e w' => (∃ x, e = .returned x) ∧ ∃ A' c', Added base g 0 N n c 24 A AH cells hs w A' c' w' := by
  have hc1 : w.cell? ⟨g, 0, none⟩ = some (.slice AH N cH) := (hb.cell 0).trans hc0
  have Hb := Lib.hid hb; clear hb
  have HH := Lib.hid hH; clear hH
  have hcx : (w.alloc (.cells #[.slice A n c] 24)).cell? ⟨w.heap.size, 0, none⟩ = some (.slice A n c) := (Blk.new w 24 [.slice A n c]).cell 0
  have Hcx := Lib.hid hcx; clear hcx
  have Hne := Lib.hid (own_nb HH.out Hb.out (by decide))
  have Hc0 := Lib.hid hc0; clear hc0
  go_enter Tryd.func11, Tryd.ntmps11
  go_wp2_with (at_builtin; refine app1_bs _ rfl (.tmp 14) (.tmp 16) rfl base AH N cH hs rfl (HH.out.alloc _) w.heap.size 1 (.slice A n c) rfl Hcx.out rfl (by omega) (by simp; omega) ?_; intro A3 c3 w3 h2 h3 h4; have hne3 : (Value.slice A3 (N + 1) c3).ownBlock ≠ some g := (fun e => by rcases h4 with h4 | h4; exact Hne.out (h4 ▸ e); rw [h4] at e; injection e with e; have := Hb.out.lt; simp at e; omega); have hb3 := grown_blk h3 (Hb.out.alloc _) hne3; have hc3 := (hb3.cell 0).trans Hc0.out; have hf3 := hb3.frozen 0; have Hb3 := Lib.hid hb3; have Hne3 := Lib.hid hne3; have H2 := Lib.hid h2; have H3 := Lib.hid h3; have H4 := Lib.hid h4; clear h2 h3 h4 hb3 hne3)
  go_end0
  exact ⟨⟨_, rfl⟩, A3, c3, Added.of Hb.out Hb3.out Hne3.out H2.out H3.out (by have := H4.out; simpa using this)⟩
set_option maxRecDepth 100000 in
set_option maxHeartbeats 1000000 in
theorem bag2_AddInts (g base N n c cH : Nat) (A AH : Option Addr) (cells hs : List Value) (w : World) (hb : Blk w g 47 cells) (hc0 : cells[1]? = some (.slice AH N cH)) (hH : w.ownsRow base 66 1 (.slice AH N cH) N hs) (hN : N < 300) (hbase : base ≤ w.heap.size) :
    Calls Tryd.prog 40 #[.pointer (some ⟨g, 0, none⟩), .slice A n c] w fun e w' => (∃ x, e = .returned x) ∧ ∃ A' c', Added base g 1 N n c 66 A AH cells hs w A' c' w' := by
  have hc1 : w.cell? ⟨g, 1, none⟩ = some (.slice AH N cH) := (hb.cell 1).trans hc0
  have Hb := Lib.hid hb; clear hb
  have HH := Lib.hid hH; clear hH
  have hcx : (w.alloc (.cells #[.slice A n c] 66)).cell? ⟨w.heap.size, 0, none⟩ = some (.slice A n c) := (Blk.new w 66 [.slice A n c]).cell 0
  have Hcx := Lib.hid hcx; clear hcx
  have Hne := Lib.hid (own_nb HH.out Hb.out (by decide))
  have Hc0 := Lib.hid hc0; clear hc0
  go_enter Tryd.func40, Tryd.ntmps40
  go_wp2_with (at_builtin; refine app1_i64s _ rfl (.tmp 14) (.tmp 16) rfl base AH N cH hs rfl (HH.out.alloc _) w.heap.size 1 (.slice A n c) rfl Hcx.out rfl (by omega) (by simp; omega) ?_; intro A3 c3 w3 h2 h3 h4; have hne3 : (Value.slice A3 (N + 1) c3).ownBlock ≠ some g := (fun e => by rcases h4 with h4 | h4; exact Hne.out (h4 ▸ e); rw [h4] at e; injection e with e; have := Hb.out.lt; simp at e; omega); have hb3 := grown_blk h3 (Hb.out.alloc _) hne3; have hc3 := (hb3.cell 1).trans Hc0.out; have hf3 := hb3.frozen 1; have Hb3 := Lib.hid hb3; have Hne3 := Lib.hid hne3; have H2 := Lib.hid h2; have H3 := Lib.hid h3; have H4 := Lib.hid h4; clear h2 h3 h4 hb3 hne3)
  go_end0
  exact ⟨⟨_, rfl⟩, A3, c3, Added.of Hb.out Hb3.out Hne3.out H2.out H3.out (by have := H4.out; simpa using this)⟩
/-! ### as the law keeps it -/
def BagV.setB (b : BagV) (A' : Option Addr) (c' : Nat) (x : Hd) : BagV := { b with AB := A', cB := c', bl := b.bl ++ [x] }
def BagV.setI (b : BagV) (A' : Option Addr) (c' : Nat) (x : Hd) : BagV := { b with AI := A', cI := c', il := b.il ++ [x] }
def BagV.setP (b : BagV) (A' : Option Addr) (c' : Nat) (x : Hd) : BagV := { b with AP := A', cP := c', pl := b.pl ++ [x] }
theorem BagH.addB {base n c : Nat} {w w' : World} {b : BagV} (hb : BagH base w b) {A' B : Option Addr} {c' : Nat} (h : Added base b.g 0 b.bl.length n c 24 B b.AB b.cells (b.bl.map hdV) w A' c' w') :
    BagH base w' (b.setB A' c' (B, n, c)) ∧ KeptF w w' b.core ∧ ∀ j, (b.setB A' c' (B, n, c)).core j → b.core j ∨ w.heap.size ≤ j := by
  have hcore : ∀ j, (j = b.g ∨ blockOf b.AB = some j) → b.core j := fun j hj => by
    rcases hj with hj | hj
    · exact .inl hj
    · exact .inr (.inl hj)
  refine ⟨⟨?_, hb.low, by have := h.row; rw [show (b.setB A' c' (B, n, c)).bl = b.bl ++ [(B, n, c)] from rfl, List.map_append, List.length_append]; exact this, own_keepb hb.ri fun k hk => h.kept.block k (hb.ri.lt k hk).2 (fun hf => by rcases hf with hf | hf; exact own_ne hb.ri hb.own (by decide) (hf ▸ hk); exact own_own hb.ri hb.rb (by decide) k hk (by rw [ownBlock_of]; exact hf)), own_keepb hb.rp fun k hk => h.kept.block k (hb.rp.lt k hk).2 (fun hf => by rcases hf with hf | hf; exact own_ne hb.rp hb.own (by decide) (hf ▸ hk); exact own_own hb.rp hb.rb (by decide) k hk (by rw [ownBlock_of]; exact hf))⟩, h.kept.mono hcore, fun j hj => ?_⟩
  · have := h.own
    unfold BagV.cells BagV.setB at *
    simpa using this
  · rcases hj with hj | hj | hj | hj
    · exact .inl (.inl hj)
    · rcases h.at_ with h1 | ⟨k, h1, h2⟩
      · exact .inl (.inr (.inl (h1 ▸ hj)))
      · have h3 : blockOf A' = some j := hj
        rw [h1] at h3
        injection h3 with h3
        exact .inr (by omega)
    · exact .inl (.inr (.inr (.inl hj)))
    · exact .inl (.inr (.inr (.inr hj)))
theorem BagH.addI {base n c : Nat} {w w' : World} {b : BagV} (hb : BagH base w b) {A' B : Option Addr} {c' : Nat} (h : Added base b.g 1 b.il.length n c 66 B b.AI b.cells (b.il.map hdV) w A' c' w') :
    BagH base w' (b.setI A' c' (B, n, c)) ∧ KeptF w w' b.core ∧ ∀ j, (b.setI A' c' (B, n, c)).core j → b.core j ∨ w.heap.size ≤ j := by
  have hcore : ∀ j, (j = b.g ∨ blockOf b.AI = some j) → b.core j := fun j hj => by
    rcases hj with hj | hj
    · exact .inl hj
    · exact .inr (.inr (.inl hj))
  refine ⟨⟨?_, hb.low, own_keepb hb.rb fun k hk => h.kept.block k (hb.rb.lt k hk).2 (fun hf => by rcases hf with hf | hf; exact own_ne hb.rb hb.own (by decide) (hf ▸ hk); exact own_own hb.rb hb.ri (by decide) k hk (by rw [ownBlock_of]; exact hf)), by have := h.row; rw [show (b.setI A' c' (B, n, c)).il = b.il ++ [(B, n, c)] from rfl, List.map_append, List.length_append]; exact this, own_keepb hb.rp fun k hk => h.kept.block k (hb.rp.lt k hk).2 (fun hf => by rcases hf with hf | hf; exact own_ne hb.rp hb.own (by decide) (hf ▸ hk); exact own_own hb.rp hb.ri (by decide) k hk (by rw [ownBlock_of]; exact hf))⟩, h.kept.mono hcore, fun j hj => ?_⟩
  · have := h.own
    unfold BagV.cells BagV.setI at *
    simpa using this
  · rcases hj with hj | hj | hj | hj
    · exact .inl (.inl hj)
    · exact .inl (.inr (.inl hj))
    · rcases h.at_ with h1 | ⟨k, h1, h2⟩
      · exact .inl (.inr (.inr (.inl (h1 ▸ hj))))
      · have h3 : blockOf A' = some j := hj
        rw [h1] at h3
        injection h3 with h3
        exact .inr (by omega)
    · exact .inl (.inr (.inr (.inr hj)))
theorem BagH.addP {base n c : Nat} {w w' : World} {b : BagV} (hb : BagH base w b) {A' B : Option Addr} {c' : Nat} (h : Added base b.g 15 b.pl.length n c 29 B b.AP b.cells (b.pl.map hdV) w A' c' w') :
    BagH base w' (b.setP A' c' (B, n, c)) ∧ KeptF w w' b.core ∧ ∀ j, (b.setP A' c' (B, n, c)).core j → b.core j ∨ w.heap.size ≤ j := by
  have hcore : ∀ j, (j = b.g ∨ blockOf b.AP = some j) → b.core j := fun j hj => by
    rcases hj with hj | hj
    · exact .inl hj
    · exact .inr (.inr (.inr hj))
  refine ⟨⟨?_, hb.low, own_keepb hb.rb fun k hk => h.kept.block k (hb.rb.lt k hk).2 (fun hf => by rcases hf with hf | hf; exact own_ne hb.rb hb.own (by decide) (hf ▸ hk); exact own_own hb.rb hb.rp (by decide) k hk (by rw [ownBlock_of]; exact hf)), own_keepb hb.ri fun k hk => h.kept.block k (hb.ri.lt k hk).2 (fun hf => by rcases hf with hf | hf; exact own_ne hb.ri hb.own (by decide) (hf ▸ hk); exact own_own hb.ri hb.rp (by decide) k hk (by rw [ownBlock_of]; exact hf)), by have := h.row; rw [show (b.setP A' c' (B, n, c)).pl = b.pl ++ [(B, n, c)] from rfl, List.map_append, List.length_append]; exact this⟩, h.kept.mono hcore, fun j hj => ?_⟩
  · have := h.own
    unfold BagV.cells BagV.setP at *
    simpa using this
  · rcases hj with hj | hj | hj | hj
    · exact .inl (.inl hj)
    · exact .inl (.inr (.inl hj))
    · exact .inl (.inr (.inr (.inl hj)))
    · rcases h.at_ with h1 | ⟨k, h1, h2⟩
      · exact .inl (.inr (.inr (.inr (h1 ▸ hj))))
      · have h3 : blockOf A' = some j := hj
        rw [h1] at h3
        injection h3 with h3
        exact .inr (by omega)
end Go.Proofs.YtndkhlafpcedbaaDoor
namespace Go.Proofs.YtndkhlafpcedbaaDoor
set_option linter.unusedVariables false
open Go.RowKit
/-- k pages' bytes added. -/
structure APL (base : Nat) (w : World) (b : BagV) (A : Option Addr) (n c : Nat) (gl : List Hd) (k : Nat) (b' : BagV) (wr : World) : Prop where
  hd : BagH base wr b'
  g : b'.g = b.g
  bl : b'.bl = b.bl ++ gl.take k
  il : b'.il = b.il
  pl : b'.pl = b.pl ++ [(A, n, c)]
  kept : KeptF w wr b.core
  foot : ∀ j, b'.core j → b.core j ∨ w.heap.size ≤ j
def APLrel (base : Nat) (w : World) (b : BagV) (A : Option Addr) (n c : Nat) (gl : List Hd) (i : Value) (wr : World) : Prop := ∃ (k : Nat) (b' : BagV), k ≤ n ∧ i = .int .i64 k ∧ APL base w b A n c gl k b' wr
set_option maxRecDepth 100000 in
set_option maxHeartbeats 2000000 in
theorem bag2_AddPages (base base' : Nat) (b : BagV) (A : Option Addr) (n c : Nat) (gl : List Hd) (w : World) (h : BagH base w b) (hNP : b.pl.length < 300) (hn : n = gl.length) (hn64 : n ≤ 64) (hNB : b.bl.length + n ≤ 300) (hbase : base ≤ w.heap.size)
    (hrow : w.ownsRow base' 24 1 (.slice A n c) n (gl.map hdV)) (hap : ∀ k, blockOf A = some k → ¬ b.core k) :
    Calls Tryd.prog 37 #[.pointer (some ⟨b.g, 0, none⟩), .slice A n c] w fun e w' => (∃ x, e = .returned x) ∧ ∃ b', APL base w b A n c gl n b' w' := by
  have hc1 : w.cell? ⟨b.g, 15, none⟩ = some (.slice b.AP b.pl.length b.cP) := h.own.cell 15
  have Hb := Lib.hid h.own
  have HH := Lib.hid h.rp
  have HB := Lib.hid h
  have Hn := Lib.hid hn; clear hn
  have Hrow := Lib.hid hrow; clear hrow
  have Hap := Lib.hid hap; clear hap
  have hcx : (w.alloc (.cells #[.slice A n c] 29)).cell? ⟨w.heap.size, 0, none⟩ = some (.slice A n c) := (Blk.new w 29 [.slice A n c]).cell 0
  have Hcx := Lib.hid hcx; clear hcx
  have Hne := Lib.hid (own_nb HH.out Hb.out (by decide))
  clear h
  go_enter Tryd.func37, Tryd.ntmps37
  go_wp2_with (at_builtin; refine app1_pgs _ rfl (.tmp 15) (.tmp 17) rfl base b.AP b.pl.length b.cP (b.pl.map hdV) rfl (HH.out.alloc _) w.heap.size 1 (.slice A n c) rfl Hcx.out rfl (by omega) (by simp; omega) ?_; intro A3 c3 w3 h2 h3 h4; have hne3 : (Value.slice A3 (b.pl.length + 1) c3).ownBlock ≠ some b.g := (fun e => by rcases h4 with h4 | h4; exact Hne.out (h4 ▸ e); rw [h4] at e; injection e with e; have := Hb.out.lt; simp at e; omega); have hb3 := grown_blk h3 (Hb.out.alloc _) hne3; have hc3 : w3.cell? ⟨b.g, 15, none⟩ = some (.slice b.AP b.pl.length b.cP) := hb3.cell 15; have hf3 := hb3.frozen 15; have Hb3 := Lib.hid hb3; have Hne3 := Lib.hid hne3; have H2 := Lib.hid h2; have H3 := Lib.hid h3; have H4 := Lib.hid h4; clear h2 h3 h4 hb3 hne3)
  have HS : Hid (APL base w b A n c gl 0 (b.setP A3 c3 (A, n, c)) (w3.setCell ⟨b.g, 15, none⟩ (.slice A3 (b.pl.length + 1) c3))) := by
    obtain ⟨g1, g2, g3⟩ := HB.out.addP (Added.of Hb.out Hb3.out Hne3.out H2.out H3.out (by have := H4.out; simpa using this))
    exact Lib.hid ⟨g1, rfl, by simp [BagV.setP], rfl, rfl, g2, g3⟩
  clear H2 H3 H4 Hb3 Hne3 hc3 hf3 hc1
  generalize w3.setCell ⟨b.g, 15, none⟩ (.slice A3 (b.pl.length + 1) c3) = w4 at *
  go_loopw [4] (fun i wr => APLrel base w b A n c gl i wr) (fun i _ => n - (intOf i).toNat)
  case atStart => exact ⟨0, _, Nat.zero_le _, rfl, HS.out⟩
  case round =>
    obtain ⟨k, b', hk, rfl, hap⟩ := hrel
    have HA := Lib.hid hap; clear hap
    have hk0 : (0 : Int) ≤ k := by omega
    by_cases hlt : k < n
    · have q1 : decide ((k : Int) < n) = true := decide_eq_true (by omega)
      have q2 : decide (k < n) = true := decide_eq_true hlt
      have q3 : (k : Int) < 300 := by omega
      have q4 : k < 300 := by omega
      obtain ⟨⟨A2, n2, c2⟩, hg⟩ : ∃ x, gl[k]? = some x := ⟨_, List.getElem?_eq_getElem (by rw [← Hn.out]; exact hlt)⟩
      have hrw : wr.ownsRow base' 24 1 (.slice A n c) n (gl.map hdV) := own_keepb Hrow.out fun q hq => HA.out.kept.block q (Hrow.out.lt q hq).2 (Hap.out q (by rwa [ownBlock_of] at hq))
      obtain ⟨bh, rfl, hcl⟩ := own_hdr hrw (k := k) (u := .slice A2 n2 c2) (by rw [List.getElem?_map, hg]; rfl)
      clear hrw
      have hbl : b'.bl.length < 300 := by rw [HA.out.bl, List.length_append, List.length_take]; omega
      have HC := Lib.hid (bag2_AddBytes b'.g base b'.bl.length n2 c2 b'.cB A2 b'.AB b'.cells (b'.bl.map hdV) wr HA.out.hd.own rfl HA.out.hd.rb hbl (Nat.le_trans hbase HA.out.kept.size))
      rw [HA.out.g] at HC
      have Hg := Lib.hid hg; clear hg
      go_wp2_with fail
      refine HC.out.mono ?_
      rintro e w5 ⟨⟨x, rfl⟩, A', c', hadd⟩
      have hadd' : Added base b'.g 0 b'.bl.length n2 c2 24 A2 b'.AB b'.cells (b'.bl.map hdV) wr A' c' w5 := by rw [HA.out.g]; exact hadd
      obtain ⟨g1, g2, g3⟩ := HA.out.hd.addB hadd'
      have HN : Hid (APL base w b (some ⟨bh, 0, none⟩) n c gl (k + 1) (b'.setB A' c' (A2, n2, c2)) w5) := Lib.hid ⟨g1, HA.out.g, by show b'.bl ++ [(A2, n2, c2)] = _; rw [HA.out.bl, List.take_add_one, Hg.out]; simp, HA.out.il, HA.out.pl, HA.out.kept.then g2 HA.out.foot, fun j hj => by
        rcases g3 j hj with h1 | h1
        · exact HA.out.foot j h1
        · have := HA.out.kept.size
          exact .inr (by omega)⟩
      clear hadd hadd' g1 g2 g3 hcl
      go_wp2_with fail
      exact ⟨⟨k + 1, _, by omega, by go_num, HN.out⟩, by simp [intOf]; omega⟩
    · obtain rfl : k = n := by omega
      have q1 : decide ((k : Int) < k) = false := by simp
      go_wp2_with fail
      go_end0
      exact ⟨⟨_, rfl⟩, b', HA.out⟩
end Go.Proofs.YtndkhlafpcedbaaDoor
namespace Go.Proofs.YtndkhlafpcedbaaDoor
set_option linter.unusedVariables false
open Go.RowKit
theorem foot_foot {base : Nat} {e t : TypeId} {w : World} {bl il : List Hd} (h : Rows1 base e w bl) (h' : Rows1 base t w il) (hne : e ≠ t) : ∀ k, Foot il k → ¬ Foot bl k := fun k hf hf' => by
  obtain ⟨_, cur, hg⟩ := foot_type h hf'
  obtain ⟨_, cur', hg'⟩ := foot_type h' hf
  rw [hg] at hg'
  injection hg' with hg'
  injection hg' with _ ht
  exact hne ht
theorem BagH.apart {base : Nat} {e : TypeId} {w w' : World} {b : BagV} {bl : List Hd} (h : BagH base w b) (hk : KeptB w w' (Foot bl)) (hr : Rows1 base e w bl) (h1 : e ≠ 47) (h2 : e ≠ 24 ∨ (∀ k, blockOf b.AB = some k → ¬ Foot bl k)) (h3 : e ≠ 66) (h4 : e ≠ 29) : BagH base w' b :=
  ⟨hk.blk h.own (foot_blk hr h.own (Ne.symm h1)), h.low, hk.own h.rb (by rcases h2 with h2 | h2; exact foot_own hr h.rb (Ne.symm h2); exact fun k hk' => h2 k (by rwa [ownBlock_of] at hk')), hk.own h.ri (foot_own hr h.ri (Ne.symm h3)), hk.own h.rp (foot_own hr h.rp (Ne.symm h4))⟩
theorem Rows1.apart {base : Nat} {e t : TypeId} {w w' : World} {bl il : List Hd} (h : Rows1 base t w il) (hk : KeptB w w' (Foot bl)) (hr : Rows1 base e w bl) (hne : e ≠ t) : Rows1 base t w' il :=
  h.keep fun k hf => hk.block k (h.lt hf).2 (foot_foot hr h hne k hf)
set_option maxRecDepth 100000 in
set_option maxHeartbeats 4000000 in
theorem bag2_Apart (base : Nat) (b : BagV) (w : World) (h : BagH base w b) (he : BagE base w b.bl b.il b.pl) (hN1 : b.bl.length ≤ 300) (hN2 : b.il.length ≤ 300) (hN3 : b.pl.length ≤ 300) (hbase : base ≤ w.heap.size) (hT : ∀ W, Below base w W → HTab W) :
    Calls Tryd.prog 16 #[.pointer (some ⟨b.g, 0, none⟩)] w fun e w' => e = .returned (.bool true) ∧ Below base w w' := by
  have HH := Lib.hid h
  have HE := Lib.hid he
  have HT := Lib.hid hT
  clear h he hT
  go_enter Tryd.func16, Tryd.ntmps16
  go_wp2_with fail
  refine (apart_bytes b.g base b.bl.length b.cB b.cells b.AB b.bl w HH.out.own rfl rfl hN1 HH.out.rb HE.out.ob HE.out.db (fun q A n c hq => by have := HE.out.len _ (.inl rfl) q A n c hq; omega) hbase).mono ?_
  rintro e w1 ⟨rfl, hk⟩
  have H1 := Lib.hid (HH.out.apart hk HE.out.ob (by decide) (.inl (by decide)) (by decide) (by decide))
  have Ei1 := Lib.hid (HE.out.oi.apart hk HE.out.ob (by decide))
  have Ep1 := Lib.hid (HE.out.op.apart hk HE.out.ob (by decide))
  have B1 := Lib.hid (hk.below (fun i hi => (HE.out.ob.lt hi).1) hbase)
  clear hk
  go_wp2_with fail
  refine (apart_ints b.g base b.il.length b.cI b.cells b.AI b.il w1 H1.out.own rfl rfl hN2 H1.out.ri Ei1.out HE.out.di (fun q A n c hq => by have := HE.out.len _ (.inr (.inl rfl)) q A n c hq; omega) (Nat.le_trans hbase B1.out.size)).mono ?_
  rintro e w2 ⟨rfl, hk⟩
  have H2 := Lib.hid (H1.out.apart hk Ei1.out (by decide) (.inl (by decide)) (by decide) (by decide))
  have Ep2 := Lib.hid (Ep1.out.apart hk Ei1.out (by decide))
  have B2 := Lib.hid (B1.out.trans (hk.below (fun i hi => (Ei1.out.lt hi).1) (Nat.le_trans hbase B1.out.size)))
  have Hb2 := Lib.hid H2.out.own
  clear hk H1 Ei1 Ep1 B1
  go_wp2_with (first | (go_at_call 66; refine (apart_Longs_no b.g 0 none _ _ Hb2.out rfl).mono ?_; rintro e w' ⟨rfl, rfl⟩) | (go_at_call 67; refine (apart_Words_no b.g 0 none _ _ Hb2.out rfl).mono ?_; rintro e w' ⟨rfl, rfl⟩) | (go_at_call 68; refine (apart_Bools_no b.g 0 none _ _ Hb2.out rfl).mono ?_; rintro e w' ⟨rfl, rfl⟩) | (go_at_call 69; refine (apart_Texts_no b.g 0 none _ _ Hb2.out rfl).mono ?_; rintro e w' ⟨rfl, rfl⟩) | (go_at_call 70; refine (apart_Sigs_no b.g 0 none _ _ Hb2.out rfl).mono ?_; rintro e w' ⟨rfl, rfl⟩) | (go_at_call 71; refine (apart_Globals_no b.g 0 none _ _ Hb2.out rfl).mono ?_; rintro e w' ⟨rfl, rfl⟩) | (go_at_call 72; refine (apart_Exports_no b.g 0 none _ _ Hb2.out rfl).mono ?_; rintro e w' ⟨rfl, rfl⟩) | (go_at_call 73; refine (apart_Code_no b.g 0 none _ _ Hb2.out rfl).mono ?_; rintro e w' ⟨rfl, rfl⟩) | (go_at_call 74; refine (apart_Functions_no b.g 0 none _ _ Hb2.out rfl).mono ?_; rintro e w' ⟨rfl, rfl⟩) | (go_at_call 75; refine (apart_Datas_no b.g 0 none _ _ Hb2.out rfl).mono ?_; rintro e w' ⟨rfl, rfl⟩) | (go_at_call 76; refine (apart_Tables_no b.g 0 none _ _ Hb2.out rfl).mono ?_; rintro e w' ⟨rfl, rfl⟩) | (go_at_call 77; refine (apart_Frames_no b.g 0 none _ _ Hb2.out rfl).mono ?_; rintro e w' ⟨rfl, rfl⟩) | (go_at_call 78; refine (apart_Replies_no b.g 0 none _ _ Hb2.out rfl).mono ?_; rintro e w' ⟨rfl, rfl⟩))
  refine (apart_pages b.g base b.pl.length b.cP b.cells b.AP b.pl w2 H2.out.own rfl rfl hN3 H2.out.rp Ep2.out HE.out.dp (fun q A n c hq => HE.out.len _ (.inr (.inr rfl)) q A n c hq) (Nat.le_trans hbase B2.out.size) (fun W hW => HT.out W (B2.out.trans hW))).mono ?_
  rintro e w3 ⟨rfl, hk⟩
  have Hb3 : Hid (Blk w3 b.g 47 b.cells) := Lib.hid (hk.blk H2.out.own (foot_blk Ep2.out H2.out.own (by decide)))
  have B3 := Lib.hid (B2.out.trans (hk.below (fun i hi => (Ep2.out.lt hi).1) (Nat.le_trans hbase B2.out.size)))
  clear hk H2 Ep2 B2 Hb2
  go_wp2_with (first | (go_at_call 80; refine (apart_Rows_no b.g 0 none _ _ Hb3.out rfl).mono ?_; rintro e w' ⟨rfl, rfl⟩))
  go_ret
  exact ⟨rfl, B3.out⟩
end Go.Proofs.YtndkhlafpcedbaaDoor
