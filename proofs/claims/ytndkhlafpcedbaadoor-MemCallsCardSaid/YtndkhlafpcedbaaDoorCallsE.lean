/- flagonlaw13.MemCalls: what its loop keeps. -/
import Derived.Test.YtndkhlafpcedbaaDoorCallsA
import Derived.Test.YtndkhlafpcedbaaDoorMemW
namespace Go.Proofs.YtndkhlafpcedbaaDoor
set_option linter.unusedVariables false
open Go.RowKit
/-- A call on a memory. -/
structure CallV where
  d : Int
  s : Bool
  a : Nat
  n : Int
  v : Nat
structure CallOk (x : CallV) : Prop where
  a : x.a < 18446744073709551616
  v : x.v < 18446744073709551616
/-- The calls can be read. -/
structure CsAt (w : World) (B : Nat) (A : Option Addr) (cs : List CallV) : Prop where
  at_ : ∀ (k : Nat) x, cs[k]? = some x → ∃ b o, A = some ⟨b, o, none⟩ ∧ b < B ∧ w.cell? ⟨b, o + k * 5, none⟩ = some (.int .i64 x.d) ∧ w.cell? ⟨b, o + k * 5 + 1, none⟩ = some (.bool x.s) ∧ w.cell? ⟨b, o + k * 5 + 2, none⟩ = some (.int .u64 x.a) ∧ w.cell? ⟨b, o + k * 5 + 3, none⟩ = some (.int .i64 x.n) ∧ w.cell? ⟨b, o + k * 5 + 4, none⟩ = some (.int .u64 x.v) ∧ CallOk x
theorem CsAt.below {w w' : World} {B : Nat} {A : Option Addr} {cs : List CallV} (h : CsAt w B A cs) (hb : Below B w w') : CsAt w' B A cs := ⟨fun k x hk => by
  obtain ⟨b, o, e, hlt, h0, h1, h2, h3, h4, h5⟩ := h.at_ k x hk
  exact ⟨b, o, e, hlt, (hb.cell (p := ⟨b, _, none⟩) hlt).trans h0, (hb.cell (p := ⟨b, _, none⟩) hlt).trans h1, (hb.cell (p := ⟨b, _, none⟩) hlt).trans h2, (hb.cell (p := ⟨b, _, none⟩) hlt).trans h3, (hb.cell (p := ⟨b, _, none⟩) hlt).trans h4, h5⟩⟩
/-- The program's memory and the document's are alike. -/
structure Tw (m : MemV) (r : RefM) : Prop where
  B : m.B = r.B
  d : m.d = r.d
  mo : m.most = r.most
structure LC (w0 : World) (M g0 : Nat) (k kp : Nat) (gr : Int) (bx : Option (Nat × List Value)) (m : MemV) (r : RefM) (m2 : MemV) (r2 : RefM) (b : BagV) (wr : World) : Prop where
  raw : Raw w0 wr bx m r m2 r2 b b.bl b.il b.pl
  t1 : Tw m r
  t2 : Tw m2 r2
  m1 : m.most = M
  m2_ : m2.most = M
  g : b.g = g0
  il : b.il.length = k
  pl : b.pl.length ≤ kp
  bl : b.bl.length ≤ 7
  blg : (b.bl.length : Int) ≤ gr
  gr0 : 0 ≤ gr ∧ gr ≤ 64 * kp
theorem LC.swap {w0 wr : World} {M g0 k kp : Nat} {gr : Int} {bx : Option (Nat × List Value)} {m m2 : MemV} {r r2 : RefM} {b : BagV} (h : LC w0 M g0 k kp gr bx m r m2 r2 b wr) : LC w0 M g0 k kp gr bx m2 r2 m r b wr :=
  ⟨h.raw.swap, h.t2, h.t1, h.m2_, h.m1, h.g, h.il, h.pl, h.bl, h.blg, h.gr0⟩
def bag0 (g : Nat) : BagV := ⟨g, none, 0, none, 0, none, 0, [], [], []⟩
theorem Raw.start {w0 w1 w2 w3 w4 w5 : World} {m m2 : MemV} {r r2 : RefM} (hm : MAt w0.heap.size w5 m) (hr : RAt w0.heap.size w5 r) (hm2 : MAt w0.heap.size w5 m2) (hr2 : RAt w0.heap.size w5 r2) (hb : Below w0.heap.size w0 w5)
    (h1 : ∀ k, m.foot k → w1.heap.size ≤ k ∧ k < w2.heap.size) (h2 : ∀ k, r.foot k → w2.heap.size ≤ k ∧ k < w3.heap.size) (h3 : ∀ k, m2.foot k → w3.heap.size ≤ k ∧ k < w4.heap.size) (h4 : ∀ k, r2.foot k → w4.heap.size ≤ k ∧ k < w5.heap.size)
    (s1 : w2.heap.size ≤ w3.heap.size) (s2 : w3.heap.size ≤ w4.heap.size) (s3 : w4.heap.size ≤ w5.heap.size) :
    Raw w0 (w5.alloc (.cells #[.slice none 0 0, .slice none 0 0, .slice none 0 0, .slice none 0 0, .slice none 0 0, .slice none 0 0, .slice none 0 0, .slice none 0 0, .slice none 0 0, .slice none 0 0, .slice none 0 0, .slice none 0 0, .slice none 0 0, .slice none 0 0, .slice none 0 0, .slice none 0 0, .slice none 0 0] 47)) none m r m2 r2 (bag0 w5.heap.size) [] [] [] := by
  have hb5 : Below w5.heap.size w5 (w5.alloc (.cells (bag0 w5.heap.size).cells.toArray 47)) := (Below.refl _ _).alloc (Nat.le_refl _) _
  refine ⟨hm.below hb5, hr.below hb5, hm2.below hb5, hr2.below hb5, ⟨Blk.new w5 _ (bag0 w5.heap.size).cells, hb.size, World.ownsRow_nil _ _ _ _, World.ownsRow_nil _ _ _ _, World.ownsRow_nil _ _ _ _⟩, ⟨fun q A n c h => by simp at h, fun q A n c h => by simp at h, fun q A n c h => by simp at h, fun q q' A n c A' n' c' h => by simp at h, fun q q' A n c A' n' c' h => by simp at h, fun q q' A n c A' n' c' h => by simp at h, fun l hl q A n c h => by rcases hl with rfl | rfl | rfl <;> simp at h⟩, hb.trans (hb5.mono hb.size), (fun g cs e => by cases e), fun k => if k < w2.heap.size then 0 else if k < w3.heap.size then 1 else if k < w4.heap.size then 2 else if k < w5.heap.size then 3 else 4, ?_, ?_, ?_, ?_, ?_, ?_, ?_⟩
  · intro k hk; have := h1 k hk; dsimp only; rw [if_pos this.2]
  · intro k hk; have := h2 k hk; dsimp only; rw [if_neg (by omega), if_pos this.2]
  · intro k hk; have := h3 k hk; dsimp only; rw [if_neg (by omega), if_neg (by omega), if_pos this.2]
  · intro k hk; have := h4 k hk; dsimp only; rw [if_neg (by omega), if_neg (by omega), if_neg (by omega), if_pos this.2]
  · intro k hk
    rcases hk with hk | hk | hk | hk
    · have : k = w5.heap.size := hk
      dsimp only; rw [if_neg (by omega), if_neg (by omega), if_neg (by omega), if_neg (by omega)]
    · cases hk
    · cases hk
    · cases hk
  · intro k hk
    rcases hk with ⟨q, A, n, c, h, _⟩ | ⟨q, A, n, c, h, _⟩ | ⟨q, A, n, c, h, _⟩ <;> simp at h
  · intro k hk; obtain ⟨cs, e⟩ := hk; cases e
def LCrel (w0 : World) (M g0 n : Nat) (a x b y gr i : Value) (wr : World) : Prop := ∃ (k : Nat) (g : Int) (m : MemV) (r : RefM) (m2 : MemV) (r2 : RefM) (bg : BagV), k ≤ n ∧ i = .int .i64 k ∧ gr = .int .i64 g ∧ a = .pointer (some ⟨m.p, 0, none⟩) ∧ x = .pointer (some ⟨r.p, 0, none⟩) ∧ b = .pointer (some ⟨m2.p, 0, none⟩) ∧ y = .pointer (some ⟨r2.p, 0, none⟩) ∧ LC w0 M g0 k k g none m r m2 r2 bg wr
theorem MemAt.mono {tm tp tg base base' : Nat} {w : World} {m : MemV} (h : MemAt tm tp tg base w m) (hb : base' ≤ base) : MemAt tm tp tg base' w m :=
  ⟨h.own, h.dl, World.ownsRow.mono h.row hb, h.page, h.len, h.apart, h.np, h.most, ⟨Nat.le_trans hb h.low.1, fun b hb' => Nat.le_trans hb (h.low.2 b hb')⟩⟩
def CallV.cells (x : CallV) : List Value := [.int .i64 x.d, .bool x.s, .int .u64 x.a, .int .i64 x.n, .int .u64 x.v]
section
variable {w0 w w' : World} {M g0 k kp : Nat} {gr : Int} {bx : Option (Nat × List Value)} {m m' m2 : MemV} {r r' r2 : RefM} {b : BagV}
theorem LC.below (h : LC w0 M g0 k kp gr bx m r m2 r2 b w) (hb : Below w.heap.size w w') : LC w0 M g0 k kp gr bx m r m2 r2 b w' :=
  ⟨h.raw.below hb, h.t1, h.t2, h.m1, h.m2_, h.g, h.il, h.pl, h.bl, h.blg, h.gr0⟩
theorem LC.drew (h : LC w0 M g0 k kp gr bx m r m2 r2 b w) : LC w0 M g0 k kp gr bx m r m2 r2 b w.drew := h.below ((Below.refl _ _).drew)
theorem LC.box (h : LC w0 M g0 k k gr none m r m2 r2 b w) (x : CallV) : LC w0 M g0 k k gr (some (w.heap.size, x.cells)) m r m2 r2 b (w.alloc (.cells x.cells.toArray 71)) :=
  ⟨h.raw.setbox x.cells, h.t1, h.t2, h.m1, h.m2_, h.g, h.il, h.pl, h.bl, h.blg, h.gr0⟩
theorem LC.np (h : LC w0 M g0 k kp gr bx m r m2 r2 b w) : m.bs.length ≤ M ∧ M ≤ 64 ∧ m.B.length = 4096 * m.bs.length ∧ r.B.length = 4096 * m.bs.length := by
  have h1 := h.raw.at1.np
  have h2 := h.raw.at1.most
  have h3 := h.raw.at1.len
  rw [h.m1] at h1 h2
  exact ⟨h1, h2, h3, by rw [← h.t1.B]; exact h3⟩
theorem LC.more (h : LC w0 M g0 k k gr bx m r m2 r2 b w) : LC w0 M g0 k (k + 1) gr bx m r m2 r2 b w :=
  ⟨h.raw, h.t1, h.t2, h.m1, h.m2_, h.g, h.il, Nat.le_succ_of_le h.pl, h.bl, h.blg, by have := h.gr0; omega⟩
theorem LC.pair (h : LC w0 M g0 k k gr bx m r m2 r2 b w) (hr : Raw w0 w' bx m' r' m2 r2 b b.bl b.il b.pl) (ht : Tw m' r') (hm : m'.most = M) : LC w0 M g0 k (k + 1) gr bx m' r' m2 r2 b w' :=
  ⟨hr, ht, h.t2, hm, h.m2_, h.g, h.il, Nat.le_succ_of_le h.pl, h.bl, h.blg, by have := h.gr0; omega⟩
theorem LC.cells {g : Nat} {cs : List Value} (h : LC w0 M g0 k kp gr (some (g, cs)) m r m2 r2 b w) (i : Nat) : w.cell? ⟨g, i, none⟩ = cs[i]? := (h.raw.box g cs rfl).cell i
end
theorem tw_same {N : Nat} {m : MemV} {r : RefM} (hB : m.B = r.B) (hl : m.B.length = 4096 * N) (hN : N ≤ 64) {b1 b2 c1 c2 : Nat} {w1 w2 : World} {A1 A2 : Option Addr} {g1 g2 : List (Hd × List Value)}
    (h1 : PgsAt b1 w1 A1 N c1 g1 m.B) (h2 : PgsAt b2 w2 A2 N c2 g2 r.B) (W : World) (hb1 : Below w1.heap.size w1 W) (hb2 : Below w2.heap.size w2 W) :
    Calls Tryd.prog 24 #[.slice A1 N c1, .slice A2 N c2] W fun e w' => Below W.heap.size W w' ∧ e = .returned (.bool true) := by
  rw [← hB] at h2
  have p1 := (h1.pv (page_len hl)).below hb1 (Nat.le_refl _)
  have p2 := (h2.pv (page_len hl)).below hb2 (Nat.le_refl _)
  have hc := eq_pages A1 A2 N N c1 c2 w1.heap.size w2.heap.size W (pgl m.B N) (pgl m.B N) (pgl_len _ _).symm (pgl_len _ _).symm (by omega) (fun l hl' => by
    unfold pgl at hl'
    obtain ⟨i, hi, rfl⟩ := List.mem_map.1 hl'
    rw [page_len hl i (by simpa using hi)]
    omega) p1 p2 hb1.size hb2.size
  rwa [decide_eq_true rfl] at hc
/-- Pages that are the same, as bytes. -/
theorem pages_ext {B B' : List UInt8} {N : Nat} (h : B.length = 4096 * N) (h' : B'.length = 4096 * N) (hp : ∀ i, i < N → pageOf B i = pageOf B' i) : B = B' := by
  apply List.ext_getElem?
  intro j
  by_cases hj : j < 4096 * N
  · have h1 := pageOf_get B j (by omega)
    have h2 := pageOf_get B' j (by omega)
    rw [← h1, ← h2, hp _ (by omega)]
  · rw [List.getElem?_eq_none (by omega), List.getElem?_eq_none (by omega)]
theorem pgl_all {B : List UInt8} {N : Nat} (h : B.length = 4096 * N) : ∀ l ∈ pgl B N, l.length = 4096 := fun l hl => by
  unfold pgl at hl
  obtain ⟨i, hi, rfl⟩ := List.mem_map.1 hl
  exact page_len h i (by simpa using hi)
theorem foot_app {bl gl : List Hd} {k : Nat} (h : Foot (bl ++ gl) k) : Foot bl k ∨ Foot gl k := by
  obtain ⟨q, A, n, c, hq, hA⟩ := h
  by_cases hlt : q < bl.length
  · rw [List.getElem?_append_left hlt] at hq
    exact .inl ⟨q, A, n, c, hq, hA⟩
  · rw [List.getElem?_append_right (by omega)] at hq
    exact .inr ⟨_, A, n, c, hq, hA⟩
theorem Rows1.app {base : Nat} {e : TypeId} {w : World} {bl gl : List Hd} (h : Rows1 base e w bl) (h' : Rows1 base e w gl) : Rows1 base e w (bl ++ gl) := fun q A n c hq => by
  by_cases hlt : q < bl.length
  · rw [List.getElem?_append_left hlt] at hq
    exact h q A n c hq
  · rw [List.getElem?_append_right (by omega)] at hq
    exact h' _ A n c hq
theorem Dist.app {bl gl : List Hd} (h : Dist bl) (h' : Dist gl) (hn : ∀ k, Foot gl k → ¬ Foot bl k) : Dist (bl ++ gl) := fun q q' A n c A' n' c' h1 h2 hne b hb hb' => by
  by_cases hlt : q < bl.length
  · rw [List.getElem?_append_left hlt] at h1
    by_cases hlt' : q' < bl.length
    · rw [List.getElem?_append_left hlt'] at h2
      exact h q q' A n c A' n' c' h1 h2 hne b hb hb'
    · rw [List.getElem?_append_right (by omega)] at h2
      exact hn b ⟨_, A', n', c', h2, hb'⟩ ⟨_, A, n, c, h1, hb⟩
  · rw [List.getElem?_append_right (by omega)] at h1
    by_cases hlt' : q' < bl.length
    · rw [List.getElem?_append_left hlt'] at h2
      exact hn b ⟨_, A, n, c, h1, hb⟩ ⟨_, A', n', c', h2, hb'⟩
    · rw [List.getElem?_append_right (by omega)] at h2
      exact h' _ _ A n c A' n' c' h1 h2 (by omega) b hb hb'
theorem made_rows {e : TypeId} {base base' : Nat} {w : World} {gl : List (Hd × List Value)} (h : Made e base w gl) (hb : base' ≤ base) : Rows1 base' e w (gl.map (·.1)) := fun q A n c hq => by
  rw [List.getElem?_map] at hq
  obtain ⟨⟨h1, xs⟩, e1, rfl⟩ := Option.map_eq_some_iff.1 hq
  exact ⟨xs, World.ownsRow.mono (h.own q A n c xs e1) hb⟩
theorem pgs_len (B : List UInt8) (k : Nat) : (pgs B k).length = k := by simp [pgs]
/-- Pages told are gathered. -/
theorem LC.pages {w0 wc w : World} {M g0 k kp : Nat} {gr : Int} {bx : Option (Nat × List Value)} {m m2 : MemV} {r r2 : RefM} {b : BagV} (h : LC w0 M g0 k kp gr bx m r m2 r2 b w) (hlo : ∀ k, m.foot k ∨ r.foot k ∨ m2.foot k ∨ r2.foot k ∨ b.core k ∨ BxF bx k → k < wc.heap.size)
    (hel : ∀ {k}, Foot b.bl k ∨ Foot b.il k ∨ Foot b.pl k → w0.heap.size ≤ k ∧ k < wc.heap.size) {A : Option Addr} {n c : Nat} {gl : List (Hd × List Value)} {B : List UInt8} {N : Nat} (hr : w.ownsRow wc.heap.size 24 1 (.slice A n c) n (gl.map fun x => hdV x.1)) (hm : Made 5 wc.heap.size w gl) (hl : ∀ x ∈ gl, x.1.2.1 = 4096) (ht : gl.map (·.2) = pgs B N) (hn : n ≤ 64) (hwc : w0.heap.size ≤ wc.heap.size) :
    Raw w0 w bx m r m2 r2 b (b.bl ++ gl.map (·.1)) b.il (b.pl ++ [(A, n, c)]) := by
  have hrows := made_rows hm hwc
  have hfg : ∀ k, Foot (gl.map (·.1)) k → wc.heap.size ≤ k := fun k hf => ((made_rows hm (Nat.le_refl _)).lt hf).1
  have hfp : ∀ k, blockOf A = some k → wc.heap.size ≤ k := fun k hk => (hr.lt k (by rw [ownBlock_of]; exact hk)).1
  refine h.raw.more hlo ⟨h.raw.el.ob.app hrows, h.raw.el.oi, h.raw.el.op.snoc (World.ownsRow.mono hr hwc), h.raw.el.db.app hm.dist (fun k hf hf' => by have := hfg k hf; have := (hel (.inl hf')).2; omega), h.raw.el.di, h.raw.el.dp.snoc (fun k hk hf => by have := hfp k hk; have := (hel (.inr (.inr hf))).2; omega), ?_⟩ ?_
  · intro l hl' q A' n' c' hq
    rcases hl' with rfl | rfl | rfl
    · by_cases hlt : q < b.bl.length
      · rw [List.getElem?_append_left hlt] at hq
        exact h.raw.el.len _ (.inl rfl) q A' n' c' hq
      · rw [List.getElem?_append_right (by omega), List.getElem?_map] at hq
        obtain ⟨⟨h1, xs⟩, e1, rfl⟩ := Option.map_eq_some_iff.1 hq
        have := hl _ (List.mem_of_getElem? e1)
        simp at this
        omega
    · exact h.raw.el.len _ (.inr (.inl rfl)) q A' n' c' hq
    · rcases get_snoc hq with hq | ⟨_, hq⟩
      · exact h.raw.el.len _ (.inr (.inr rfl)) q A' n' c' hq
      · injection hq with _ hq
        injection hq with hq _
        omega
  · rintro k (hk | hk | hk)
    · rcases foot_app hk with hk | hk
      · exact .inl (.inl hk)
      · exact .inr (hfg k hk)
    · exact .inl (.inr (.inl hk))
    · rcases foot_snoc hk with hk | hk
      · exact .inl (.inr (.inr hk))
      · exact .inr (hfp k hk)
/-- Dirty pages told are gathered. -/
theorem LC.ints {w0 wc w : World} {M g0 k kp : Nat} {gr : Int} {bx : Option (Nat × List Value)} {m m2 : MemV} {r r2 : RefM} {b : BagV} (h : LC w0 M g0 k kp gr bx m r m2 r2 b w) (hlo : ∀ k, m.foot k ∨ r.foot k ∨ m2.foot k ∨ r2.foot k ∨ b.core k ∨ BxF bx k → k < wc.heap.size)
    (hel : ∀ {k}, Foot b.bl k ∨ Foot b.il k ∨ Foot b.pl k → w0.heap.size ≤ k ∧ k < wc.heap.size) {A : Option Addr} {n c : Nat} {xs : List Value} (hr : w.ownsRow wc.heap.size 3 1 (.slice A n c) n xs) (hn : n ≤ 64) (hwc : w0.heap.size ≤ wc.heap.size) :
    Raw w0 w bx m r m2 r2 b b.bl (b.il ++ [(A, n, c)]) b.pl := by
  have hfp : ∀ k, blockOf A = some k → wc.heap.size ≤ k := fun k hk => (hr.lt k (by rw [ownBlock_of]; exact hk)).1
  refine h.raw.more hlo ⟨h.raw.el.ob, h.raw.el.oi.snoc (World.ownsRow.mono hr hwc), h.raw.el.op, h.raw.el.db, h.raw.el.di.snoc (fun k hk hf => by have := hfp k hk; have := (hel (.inr (.inl hf))).2; omega), h.raw.el.dp, ?_⟩ ?_
  · intro l hl' q A' n' c' hq
    rcases hl' with rfl | rfl | rfl
    · exact h.raw.el.len _ (.inl rfl) q A' n' c' hq
    · rcases get_snoc hq with hq | ⟨_, hq⟩
      · exact h.raw.el.len _ (.inr (.inl rfl)) q A' n' c' hq
      · injection hq with _ hq
        injection hq with hq _
        omega
    · exact h.raw.el.len _ (.inr (.inr rfl)) q A' n' c' hq
  · rintro k (hk | hk | hk)
    · exact .inl (.inl hk)
    · rcases foot_snoc hk with hk | hk
      · exact .inl (.inr (.inl hk))
      · exact .inr (hfp k hk)
    · exact .inl (.inr (.inr hk))
end Go.Proofs.YtndkhlafpcedbaaDoor
