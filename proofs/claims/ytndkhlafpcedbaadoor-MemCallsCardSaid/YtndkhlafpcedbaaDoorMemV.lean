/- What a memory in pages is, in the world: words. No program in sight. -/
import Derived.Test.YtndkhlafpcedbaaDoorApp
namespace Go.Proofs.YtndkhlafpcedbaaDoor
set_option linter.unusedVariables false
open Go.RowKit

/-- A memory: its block, its pages' slice, the pages' blocks, the most pages, its bytes, which pages are dirty. -/
structure MemV where
  p : Nat
  A : Option Addr
  c : Nat
  bs : List Nat
  most : Nat
  B : List UInt8
  d : List Bool

def ptrV (b : Nat) : Value := .pointer (some ⟨b, 0, none⟩)
/-- The cells of the memory's own block. -/
def MemV.cells (m : MemV) : List Value := .bool true :: .slice m.A m.bs.length m.c :: .int .i64 m.most :: m.d.map .bool
def pageOf (B : List UInt8) (i : Nat) : List UInt8 := (B.drop (4096 * i)).take 4096
/-- The memory 'm' lies in the world 'w' (types: of a memory, of a pointer to a page, of a page). -/
structure MemAt (tm tp tg : TypeId) (base : Nat) (w : World) (m : MemV) : Prop where
  own : Blk w m.p tm m.cells
  dl : m.d.length = 64
  row : w.ownsRow base tp 1 (.slice m.A m.bs.length m.c) m.bs.length (m.bs.map ptrV)
  page : ∀ i b, m.bs[i]? = some b → Blk w b tg ((pageOf m.B i).map bv)
  len : m.B.length = 4096 * m.bs.length
  apart : m.bs.Nodup
  np : m.bs.length ≤ m.most
  most : m.most ≤ 64
  low : base ≤ m.p ∧ ∀ b ∈ m.bs, base ≤ b

section
variable {tm tp tg base : Nat} {w w' : World} {m : MemV}
theorem Blk.ne_ {g g' : Nat} {t t' : TypeId} {xs xs' : List Value} (h : Blk w g t xs) (h' : Blk w g' t' xs') (hne : t ≠ t') : g ≠ g' := by
  rintro rfl
  unfold Blk at h h'
  rw [h] at h'
  injection h' with h'
  injection h' with _ ht
  exact hne ht
theorem own_ne {g n : Nat} {t e : TypeId} {xs ys : List Value} {v : Value} (h : w.ownsRow base e 1 v n ys) (h' : Blk w g t xs) (hne : e ≠ t) : v.ownBlock ≠ some g := by
  rcases h.2 with ⟨rfl, _⟩ | ⟨g', cap, cur, rfl, _, hh, _⟩
  · simp [Value.ownBlock]
  · intro he
    have : g' = g := by simpa [Value.ownBlock] using he
    subst this
    unfold Blk at h'
    rw [hh] at h'
    injection h' with h'
    injection h' with _ ht
    exact hne ht
/-- The blocks on which a memory stands. -/
def MemV.foot (m : MemV) (k : Nat) : Prop := k = m.p ∨ (Value.slice m.A m.bs.length m.c).ownBlock = some k ∨ k ∈ m.bs
theorem MemAt.lt (h : MemAt tm tp tg base w m) : ∀ k, m.foot k → k < w.heap.size := by
  intro k hk
  rcases hk with rfl | hk | hk
  · exact h.own.lt
  · exact (h.row.lt k hk).2
  · obtain ⟨i, hi⟩ := List.getElem?_of_mem hk
    exact (h.page i k hi).lt
theorem MemAt.ge (h : MemAt tm tp tg base w m) : ∀ k, m.foot k → base ≤ k := by
  intro k hk
  rcases hk with rfl | hk | hk
  · exact h.low.1
  · exact (h.row.lt k hk).1
  · exact h.low.2 k hk
/-- A memory stands where its blocks stand. -/
theorem MemAt.keep (h : MemAt tm tp tg base w m) (hk : ∀ k, m.foot k → w'.heap[k]? = w.heap[k]?) : MemAt tm tp tg base w' m where
  own := (hk _ (.inl rfl)).trans h.own
  dl := h.dl
  row := by
    refine ⟨h.row.1, ?_⟩
    rcases h.row.2 with hn | ⟨g, cap, cur, hv, hb, hg, rest⟩
    · exact .inl hn
    · refine .inr ⟨g, cap, cur, hv, hb, ?_, rest⟩
      rw [hk g (.inr (.inl (by rw [hv]; rfl)))]
      exact hg
  page := fun i b hb => (hk b (.inr (.inr (List.mem_of_getElem? hb)))).trans (h.page i b hb)
  len := h.len
  apart := h.apart
  np := h.np
  most := h.most
  low := h.low
theorem MemAt.below (h : MemAt tm tp tg base w m) (hb : Below w.heap.size w w') : MemAt tm tp tg base w' m := h.keep fun k hk => hb.block k (h.lt k hk)
theorem MemAt.drewN (h : MemAt tm tp tg base w m) (n : Nat) : MemAt tm tp tg base (w.drewN n) m := h.keep fun _ _ => rfl

theorem MemAt.cell0 (h : MemAt tm tp tg base w m) : w.cell? ⟨m.p, 0, none⟩ = some (.bool true) := h.own.cell 0
theorem MemAt.cell1 (h : MemAt tm tp tg base w m) : w.cell? ⟨m.p, 1, none⟩ = some (.slice m.A m.bs.length m.c) := h.own.cell 1
theorem MemAt.cell2 (h : MemAt tm tp tg base w m) : w.cell? ⟨m.p, 2, none⟩ = some (.int .i64 m.most) := h.own.cell 2
theorem MemAt.celld (h : MemAt tm tp tg base w m) {i : Nat} (hi : i < 64) : w.cell? ⟨m.p, 3 + i, none⟩ = some (.bool (m.d[i]?.getD false)) := by
  rw [h.own.cell (3 + i), show 3 + i = i + 3 from by omega]
  show (m.d.map Value.bool)[i]? = _
  rw [List.getElem?_map, List.getElem?_eq_getElem (by rw [h.dl]; exact hi)]
  rfl
/-- Where page number i's block stands. -/
theorem MemAt.pg (h : MemAt tm tp tg base w m) {i : Nat} (hi : i < m.bs.length) : ∃ g, m.A = some ⟨g, 0, none⟩ ∧ w.cell? ⟨g, i, none⟩ = some (ptrV (m.bs[i]?.getD 0)) := by
  rcases h.row.2 with ⟨hv, h0⟩ | ⟨g, cap, cur, hv, _⟩
  · omega
  · have hA : m.A = some ⟨g, 0, none⟩ := by injection hv
    refine ⟨g, hA, ?_⟩
    have := h.row.cells (g := g) (by rw [hA]; rfl) i (ptrV (m.bs[i]?.getD 0)) (by rw [List.getElem?_map, List.getElem?_eq_getElem hi]; rfl)
    rwa [Addr.add_lit, Nat.zero_add] at this
theorem bsGet (m : MemV) {i : Nat} (hi : i < m.bs.length) : m.bs[i]? = some (m.bs[i]?.getD 0) := by rw [List.getElem?_eq_getElem hi]; rfl
theorem pageOf_get (B : List UInt8) (a : Nat) (h : a < B.length) : (pageOf B (a / 4096))[a % 4096]? = B[a]? := by
  unfold pageOf
  rw [List.getElem?_take, if_pos (Nat.mod_lt _ (by omega)), List.getElem?_drop]
  congr 1
  omega
theorem MemAt.byte (h : MemAt tm tp tg base w m) {a : Nat} (ha : a < m.B.length) : w.cell? ⟨m.bs[a / 4096]?.getD 0, a % 4096, none⟩ = some (.int .u8 ((m.B[a]?.getD 0).toNat : Int)) := by
  have hi : a / 4096 < m.bs.length := by rw [h.len] at ha; omega
  rw [(h.page _ _ (bsGet m hi)).cell, List.getElem?_map, pageOf_get m.B a ha, List.getElem?_eq_getElem ha]
  rfl
end
end Go.Proofs.YtndkhlafpcedbaaDoor
namespace Go.Proofs.YtndkhlafpcedbaaDoor
set_option linter.unusedVariables false
open Go.RowKit
theorem u8_of' (x : Nat) (h : x < 256) : (UInt8.ofNat x).toNat = x := UInt8.toNat_ofNat_of_lt' (by simpa using h)
/-- The number that lies at 'a', k bytes long, the lowest first. -/
def ld (B : List UInt8) (a : Nat) : Nat → Nat
  | 0 => 0
  | k + 1 => ld B a k + (B[a + k]?.getD 0).toNat * 256 ^ k
theorem ld_lt (B : List UInt8) (a : Nat) : ∀ k, ld B a k < 256 ^ k
  | 0 => by simp [ld]
  | k + 1 => by
    have := ld_lt B a k
    have hc : (B[a + k]?.getD 0).toNat < 256 := UInt8.toNat_lt _
    have : (B[a + k]?.getD 0).toNat * 256 ^ k ≤ 255 * 256 ^ k := Nat.mul_le_mul_right _ (by omega)
    rw [ld, Nat.pow_succ]; omega
theorem pow256_le (k : Nat) (h : k ≤ 8) : 256 ^ k ≤ 18446744073709551616 := by
  have := Nat.pow_le_pow_right (show 0 < 256 by omega) h
  exact Nat.le_trans this (by decide)
theorem acc8 (x c k : Nat) (hk : k < 8) (hx : x < 256 ^ k) (hc : c < 256) :
    bits .or .u64 (x : Int) (IntKind.u64.wrap ((c : Int) * 2 ^ (8 * k))) = ((x + c * 256 ^ k : Nat) : Int) := by
  have h1 := pow256_le (k + 1) (by omega)
  have h2 : c * 256 ^ k ≤ 255 * 256 ^ k := Nat.mul_le_mul_right _ (by omega)
  rw [Nat.pow_succ] at h1
  have e2 : ((c : Int) * 2 ^ (8 * k)) = ((c * 256 ^ k : Nat) : Int) := by
    have e : (256 : Nat) ^ k = 2 ^ (8 * k) := by rw [Nat.pow_mul]
    rw [e]; simp
  rw [e2]
  have e3 : IntKind.u64.wrap ((c * 256 ^ k : Nat) : Int) = ((c * 256 ^ k : Nat) : Int) := by
    rw [IntKind.wrap_u64]; omega
  rw [e3, u64_or_nat x _ (by omega) (by omega)]
  have e : (256 : Nat) ^ k = 2 ^ (8 * k) := by rw [Nat.pow_mul]
  rw [e] at hx ⊢
  have := Nat.shiftLeft_add_eq_or_of_lt hx c
  rw [Nat.shiftLeft_eq] at this
  rw [Nat.or_comm, ← this, Nat.add_comm]
/-- Bytes stored at 'a': the lowest k bytes of v. -/
def st (B : List UInt8) (a v : Nat) : Nat → List UInt8
  | 0 => B
  | k + 1 => (st B a v k).set (a + k) (UInt8.ofNat (v / 256 ^ k % 256))
theorem st_len (B : List UInt8) (a v : Nat) : ∀ k, (st B a v k).length = B.length
  | 0 => rfl
  | k + 1 => by rw [st, List.length_set, st_len B a v k]
/-- The pages that are dirty behind it. -/
def dt (d : List Bool) (a : Nat) : Nat → List Bool
  | 0 => d
  | k + 1 => (dt d a k).set ((a + k) / 4096) true
theorem dt_len (d : List Bool) (a : Nat) : ∀ k, (dt d a k).length = d.length
  | 0 => rfl
  | k + 1 => by rw [dt, List.length_set, dt_len d a k]
end Go.Proofs.YtndkhlafpcedbaaDoor
namespace Go.Proofs.YtndkhlafpcedbaaDoor
set_option linter.unusedVariables false
open Go.RowKit
/-- The world is as it was but for new blocks and the blocks of F. -/
structure KeptF (w w' : World) (F : Nat → Prop) : Prop where
  os : w'.os = w.os
  tape : w'.tape = w.tape
  output : w'.output = w.output
  size : w.heap.size ≤ w'.heap.size
  block : ∀ k, k < w.heap.size → ¬ F k → w'.heap[k]? = w.heap[k]?
theorem KeptF.refl (w : World) (F : Nat → Prop) : KeptF w w F := ⟨rfl, rfl, rfl, Nat.le_refl _, fun _ _ _ => rfl⟩
theorem KeptF.trans {a b c : World} {F : Nat → Prop} (h : KeptF a b F) (k : KeptF b c F) : KeptF a c F :=
  ⟨k.os.trans h.os, k.tape.trans h.tape, k.output.trans h.output, Nat.le_trans h.size k.size, fun i hi hF => (k.block i (Nat.lt_of_lt_of_le hi h.size) hF).trans (h.block i hi hF)⟩
/-- A second step may turn what is new, too. -/
theorem KeptF.then {a b c : World} {F G : Nat → Prop} (h : KeptF a b F) (k : KeptF b c G) (hG : ∀ i, G i → F i ∨ a.heap.size ≤ i) : KeptF a c F :=
  ⟨k.os.trans h.os, k.tape.trans h.tape, k.output.trans h.output, Nat.le_trans h.size k.size, fun i hi hF =>
    (k.block i (Nat.lt_of_lt_of_le hi h.size) (fun hg => by rcases hG i hg with h1 | h1; exact hF h1; omega)).trans (h.block i hi hF)⟩
theorem KeptF.mono {w w' : World} {F G : Nat → Prop} (h : KeptF w w' F) (hG : ∀ i, F i → G i) : KeptF w w' G :=
  ⟨h.os, h.tape, h.output, h.size, fun i hi hg => h.block i hi fun hf => hg (hG i hf)⟩
theorem KeptF.below {w w' : World} {F : Nat → Prop} {B : Nat} (h : KeptF w w' F) (hF : ∀ i, F i → B ≤ i) (hB : B ≤ w.heap.size) : Below B w w' :=
  ⟨h.os, h.tape, h.output, h.size, fun k hk => h.block k (by omega) fun hf => by have := hF k hf; omega⟩
theorem KeptF.of_below {w w' : World} (h : Below w.heap.size w w') (F : Nat → Prop) : KeptF w w' F := ⟨h.os, h.tape, h.output, h.size, fun k hk _ => h.block k hk⟩
theorem KeptF.drewN {w w' : World} {F : Nat → Prop} (h : KeptF w w' F) (n : Nat) : KeptF w (w'.drewN n) F := ⟨h.os, h.tape, h.output, h.size, h.block⟩
theorem KeptF.setCell {w : World} {F : Nat → Prop} {p : Addr} (hp : F p.block) (u : Value) : KeptF w (w.setCell p u) F :=
  ⟨rfl, rfl, rfl, by simp [World.setCell], fun k _ hk => Below.heap_setCell w p u k fun e => hk (e ▸ hp)⟩

theorem pageOf_set (B : List UInt8) (a i : Nat) (c : UInt8) : pageOf (B.set a c) i = if i = a / 4096 then (pageOf B i).set (a % 4096) c else pageOf B i := by
  unfold pageOf
  apply List.ext_getElem?
  intro j
  by_cases hi : i = a / 4096
  · rw [if_pos hi, List.getElem?_take, List.getElem?_set, List.getElem?_take, List.getElem?_drop, List.getElem?_drop, List.getElem?_set]
    subst hi
    by_cases hj : j < 4096
    · simp only [if_pos hj]
      by_cases he : a % 4096 = j
      · rw [if_pos he, if_pos (by omega)]
        subst he
        simp only [List.length_take, List.length_drop]
        by_cases hl : a < B.length
        · rw [if_pos hl, if_pos (by omega)]
        · rw [if_neg hl, if_neg (by omega)]
      · rw [if_neg he, if_neg (by omega)]
    · simp only [if_neg hj]
      rw [if_neg (by omega)]
  · rw [if_neg hi, List.getElem?_take, List.getElem?_take, List.getElem?_drop, List.getElem?_drop, List.getElem?_set]
    by_cases hj : j < 4096
    · simp only [if_pos hj]
      rw [if_neg (by omega)]
    · simp only [if_neg hj]

section
variable {tm tp tg base : Nat} {w w' : World} {m : MemV}
/-- The memory with a byte set, its page marked. -/
def MemV.put (m : MemV) (a : Nat) (c : UInt8) : MemV := { m with B := m.B.set a c, d := m.d.set (a / 4096) true }
theorem MemV.put_foot (m : MemV) (a : Nat) (c : UInt8) : (m.put a c).foot = m.foot := rfl
theorem MemAt.put (h : MemAt tm tp tg base w m) (h1 : tm ≠ tg) (h2 : tp ≠ tg) (h3 : tp ≠ tm) {a : Nat} (ha : a < m.B.length) (c : UInt8) :
    MemAt tm tp tg base ((w.setCell ⟨m.bs[a / 4096]?.getD 0, a % 4096, none⟩ (.int .u8 c.toNat)).setCell ⟨m.p, 3 + a / 4096, none⟩ (.bool true)) (m.put a c) := by
  have hi : a / 4096 < m.bs.length := by rw [h.len] at ha; omega
  have hb := h.page _ _ (bsGet m hi)
  have hpb : m.p ≠ m.bs[a / 4096]?.getD 0 := h.own.ne_ hb h1
  have hj : a / 4096 < 64 := by have := h.np; have := h.most; omega
  refine ⟨?_, ?_, ?_, ?_, ?_, h.apart, h.np, h.most, h.low⟩
  · have := (h.own.far (p := ⟨m.bs[a / 4096]?.getD 0, a % 4096, none⟩) hpb (.int .u8 c.toNat)).set (3 + a / 4096) (.bool true)
    have e : m.cells.set (3 + a / 4096) (.bool true) = (m.put a c).cells := by
      unfold MemV.cells MemV.put
      rw [show 3 + a / 4096 = a / 4096 + 1 + 1 + 1 from by omega, List.set_cons_succ, List.set_cons_succ, List.set_cons_succ, List.map_set]
    rw [e] at this
    exact this
  · show (m.d.set _ _).length = 64
    rw [List.length_set]; exact h.dl
  · have hk : ∀ g, (Value.slice m.A m.bs.length m.c).ownBlock = some g → g ≠ m.p ∧ g ≠ m.bs[a / 4096]?.getD 0 := fun g hg =>
      ⟨fun e => own_ne h.row h.own h3 (by rw [hg, e]), fun e => own_ne h.row hb h2 (by rw [hg, e])⟩
    refine ⟨h.row.1, ?_⟩
    rcases h.row.2 with hn | ⟨g, cap, cur, hv, hb', hg, rest⟩
    · exact .inl hn
    · obtain ⟨k1, k2⟩ := hk g (by rw [hv]; rfl)
      refine .inr ⟨g, cap, cur, hv, hb', ?_, rest⟩
      rw [Below.heap_setCell _ _ _ _ k1, Below.heap_setCell _ _ _ _ k2]
      exact hg
  · intro i b hib
    have hbp : b ≠ m.p := fun e => (h.own.ne_ (h.page i b hib) h1) e.symm
    show Blk _ b tg ((pageOf (m.B.set a c) i).map bv)
    rw [pageOf_set]
    by_cases hia : i = a / 4096
    · rw [if_pos hia]
      subst hia
      have hbb : b = m.bs[a / 4096]?.getD 0 := by
        have h1 : m.bs[a / 4096]? = some b := hib
        rw [h1]; rfl
      subst hbb
      rw [List.map_set]
      exact (hb.set (a % 4096) (bv c)).far hbp _
    · rw [if_neg hia]
      have hbn : b ≠ m.bs[a / 4096]?.getD 0 := by
        intro e
        have h1 : m.bs[i]? = some b := hib
        have h2 := bsGet m hi
        rw [← e] at h2
        have hil := (List.getElem?_eq_some_iff.1 h1).1
        have := (List.getElem_inj h.apart (i := i) (j := a / 4096) (h₀ := hil) (h₁ := hi)).1 (by
          rw [List.getElem?_eq_getElem hil] at h1
          rw [List.getElem?_eq_getElem hi] at h2
          exact (Option.some.inj h1).trans (Option.some.inj h2).symm)
        exact hia this
      exact ((h.page i b hib).far hbn _).far hbp _
  · show (m.B.set a c).length = _
    rw [List.length_set]; exact h.len
theorem MemAt.put_kept (h : MemAt tm tp tg base w m) {a : Nat} (ha : a < m.B.length) (x y : Value) :
    KeptF w ((w.setCell ⟨m.bs[a / 4096]?.getD 0, a % 4096, none⟩ x).setCell ⟨m.p, 3 + a / 4096, none⟩ y) m.foot := by
  have hi : a / 4096 < m.bs.length := by rw [h.len] at ha; omega
  exact (KeptF.setCell (p := ⟨m.bs[a / 4096]?.getD 0, a % 4096, none⟩) (.inr (.inr (List.mem_of_getElem? (bsGet m hi)))) x).trans (KeptF.setCell (p := ⟨m.p, 3 + a / 4096, none⟩) (.inl rfl) y)
end
end Go.Proofs.YtndkhlafpcedbaaDoor
namespace Go.Proofs.YtndkhlafpcedbaaDoor
set_option linter.unusedVariables false
open Go.RowKit
theorem ptr_one (l : List Nat) : ∀ u ∈ l.map ptrV, u.oneCell' = true := by
  intro u hu
  obtain ⟨_, _, rfl⟩ := List.mem_map.1 hu
  rfl
def zpageB : List UInt8 := List.replicate 4096 0
theorem zpageB_len : zpageB.length = 4096 := List.length_replicate ..
theorem pageOf_app (B : List UInt8) (n i : Nat) (hB : B.length = 4096 * n) : pageOf (B ++ zpageB) i = if i < n then pageOf B i else if i = n then zpageB else [] := by
  unfold pageOf
  by_cases h : i < n
  · rw [if_pos h, List.drop_append_of_le_length (by omega), List.take_append_of_le_length (by rw [List.length_drop]; omega)]
  · rw [if_neg h]
    by_cases he : i = n
    · subst he
      rw [if_pos rfl, ← hB, List.drop_left' rfl, List.take_of_length_le (by rw [zpageB_len]; exact Nat.le_refl _)]
    · rw [if_neg he, List.drop_of_length_le (by rw [List.length_append, zpageB_len]; omega), List.take_nil]
section
variable {tm tp tg base : Nat} {w w3 : World} {m : MemV}
/-- The memory with a page more. -/
def MemV.more (m : MemV) (A : Option Addr) (c g : Nat) : MemV := { m with A := A, c := c, bs := m.bs ++ [g], B := m.B ++ zpageB }
theorem MemAt.grow (h : MemAt tm tp tg base w m) (h1 : tm ≠ tg) (h2 : tp ≠ tg) (h3 : tp ≠ tm) (hlt : m.bs.length < m.most) (hbase : base ≤ w.heap.size) {A' : Option Addr} {c' : Nat}
    (hown : w3.ownsRow base tp 1 (.slice A' (m.bs.length + 1) c') (m.bs.length + 1) (m.bs.map ptrV ++ [ptrV w.heap.size]))
    (hg : ((w.alloc (.cells (zpageB.map bv).toArray tg)).alloc (.cells #[ptrV w.heap.size] tp)).grownBy w3 (Value.slice m.A m.bs.length m.c).ownBlock) :
    MemAt tm tp tg base (w3.setCell ⟨m.p, 1, none⟩ (.slice A' (m.bs.length + 1) c')) (m.more A' c' w.heap.size) := by
  have hold : ∀ k, k < w.heap.size → (Value.slice m.A m.bs.length m.c).ownBlock ≠ some k → w3.heap[k]? = w.heap[k]? := fun k hk hne => by
    rw [hg.block k (by simp; omega) (fun e => hne e.symm), Below.heap_alloc _ _ _ (by simp; omega), Below.heap_alloc _ _ _ hk]
  have hpo : (Value.slice m.A m.bs.length m.c).ownBlock ≠ some m.p := own_ne h.row h.own h3
  have hnew : Blk w3 w.heap.size tg (zpageB.map bv) := by
    have h0 : Blk (w.alloc (.cells (zpageB.map bv).toArray tg)) w.heap.size tg (zpageB.map bv) := Blk.new w tg _
    have h1' := h0.alloc (.cells #[ptrV w.heap.size] tp)
    refine (hg.block _ h1'.lt fun e => ?_).trans h1'
    have := (h.row.lt _ e.symm).2
    omega
  have hp3 : Blk w3 m.p tm m.cells := (hold _ h.own.lt hpo).trans h.own
  have hlen : (m.bs ++ [w.heap.size]).length = m.bs.length + 1 := by simp
  have hown' : w3.ownsRow base tp 1 (.slice A' (m.bs ++ [w.heap.size]).length c') (m.bs ++ [w.heap.size]).length ((m.bs ++ [w.heap.size]).map ptrV) := by
    rw [hlen, List.map_append]; exact hown
  refine ⟨?_, h.dl, ?_, ?_, ?_, ?_, ?_, h.most, ?_⟩
  · have := hp3.set 1 (.slice A' (m.bs.length + 1) c')
    have e : m.cells.set 1 (.slice A' (m.bs.length + 1) c') = (m.more A' c' w.heap.size).cells := by
      unfold MemV.cells MemV.more
      rw [hlen]; rfl
    rw [e] at this
    exact this
  · refine ⟨hown'.1, ?_⟩
    have hne := own_ne hown' hp3 h3
    rcases hown'.2 with hn | ⟨g, cap, cur, hv, hb', hgg, rest⟩
    · exact .inl hn
    · refine .inr ⟨g, cap, cur, hv, hb', ?_, rest⟩
      rw [Below.heap_setCell _ _ _ _ (fun e => hne (by rw [hv]; show some g = some m.p; rw [e]))]
      exact hgg
  · intro i b hib
    show Blk _ b tg ((pageOf (m.B ++ zpageB) i).map bv)
    rw [pageOf_app m.B m.bs.length i h.len]
    have hib' : (m.bs ++ [w.heap.size])[i]? = some b := hib
    by_cases hi : i < m.bs.length
    · rw [if_pos hi]
      rw [List.getElem?_append_left hi] at hib'
      have hb := h.page i b hib'
      have hbp : b ≠ m.p := fun e => (h.own.ne_ hb h1) e.symm
      exact Blk.far ((hold b hb.lt (own_ne h.row hb h2)).trans hb) (p := ⟨m.p, 1, none⟩) hbp _
    · rw [if_neg hi]
      rw [List.getElem?_append_right (by omega)] at hib'
      have hi0 : i - m.bs.length = 0 := by
        rcases Nat.eq_zero_or_pos (i - m.bs.length) with h0 | h0
        · exact h0
        · rw [List.getElem?_eq_none (by simp; omega)] at hib'; cases hib'
      have hie : i = m.bs.length := by omega
      rw [if_pos hie]
      rw [hi0] at hib'
      have hbe : w.heap.size = b := Option.some.inj hib'
      subst hbe
      have hbp : w.heap.size ≠ m.p := fun e => by have := h.own.lt; omega
      exact hnew.far (p := ⟨m.p, 1, none⟩) hbp _
  · show (m.B ++ zpageB).length = 4096 * (m.bs ++ [w.heap.size]).length
    rw [hlen, List.length_append, zpageB_len, h.len]; omega
  · show (m.bs ++ [w.heap.size]).Nodup
    rw [List.nodup_append]
    refine ⟨h.apart, by simp, fun a ha b hb => ?_⟩
    rw [List.mem_singleton] at hb
    subst hb
    have := h.lt a (.inr (.inr ha))
    omega
  · show (m.bs ++ [w.heap.size]).length ≤ m.most
    rw [hlen]; omega
  · refine ⟨h.low.1, fun b hb => ?_⟩
    have hb' : b ∈ m.bs ++ [w.heap.size] := hb
    rcases List.mem_append.1 hb' with hb' | hb'
    · exact h.low.2 b hb'
    · rw [List.mem_singleton] at hb'; omega
theorem MemAt.grow_own (h : MemAt tm tp tg base w m) (h3 : tp ≠ tm) {o1 o2 : Obj} (hg : ((w.alloc o1).alloc o2).grownBy w3 (Value.slice m.A m.bs.length m.c).ownBlock) : Blk w3 m.p tm m.cells := by
  have hpo : (Value.slice m.A m.bs.length m.c).ownBlock ≠ some m.p := own_ne h.row h.own h3
  have hlt := h.own.lt
  have : w3.heap[m.p]? = w.heap[m.p]? := by
    rw [hg.block m.p (by simp; omega) (fun e => hpo e.symm), Below.heap_alloc _ _ _ (by simp; omega), Below.heap_alloc _ _ _ hlt]
  exact this.trans h.own
/-- A step of New, Grow turns the memory's blocks and what is new alone. -/
theorem MemAt.grow_kept (h : MemAt tm tp tg base w m) {o1 o2 : Obj} {u : Value}
    (hg : ((w.alloc o1).alloc o2).grownBy w3 (Value.slice m.A m.bs.length m.c).ownBlock) : KeptF w (w3.setCell ⟨m.p, 1, none⟩ u) m.foot := by
  have k1 : KeptF w ((w.alloc o1).alloc o2) m.foot := KeptF.of_below (((Below.refl _ _).alloc (Nat.le_refl _) _).alloc (by simp) _) _
  have k2 : KeptF ((w.alloc o1).alloc o2) w3 m.foot := ⟨hg.os, hg.tape, hg.output, hg.size, fun k hk hF => hg.block k hk fun e => hF (.inr (.inl e.symm))⟩
  exact (k1.trans k2).trans (KeptF.setCell (p := ⟨m.p, 1, none⟩) (.inl rfl) u)
theorem MemV.more_foot (m : MemV) (A' : Option Addr) (c' g : Nat) (ho : (Value.slice A' (m.bs.length + 1) c').ownBlock = (Value.slice m.A m.bs.length m.c).ownBlock ∨ ∀ k, (Value.slice A' (m.bs.length + 1) c').ownBlock = some k → g ≤ k) :
    ∀ k, (m.more A' c' g).foot k → m.foot k ∨ g ≤ k := by
  intro k hk
  rcases hk with hk | hk | hk
  · exact .inl (.inl hk)
  · have hlen : (m.bs ++ [g]).length = m.bs.length + 1 := by simp
    have hk' : (Value.slice A' (m.bs.length + 1) c').ownBlock = some k := by rw [← hlen]; exact hk
    rcases ho with ho | ho
    · exact .inl (.inr (.inl (by rw [← ho]; exact hk')))
    · exact .inr (ho k hk')
  · have hk' : k ∈ m.bs ++ [g] := hk
    rcases List.mem_append.1 hk' with hk' | hk'
    · exact .inl (.inr (.inr hk'))
    · rw [List.mem_singleton] at hk'; exact .inr (by omega)
end
end Go.Proofs.YtndkhlafpcedbaaDoor
