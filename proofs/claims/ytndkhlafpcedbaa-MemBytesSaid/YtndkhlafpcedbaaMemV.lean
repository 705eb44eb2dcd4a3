/- What a memory in pages is, in the world: words. No program in sight. -/
import Derived.Test.YtndkhlafpcedbaaApp
namespace Go.Proofs.Ytndkhlafpcedbaa
set_option linter.unusedVariables false
open Go.RowKit

/-- A memory: its block, its pages' slice, the pages' blocks, the most pages, its bytes, which pages are dirty. -/
structure MemV where
  p : Nat
  A : Option Addr
  c : Nat
  bs : List Nat
  most : Nat
  B : List UInt8
  d : List Bool

def ptrV (b : Nat) : Value := .pointer (some ⟨b, 0, none⟩)
/-- The cells of the memory's own block. -/
def MemV.cells (m : MemV) : List Value := .bool true :: .slice m.A m.bs.length m.c :: .int .i64 m.most :: m.d.map .bool
def pageOf (B : List UInt8) (i : Nat) : List UInt8 := (B.drop (4096 * i)).take 4096
/-- The memory 'm' lies in the world 'w' (types: of a memory, of a pointer to a page, of a page). -/
structure MemAt (tm tp tg : TypeId) (base : Nat) (w : World) (m : MemV) : Prop where
  own : Blk w m.p tm m.cells
  dl : m.d.length = 64
  row : w.ownsRow base tp 1 (.slice m.A m.bs.length m.c) m.bs.length (m.bs.map ptrV)
  page : ∀ i b, m.bs[i]? = some b → Blk w b tg ((pageOf m.B i).map bv)
  len : m.B.length = 4096 * m.bs.length
  apart : m.bs.Nodup
  np : m.bs.length ≤ m.most
  most : m.most ≤ 64
  low : base ≤ m.p ∧ ∀ b ∈ m.bs, base ≤ b

section
variable {tm tp tg base : Nat} {w w' : World} {m : MemV}
theorem Blk.ne_ {g g' : Nat} {t t' : TypeId} {xs xs' : List Value} (h : Blk w g t xs) (h' : Blk w g' t' xs') (hne : t ≠ t') : g ≠ g' := by
  rintro rfl
  unfold Blk at h h'
  rw [h] at h'
  injection h' with h'
  injection h' with _ ht
  exact hne ht
theorem own_ne {g n : Nat} {t e : TypeId} {xs ys : List Value} {v : Value} (h : w.ownsRow base e 1 v n ys) (h' : Blk w g t xs) (hne : e ≠ t) : v.ownBlock ≠ some g := by
  rcases h.2 with ⟨rfl, _⟩ | ⟨g', cap, cur, rfl, _, hh, _⟩
  · simp [Value.ownBlock]
  · intro he
    have : g' = g := by simpa [Value.ownBlock] using he
    subst this
    unfold Blk at h'
    rw [hh] at h'
    injection h' with h'
    injection h' with _ ht
    exact hne ht
/-- The blocks on which a memory stands. -/
def MemV.foot (m : MemV) (k : Nat) : Prop := k = m.p ∨ (Value.slice m.A m.bs.length m.c).ownBlock = some k ∨ k ∈ m.bs
theorem MemAt.lt (h : MemAt tm tp tg base w m) : ∀ k, m.foot k → k < w.heap.size := by
  intro k hk
  rcases hk with rfl | hk | hk
  · exact h.own.lt
  · exact (h.row.lt k hk).2
  · obtain ⟨i, hi⟩ := List.getElem?_of_mem hk
    exact (h.page i k hi).lt
theorem MemAt.ge (h : MemAt tm tp tg base w m) : ∀ k, m.foot k → base ≤ k := by
  intro k hk
  rcases hk with rfl | hk | hk
  · exact h.low.1
  · exact (h.row.lt k hk).1
  · exact h.low.2 k hk
/-- A memory stands where its blocks stand. -/
theorem MemAt.keep (h : MemAt tm tp tg base w m) (hk : ∀ k, m.foot k → w'.heap[k]? = w.heap[k]?) : MemAt tm tp tg base w' m where
  own := (hk _ (.inl rfl)).trans h.own
  dl := h.dl
  row := by
    refine ⟨h.row.1, ?_⟩
    rcases h.row.2 with hn | ⟨g, cap, cur, hv, hb, hg, rest⟩
    · exact .inl hn
    · refine .inr ⟨g, cap, cur, hv, hb, ?_, rest⟩
      rw [hk g (.inr (.inl (by rw [hv]; rfl)))]
      exact hg
  page := fun i b hb => (hk b (.inr (.inr (List.mem_of_getElem? hb)))).trans (h.page i b hb)
  len := h.len
  apart := h.apart
  np := h.np
  most := h.most
  low := h.low
theorem MemAt.below (h : MemAt tm tp tg base w m) (hb : Below w.heap.size w w') : MemAt tm tp tg base w' m := h.keep fun k hk => hb.block k (h.lt k hk)
theorem MemAt.drewN (h : MemAt tm tp tg base w m) (n : Nat) : MemAt tm tp tg base (w.drewN n) m := h.keep fun _ _ => rfl

theorem MemAt.cell0 (h : MemAt tm tp tg base w m) : w.cell? ⟨m.p, 0, none⟩ = some (.bool true) := h.own.cell 0
theorem MemAt.cell1 (h : MemAt tm tp tg base w m) : w.cell? ⟨m.p, 1, none⟩ = some (.slice m.A m.bs.length m.c) := h.own.cell 1
theorem MemAt.cell2 (h : MemAt tm tp tg base w m) : w.cell? ⟨m.p, 2, none⟩ = some (.int .i64 m.most) := h.own.cell 2
theorem MemAt.celld (h : MemAt tm tp tg base w m) {i : Nat} (hi : i < 64) : w.cell? ⟨m.p, 3 + i, none⟩ = some (.bool (m.d[i]?.getD false)) := by
  rw [h.own.cell (3 + i), show 3 + i = i + 3 from by omega]
  show (m.d.map Value.bool)[i]? = _
  rw [List.getElem?_map, List.getElem?_eq_getElem (by rw [h.dl]; exact hi)]
  rfl
/-- Where page number i's block stands. -/
theorem MemAt.pg (h : MemAt tm tp tg base w m) {i : Nat} (hi : i < m.bs.length) : ∃ g, m.A = some ⟨g, 0, none⟩ ∧ w.cell? ⟨g, i, none⟩ = some (ptrV (m.bs[i]?.getD 0)) := by
  rcases h.row.2 with ⟨hv, h0⟩ | ⟨g, cap, cur, hv, _⟩
  · omega
  · have hA : m.A = some ⟨g, 0, none⟩ := by injection hv
    refine ⟨g, hA, ?_⟩
    have := h.row.cells (g := g) (by rw [hA]; rfl) i (ptrV (m.bs[i]?.getD 0)) (by rw [List.getElem?_map, List.getElem?_eq_getElem hi]; rfl)
    rwa [Addr.add_lit, Nat.zero_add] at this
theorem bsGet (m : MemV) {i : Nat} (hi : i < m.bs.length) : m.bs[i]? = some (m.bs[i]?.getD 0) := by rw [List.getElem?_eq_getElem hi]; rfl
theorem pageOf_get (B : List UInt8) (a : Nat) (h : a < B.length) : (pageOf B (a / 4096))[a % 4096]? = B[a]? := by
  unfold pageOf
  rw [List.getElem?_take, if_pos (Nat.mod_lt _ (by omega)), List.getElem?_drop]
  congr 1
  omega
theorem MemAt.byte (h : MemAt tm tp tg base w m) {a : Nat} (ha : a < m.B.length) : w.cell? ⟨m.bs[a / 4096]?.getD 0, a % 4096, none⟩ = some (.int .u8 ((m.B[a]?.getD 0).toNat : Int)) := by
  have hi : a / 4096 < m.bs.length := by rw [h.len] at ha; omega
  rw [(h.page _ _ (bsGet m hi)).cell, List.getElem?_map, pageOf_get m.B a ha, List.getElem?_eq_getElem ha]
  rfl
end
end Go.Proofs.Ytndkhlafpcedbaa
