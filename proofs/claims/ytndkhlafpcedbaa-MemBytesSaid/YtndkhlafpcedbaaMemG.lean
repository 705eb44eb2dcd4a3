/- A memory grown by a page. No program in sight. -/
import Derived.Test.YtndkhlafpcedbaaMemS
namespace Go.Proofs.Ytndkhlafpcedbaa
set_option linter.unusedVariables false
open Go.RowKit
theorem ptr_one (l : List Nat) : ∀ u ∈ l.map ptrV, u.oneCell' = true := by
  intro u hu
  obtain ⟨_, _, rfl⟩ := List.mem_map.1 hu
  rfl
def zpageB : List UInt8 := List.replicate 4096 0
theorem zpageB_len : zpageB.length = 4096 := List.length_replicate ..
theorem pageOf_app (B : List UInt8) (n i : Nat) (hB : B.length = 4096 * n) : pageOf (B ++ zpageB) i = if i < n then pageOf B i else if i = n then zpageB else [] := by
  unfold pageOf
  by_cases h : i < n
  · rw [if_pos h, List.drop_append_of_le_length (by omega), List.take_append_of_le_length (by rw [List.length_drop]; omega)]
  · rw [if_neg h]
    by_cases he : i = n
    · subst he
      rw [if_pos rfl, ← hB, List.drop_left' rfl, List.take_of_length_le (by rw [zpageB_len]; exact Nat.le_refl _)]
    · rw [if_neg he, List.drop_of_length_le (by rw [List.length_append, zpageB_len]; omega), List.take_nil]
section
variable {tm tp tg base : Nat} {w w3 : World} {m : MemV}
/-- The memory with a page more. -/
def MemV.more (m : MemV) (A : Option Addr) (c g : Nat) : MemV := { m with A := A, c := c, bs := m.bs ++ [g], B := m.B ++ zpageB }
theorem MemAt.grow (h : MemAt tm tp tg base w m) (h1 : tm ≠ tg) (h2 : tp ≠ tg) (h3 : tp ≠ tm) (hlt : m.bs.length < m.most) (hbase : base ≤ w.heap.size) {A' : Option Addr} {c' : Nat}
    (hown : w3.ownsRow base tp 1 (.slice A' (m.bs.length + 1) c') (m.bs.length + 1) (m.bs.map ptrV ++ [ptrV w.heap.size]))
    (hg : ((w.alloc (.cells (zpageB.map bv).toArray tg)).alloc (.cells #[ptrV w.heap.size] tp)).grownBy w3 (Value.slice m.A m.bs.length m.c).ownBlock) :
    MemAt tm tp tg base (w3.setCell ⟨m.p, 1, none⟩ (.slice A' (m.bs.length + 1) c')) (m.more A' c' w.heap.size) := by
  have hold : ∀ k, k < w.heap.size → (Value.slice m.A m.bs.length m.c).ownBlock ≠ some k → w3.heap[k]? = w.heap[k]? := fun k hk hne => by
    rw [hg.block k (by simp; omega) (fun e => hne e.symm), Below.heap_alloc _ _ _ (by simp; omega), Below.heap_alloc _ _ _ hk]
  have hpo : (Value.slice m.A m.bs.length m.c).ownBlock ≠ some m.p := own_ne h.row h.own h3
  have hnew : Blk w3 w.heap.size tg (zpageB.map bv) := by
    have h0 : Blk (w.alloc (.cells (zpageB.map bv).toArray tg)) w.heap.size tg (zpageB.map bv) := Blk.new w tg _
    have h1' := h0.alloc (.cells #[ptrV w.heap.size] tp)
    refine (hg.block _ h1'.lt fun e => ?_).trans h1'
    have := (h.row.lt _ e.symm).2
    omega
  have hp3 : Blk w3 m.p tm m.cells := (hold _ h.own.lt hpo).trans h.own
  have hlen : (m.bs ++ [w.heap.size]).length = m.bs.length + 1 := by simp
  have hown' : w3.ownsRow base tp 1 (.slice A' (m.bs ++ [w.heap.size]).length c') (m.bs ++ [w.heap.size]).length ((m.bs ++ [w.heap.size]).map ptrV) := by
    rw [hlen, List.map_append]; exact hown
  refine ⟨?_, h.dl, ?_, ?_, ?_, ?_, ?_, h.most, ?_⟩
  · have := hp3.set 1 (.slice A' (m.bs.length + 1) c')
    have e : m.cells.set 1 (.slice A' (m.bs.length + 1) c') = (m.more A' c' w.heap.size).cells := by
      unfold MemV.cells MemV.more
      rw [hlen]; rfl
    rw [e] at this
    exact this
  · refine ⟨hown'.1, ?_⟩
    have hne := own_ne hown' hp3 h3
    rcases hown'.2 with hn | ⟨g, cap, cur, hv, hb', hgg, rest⟩
    · exact .inl hn
    · refine .inr ⟨g, cap, cur, hv, hb', ?_, rest⟩
      rw [Below.heap_setCell _ _ _ _ (fun e => hne (by rw [hv]; show some g = some m.p; rw [e]))]
      exact hgg
  · intro i b hib
    show Blk _ b tg ((pageOf (m.B ++ zpageB) i).map bv)
    rw [pageOf_app m.B m.bs.length i h.len]
    have hib' : (m.bs ++ [w.heap.size])[i]? = some b := hib
    by_cases hi : i < m.bs.length
    · rw [if_pos hi]
      rw [List.getElem?_append_left hi] at hib'
      have hb := h.page i b hib'
      have hbp : b ≠ m.p := fun e => (h.own.ne_ hb h1) e.symm
      exact Blk.far ((hold b hb.lt (own_ne h.row hb h2)).trans hb) (p := ⟨m.p, 1, none⟩) hbp _
    · rw [if_neg hi]
      rw [List.getElem?_append_right (by omega)] at hib'
      have hi0 : i - m.bs.length = 0 := by
        rcases Nat.eq_zero_or_pos (i - m.bs.length) with h0 | h0
        · exact h0
        · rw [List.getElem?_eq_none (by simp; omega)] at hib'; cases hib'
      have hie : i = m.bs.length := by omega
      rw [if_pos hie]
      rw [hi0] at hib'
      have hbe : w.heap.size = b := Option.some.inj hib'
      subst hbe
      have hbp : w.heap.size ≠ m.p := fun e => by have := h.own.lt; omega
      exact hnew.far (p := ⟨m.p, 1, none⟩) hbp _
  · show (m.B ++ zpageB).length = 4096 * (m.bs ++ [w.heap.size]).length
    rw [hlen, List.length_append, zpageB_len, h.len]; omega
  · show (m.bs ++ [w.heap.size]).Nodup
    rw [List.nodup_append]
    refine ⟨h.apart, by simp, fun a ha b hb => ?_⟩
    rw [List.mem_singleton] at hb
    subst hb
    have := h.lt a (.inr (.inr ha))
    omega
  · show (m.bs ++ [w.heap.size]).length ≤ m.most
    rw [hlen]; omega
  · refine ⟨h.low.1, fun b hb => ?_⟩
    have hb' : b ∈ m.bs ++ [w.heap.size] := hb
    rcases List.mem_append.1 hb' with hb' | hb'
    · exact h.low.2 b hb'
    · rw [List.mem_singleton] at hb'; omega
theorem MemAt.grow_own (h : MemAt tm tp tg base w m) (h3 : tp ≠ tm) {o1 o2 : Obj} (hg : ((w.alloc o1).alloc o2).grownBy w3 (Value.slice m.A m.bs.length m.c).ownBlock) : Blk w3 m.p tm m.cells := by
  have hpo : (Value.slice m.A m.bs.length m.c).ownBlock ≠ some m.p := own_ne h.row h.own h3
  have hlt := h.own.lt
  have : w3.heap[m.p]? = w.heap[m.p]? := by
    rw [hg.block m.p (by simp; omega) (fun e => hpo e.symm), Below.heap_alloc _ _ _ (by simp; omega), Below.heap_alloc _ _ _ hlt]
  exact this.trans h.own
/-- A step of New, Grow turns the memory's blocks and what is new alone. -/
theorem MemAt.grow_kept (h : MemAt tm tp tg base w m) {o1 o2 : Obj} {u : Value}
    (hg : ((w.alloc o1).alloc o2).grownBy w3 (Value.slice m.A m.bs.length m.c).ownBlock) : KeptF w (w3.setCell ⟨m.p, 1, none⟩ u) m.foot := by
  have k1 : KeptF w ((w.alloc o1).alloc o2) m.foot := KeptF.of_below (((Below.refl _ _).alloc (Nat.le_refl _) _).alloc (by simp) _) _
  have k2 : KeptF ((w.alloc o1).alloc o2) w3 m.foot := ⟨hg.os, hg.tape, hg.output, hg.size, fun k hk hF => hg.block k hk fun e => hF (.inr (.inl e.symm))⟩
  exact (k1.trans k2).trans (KeptF.setCell (p := ⟨m.p, 1, none⟩) (.inl rfl) u)
theorem MemV.more_foot (m : MemV) (A' : Option Addr) (c' g : Nat) (ho : (Value.slice A' (m.bs.length + 1) c').ownBlock = (Value.slice m.A m.bs.length m.c).ownBlock ∨ ∀ k, (Value.slice A' (m.bs.length + 1) c').ownBlock = some k → g ≤ k) :
    ∀ k, (m.more A' c' g).foot k → m.foot k ∨ g ≤ k := by
  intro k hk
  rcases hk with hk | hk | hk
  · exact .inl (.inl hk)
  · have hlen : (m.bs ++ [g]).length = m.bs.length + 1 := by simp
    have hk' : (Value.slice A' (m.bs.length + 1) c').ownBlock = some k := by rw [← hlen]; exact hk
    rcases ho with ho | ho
    · exact .inl (.inr (.inl (by rw [← ho]; exact hk')))
    · exact .inr (ho k hk')
  · have hk' : k ∈ m.bs ++ [g] := hk
    rcases List.mem_append.1 hk' with hk' | hk'
    · exact .inl (.inr (.inr hk'))
    · rw [List.mem_singleton] at hk'; exact .inr (by omega)
end
end Go.Proofs.Ytndkhlafpcedbaa
