/- A byte stored into a memory in pages; what stays. No program in sight. -/
import Derived.Test.YtndkhlafpcedbaaMemP
namespace Go.Proofs.Ytndkhlafpcedbaa
set_option linter.unusedVariables false
open Go.RowKit
/-- The world is as it was but for new blocks and the blocks of F. -/
structure KeptF (w w' : World) (F : Nat → Prop) : Prop where
  os : w'.os = w.os
  tape : w'.tape = w.tape
  output : w'.output = w.output
  size : w.heap.size ≤ w'.heap.size
  block : ∀ k, k < w.heap.size → ¬ F k → w'.heap[k]? = w.heap[k]?
theorem KeptF.refl (w : World) (F : Nat → Prop) : KeptF w w F := ⟨rfl, rfl, rfl, Nat.le_refl _, fun _ _ _ => rfl⟩
theorem KeptF.trans {a b c : World} {F : Nat → Prop} (h : KeptF a b F) (k : KeptF b c F) : KeptF a c F :=
  ⟨k.os.trans h.os, k.tape.trans h.tape, k.output.trans h.output, Nat.le_trans h.size k.size, fun i hi hF => (k.block i (Nat.lt_of_lt_of_le hi h.size) hF).trans (h.block i hi hF)⟩
/-- A second step may turn what is new, too. -/
theorem KeptF.then {a b c : World} {F G : Nat → Prop} (h : KeptF a b F) (k : KeptF b c G) (hG : ∀ i, G i → F i ∨ a.heap.size ≤ i) : KeptF a c F :=
  ⟨k.os.trans h.os, k.tape.trans h.tape, k.output.trans h.output, Nat.le_trans h.size k.size, fun i hi hF =>
    (k.block i (Nat.lt_of_lt_of_le hi h.size) (fun hg => by rcases hG i hg with h1 | h1; exact hF h1; omega)).trans (h.block i hi hF)⟩
theorem KeptF.mono {w w' : World} {F G : Nat → Prop} (h : KeptF w w' F) (hG : ∀ i, F i → G i) : KeptF w w' G :=
  ⟨h.os, h.tape, h.output, h.size, fun i hi hg => h.block i hi fun hf => hg (hG i hf)⟩
theorem KeptF.below {w w' : World} {F : Nat → Prop} {B : Nat} (h : KeptF w w' F) (hF : ∀ i, F i → B ≤ i) (hB : B ≤ w.heap.size) : Below B w w' :=
  ⟨h.os, h.tape, h.output, h.size, fun k hk => h.block k (by omega) fun hf => by have := hF k hf; omega⟩
theorem KeptF.of_below {w w' : World} (h : Below w.heap.size w w') (F : Nat → Prop) : KeptF w w' F := ⟨h.os, h.tape, h.output, h.size, fun k hk _ => h.block k hk⟩
theorem KeptF.drewN {w w' : World} {F : Nat → Prop} (h : KeptF w w' F) (n : Nat) : KeptF w (w'.drewN n) F := ⟨h.os, h.tape, h.output, h.size, h.block⟩
theorem KeptF.setCell {w : World} {F : Nat → Prop} {p : Addr} (hp : F p.block) (u : Value) : KeptF w (w.setCell p u) F :=
  ⟨rfl, rfl, rfl, by simp [World.setCell], fun k _ hk => Below.heap_setCell w p u k fun e => hk (e ▸ hp)⟩

theorem pageOf_set (B : List UInt8) (a i : Nat) (c : UInt8) : pageOf (B.set a c) i = if i = a / 4096 then (pageOf B i).set (a % 4096) c else pageOf B i := by
  unfold pageOf
  apply List.ext_getElem?
  intro j
  by_cases hi : i = a / 4096
  · rw [if_pos hi, List.getElem?_take, List.getElem?_set, List.getElem?_take, List.getElem?_drop, List.getElem?_drop, List.getElem?_set]
    subst hi
    by_cases hj : j < 4096
    · simp only [if_pos hj]
      by_cases he : a % 4096 = j
      · rw [if_pos he, if_pos (by omega)]
        subst he
        simp only [List.length_take, List.length_drop]
        by_cases hl : a < B.length
        · rw [if_pos hl, if_pos (by omega)]
        · rw [if_neg hl, if_neg (by omega)]
      · rw [if_neg he, if_neg (by omega)]
    · simp only [if_neg hj]
      rw [if_neg (by omega)]
  · rw [if_neg hi, List.getElem?_take, List.getElem?_take, List.getElem?_drop, List.getElem?_drop, List.getElem?_set]
    by_cases hj : j < 4096
    · simp only [if_pos hj]
      rw [if_neg (by omega)]
    · simp only [if_neg hj]

section
variable {tm tp tg base : Nat} {w w' : World} {m : MemV}
/-- The memory with a byte set, its page marked. -/
def MemV.put (m : MemV) (a : Nat) (c : UInt8) : MemV := { m with B := m.B.set a c, d := m.d.set (a / 4096) true }
theorem MemV.put_foot (m : MemV) (a : Nat) (c : UInt8) : (m.put a c).foot = m.foot := rfl
theorem MemAt.put (h : MemAt tm tp tg base w m) (h1 : tm ≠ tg) (h2 : tp ≠ tg) (h3 : tp ≠ tm) {a : Nat} (ha : a < m.B.length) (c : UInt8) :
    MemAt tm tp tg base ((w.setCell ⟨m.bs[a / 4096]?.getD 0, a % 4096, none⟩ (.int .u8 c.toNat)).setCell ⟨m.p, 3 + a / 4096, none⟩ (.bool true)) (m.put a c) := by
  have hi : a / 4096 < m.bs.length := by rw [h.len] at ha; omega
  have hb := h.page _ _ (bsGet m hi)
  have hpb : m.p ≠ m.bs[a / 4096]?.getD 0 := h.own.ne_ hb h1
  have hj : a / 4096 < 64 := by have := h.np; have := h.most; omega
  refine ⟨?_, ?_, ?_, ?_, ?_, h.apart, h.np, h.most, h.low⟩
  · have := (h.own.far (p := ⟨m.bs[a / 4096]?.getD 0, a % 4096, none⟩) hpb (.int .u8 c.toNat)).set (3 + a / 4096) (.bool true)
    have e : m.cells.set (3 + a / 4096) (.bool true) = (m.put a c).cells := by
      unfold MemV.cells MemV.put
      rw [show 3 + a / 4096 = a / 4096 + 1 + 1 + 1 from by omega, List.set_cons_succ, List.set_cons_succ, List.set_cons_succ, List.map_set]
    rw [e] at this
    exact this
  · show (m.d.set _ _).length = 64
    rw [List.length_set]; exact h.dl
  · have hk : ∀ g, (Value.slice m.A m.bs.length m.c).ownBlock = some g → g ≠ m.p ∧ g ≠ m.bs[a / 4096]?.getD 0 := fun g hg =>
      ⟨fun e => own_ne h.row h.own h3 (by rw [hg, e]), fun e => own_ne h.row hb h2 (by rw [hg, e])⟩
    refine ⟨h.row.1, ?_⟩
    rcases h.row.2 with hn | ⟨g, cap, cur, hv, hb', hg, rest⟩
    · exact .inl hn
    · obtain ⟨k1, k2⟩ := hk g (by rw [hv]; rfl)
      refine .inr ⟨g, cap, cur, hv, hb', ?_, rest⟩
      rw [Below.heap_setCell _ _ _ _ k1, Below.heap_setCell _ _ _ _ k2]
      exact hg
  · intro i b hib
    have hbp : b ≠ m.p := fun e => (h.own.ne_ (h.page i b hib) h1) e.symm
    show Blk _ b tg ((pageOf (m.B.set a c) i).map bv)
    rw [pageOf_set]
    by_cases hia : i = a / 4096
    · rw [if_pos hia]
      subst hia
      have hbb : b = m.bs[a / 4096]?.getD 0 := by
        have h1 : m.bs[a / 4096]? = some b := hib
        rw [h1]; rfl
      subst hbb
      rw [List.map_set]
      exact (hb.set (a % 4096) (bv c)).far hbp _
    · rw [if_neg hia]
      have hbn : b ≠ m.bs[a / 4096]?.getD 0 := by
        intro e
        have h1 : m.bs[i]? = some b := hib
        have h2 := bsGet m hi
        rw [← e] at h2
        have hil := (List.getElem?_eq_some_iff.1 h1).1
        have := (List.getElem_inj h.apart (i := i) (j := a / 4096) (h₀ := hil) (h₁ := hi)).1 (by
          rw [List.getElem?_eq_getElem hil] at h1
          rw [List.getElem?_eq_getElem hi] at h2
          exact (Option.some.inj h1).trans (Option.some.inj h2).symm)
        exact hia this
      exact ((h.page i b hib).far hbn _).far hbp _
  · show (m.B.set a c).length = _
    rw [List.length_set]; exact h.len
theorem MemAt.put_kept (h : MemAt tm tp tg base w m) {a : Nat} (ha : a < m.B.length) (x y : Value) :
    KeptF w ((w.setCell ⟨m.bs[a / 4096]?.getD 0, a % 4096, none⟩ x).setCell ⟨m.p, 3 + a / 4096, none⟩ y) m.foot := by
  have hi : a / 4096 < m.bs.length := by rw [h.len] at ha; omega
  exact (KeptF.setCell (p := ⟨m.bs[a / 4096]?.getD 0, a % 4096, none⟩) (.inr (.inr (List.mem_of_getElem? (bsGet m hi)))) x).trans (KeptF.setCell (p := ⟨m.p, 3 + a / 4096, none⟩) (.inl rfl) y)
end
end Go.Proofs.Ytndkhlafpcedbaa
