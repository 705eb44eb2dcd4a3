/- flagonref00.Bag: what was made, and gathered. -/
import Derived.Test.YtndkhlafpcedbaaDoorBagD
import Derived.Test.YtndkhlafpcedbaaDoorAppZ
namespace Go.Proofs.YtndkhlafpcedbaaDoor
set_option linter.unusedVariables false
open Go.RowKit
/-- Rows of the call's own, each in a block of its own. -/
structure Made (e : TypeId) (base : Nat) (w : World) (gl : List (Hd × List Value)) : Prop where
  own : ∀ (q : Nat) A n c xs, gl[q]? = some ((A, n, c), xs) → w.ownsRow base e 1 (.slice A n c) n xs
  dist : Dist (gl.map (·.1))
section
variable {e : TypeId} {base : Nat} {w w' : World} {gl : List (Hd × List Value)}
theorem Made.nil : Made e base w [] := ⟨fun q A n c xs h => by simp at h, fun q q' A n c A' n' c' h => by simp at h⟩
theorem Made.lt (h : Made e base w gl) {q : Nat} {A : Option Addr} {n c : Nat} (hq : (gl.map (·.1))[q]? = some (A, n, c)) {b : Nat} (hb : blockOf A = some b) : base ≤ b ∧ b < w.heap.size := by
  rw [List.getElem?_map] at hq
  obtain ⟨⟨h1, xs⟩, e1, rfl⟩ := Option.map_eq_some_iff.1 hq
  exact (h.own q A n c xs e1).lt b (by rw [ownBlock_of]; exact hb)
theorem Made.keep (h : Made e base w gl) (hb : Below w.heap.size w w') : Made e base w' gl := ⟨fun q A n c xs hq => own_keptz (h.own q A n c xs hq) hb, h.dist⟩
theorem Made.ekeep (h : Made e base w gl) (hb : EKeep e w w') : Made e base w' gl := ⟨fun q A n c xs hq => hb.own (h.own q A n c xs hq), h.dist⟩
theorem Made.drewN (h : Made e base w gl) (k : Nat) : Made e base (w.drewN k) gl := ⟨fun q A n c xs hq => h.own q A n c xs hq, h.dist⟩
theorem Made.add (h : Made e base w gl) (hbase : base ≤ w.heap.size) {A : Option Addr} {n c : Nat} {xs : List Value} (hn : w'.ownsRow w.heap.size e 1 (.slice A n c) n xs) (hb : Below w.heap.size w w') : Made e base w' (gl ++ [((A, n, c), xs)]) := by
  have h2 := h.keep hb
  refine ⟨fun q A1 n1 c1 xs1 hq => ?_, fun q q' A1 n1 c1 A2 n2 c2 h1 h3 hne b hb1 hb2 => ?_⟩
  · by_cases hql : q < gl.length
    · rw [List.getElem?_append_left hql] at hq
      exact h2.own q A1 n1 c1 xs1 hq
    · rw [List.getElem?_append_right (by omega)] at hq
      obtain ⟨hq1, hq2⟩ := List.getElem?_eq_some_iff.1 hq
      have : q - gl.length = 0 := by simpa using hq1
      simp only [this, List.getElem_cons_zero, Prod.mk.injEq] at hq2
      obtain ⟨⟨rfl, rfl, rfl⟩, rfl⟩ := hq2
      refine ⟨hn.1, ?_⟩
      rcases hn.2 with h0 | ⟨g, cap, cur, hv, hg, rest⟩
      · exact .inl h0
      · exact .inr ⟨g, cap, cur, hv, by omega, rest⟩
  · rw [List.map_append] at h1 h3
    have hold : ∀ {q : Nat} {A1 : Option Addr} {n1 c1 : Nat}, (gl.map (·.1))[q]? = some (A1, n1, c1) → ∀ {b : Nat}, blockOf A1 = some b → b < w.heap.size := fun hq _ hb => (h.lt hq hb).2
    have hnew : ∀ {q : Nat} {A1 : Option Addr} {n1 c1 : Nat}, ¬ q < gl.length → (gl.map (·.1) ++ [((A, n, c), xs)].map (·.1))[q]? = some (A1, n1, c1) → q = gl.length ∧ A1 = A := fun {q A1 n1 c1} hq h1 => by
      rw [List.getElem?_append_right (by simp; omega)] at h1
      obtain ⟨hq1, hq2⟩ := List.getElem?_eq_some_iff.1 h1
      have h0 : q - (gl.map (·.1)).length = 0 := by simpa using hq1
      simp only [h0, List.map_cons, List.getElem_cons_zero, Prod.mk.injEq] at hq2
      simp at h0
      exact ⟨by omega, hq2.1.symm⟩
    by_cases hq1 : q < gl.length
    · by_cases hq2 : q' < gl.length
      · rw [List.getElem?_append_left (by simpa using hq1)] at h1
        rw [List.getElem?_append_left (by simpa using hq2)] at h3
        exact h.dist q q' _ _ _ _ _ _ h1 h3 hne b hb1 hb2
      · rw [List.getElem?_append_left (by simpa using hq1)] at h1
        obtain ⟨_, rfl⟩ := hnew hq2 h3
        have := hold h1 hb1
        have := (hn.lt b (by rw [ownBlock_of]; exact hb2)).1
        omega
    · obtain ⟨e1, rfl⟩ := hnew hq1 h1
      by_cases hq2 : q' < gl.length
      · rw [List.getElem?_append_left (by simpa using hq2)] at h3
        have := hold h3 hb2
        have := (hn.lt b (by rw [ownBlock_of]; exact hb1)).1
        omega
      · have := (hnew hq2 h3).1
        omega
theorem Made.row (h : Made e base w gl) {q : Nat} {A : Option Addr} {n c : Nat} {xs : List Value} (hq : gl[q]? = some ((A, n, c), xs)) : Row w w.heap.size A xs := Row.own (h.own q A n c xs hq)
end
/-- The bag of these bytes. -/
def BagB (g base : Nat) (w : World) (bl : List Hd) : Prop := ∃ AH cH, Blk w g 47 (bagC (.slice AH bl.length cH) (.slice none 0 0) (.slice none 0 0)) ∧ w.ownsRow base 24 1 (.slice AH bl.length cH) bl.length (bl.map hdV)
theorem BagB.keep {g base : Nat} {w w' : World} {bl : List Hd} (h : BagB g base w bl) (hb : Below w.heap.size w w') : BagB g base w' bl := by
  obtain ⟨AH, cH, h1, h2⟩ := h
  exact ⟨AH, cH, (hb.block g h1.lt).trans h1, own_keptz h2 hb⟩
theorem BagB.drewN {g base : Nat} {w : World} {bl : List Hd} (h : BagB g base w bl) (k : Nat) : BagB g base (w.drewN k) bl := h
theorem bag_add (g base B n c : Nat) (A : Option Addr) (bl : List Hd) (w : World) (h : BagB g base w bl) (hN : bl.length < 300) (hbase : base ≤ w.heap.size) (hB : B ≤ g ∧ B ≤ base) :
    Calls Tryd.prog 11 #[.pointer (some ⟨g, 0, none⟩), .slice A n c] w fun e w' => (∃ x, e = .returned x) ∧ BagB g base w' (bl ++ [(A, n, c)]) ∧ EKeep 5 w w' ∧ Below B w w' := by
  obtain ⟨AH, cH, h1, h2⟩ := h
  refine (bag_AddBytes g base B bl.length n c cH A AH (bagC (.slice AH bl.length cH) (.slice none 0 0) (.slice none 0 0)) (bl.map hdV) w h1 rfl h2 hN hbase hB).mono ?_
  rintro e w' ⟨hx, ⟨AH', cH', h3, h4⟩, h5, h6⟩
  refine ⟨hx, ⟨AH', cH', ?_, ?_⟩, h5 _ (by decide) (by decide), h6⟩
  · simpa [bagC] using h3
  · simpa [hdV] using h4
theorem bag_apart (g base : Nat) (gl : List (Hd × List Value)) (w : World) (hB : BagB g base w (gl.map (·.1))) (hM : Made 5 base w gl) (hN : gl.length ≤ 300) (hL : ∀ x ∈ gl, x.1.2.1 ≤ 70368744177000) (hbase : base ≤ w.heap.size) :
    Calls Tryd.prog 16 #[.pointer (some ⟨g, 0, none⟩)] w fun e w' => e = .returned (.bool true) ∧ Below base w w' := by
  obtain ⟨AH, cH, h1, h2⟩ := hB
  have ho : ∀ (q : Nat) A n c, (gl.map (·.1))[q]? = some (A, n, c) → ∃ xs, w.ownsRow base 5 1 (.slice A n c) n xs := fun q A n c hq => by
    rw [List.getElem?_map] at hq
    obtain ⟨⟨h1, xs⟩, e1, rfl⟩ := Option.map_eq_some_iff.1 hq
    exact ⟨xs, hM.own q A n c xs e1⟩
  refine (bag_Apart_bytes g base (gl.map (·.1)).length cH AH (gl.map (·.1)) w h1 rfl (by simpa using hN) h2 ho hM.dist (fun q A n c hq => ?_) hbase).mono ?_
  · rw [List.getElem?_map] at hq
    obtain ⟨⟨h1, xs⟩, e1, rfl⟩ := Option.map_eq_some_iff.1 hq
    exact hL _ (List.mem_of_getElem? e1)
  · rintro e w' ⟨rfl, hk⟩
    exact ⟨rfl, hk.below (fun b hf => (foot_type ho hf).1) hbase⟩
end Go.Proofs.YtndkhlafpcedbaaDoor
