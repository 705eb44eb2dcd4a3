/- Replies that are scribbled over: words. No program in sight. -/
import Derived.Test.YtndkhlafpcedbaaHostP
namespace Go.Proofs.Ytndkhlafpcedbaa
set_option linter.unusedVariables false
open Go.RowKit
/-- Only blocks from lo to hi have changed; nothing is new. -/
structure Win (lo hi : Nat) (W W' : World) : Prop where
  os : W'.os = W.os
  tape : W'.tape = W.tape
  output : W'.output = W.output
  size : W'.heap.size = W.heap.size
  block : ∀ k, (k < lo ∨ hi ≤ k) → W'.heap[k]? = W.heap[k]?
theorem Win.refl (lo hi : Nat) (W : World) : Win lo hi W W := ⟨rfl, rfl, rfl, rfl, fun _ _ => rfl⟩
theorem Win.trans {lo hi : Nat} {A B C : World} (h : Win lo hi A B) (k : Win lo hi B C) : Win lo hi A C :=
  ⟨k.os.trans h.os, k.tape.trans h.tape, k.output.trans h.output, k.size.trans h.size, fun q hq => (k.block q hq).trans (h.block q hq)⟩
theorem Win.setCell {lo hi : Nat} (W : World) (g i : Nat) (u : Value) (h1 : lo ≤ g) (h2 : g < hi) : Win lo hi W (W.setCell ⟨g, i, none⟩ u) :=
  ⟨rfl, rfl, rfl, by simp [World.setCell], fun q hq => Below.heap_setCell _ _ _ _ (by show q ≠ g; omega)⟩
theorem Win.below {lo hi : Nat} {A B : World} (h : Win lo hi A B) : Below lo A B := ⟨h.os, h.tape, h.output, by rw [h.size]; exact Nat.le_refl _, fun k hk => h.block k (.inl hk)⟩
/-- Replies of whatever words: the array's block, the rows' blocks; all from lo to hi. -/
structure Junk (tr tw lo hi : Nat) (W : World) (b : Nat) (hs : List (Option Addr × Nat × Nat)) : Prop where
  lob : lo ≤ b
  hib : b < hi
  small : ∀ (i : Nat) A n c, hs[i]? = some (A, n, c) → n * 8 ≤ 140737488351232
  arr : ∃ cur : Array Value, W.heap[b]? = some (.cells cur tr (0, 0)) ∧ ∀ (i : Nat) A n c, hs[i]? = some (A, n, c) → cur[i * 2]? = some (.slice A n c) ∧ ∃ x, cur[i * 2 + 1]? = some (.bool x)
  row : ∀ (i : Nat) A n c, hs[i]? = some (A, n, c) → 0 < n → ∃ (g : Nat) (cur : Array Value), A = some ⟨g, 0, none⟩ ∧ lo ≤ g ∧ g < hi ∧ W.heap[g]? = some (.cells cur tw (0, 0)) ∧ ∀ j, j < n → ∃ x : Nat, cur[j]? = some (uv x) ∧ Rd.B64 x
section
variable {tr tw lo hi b : Nat} {W : World} {hs : List (Option Addr × Nat × Nat)}
theorem Junk.hdr (h : Junk tr tw lo hi W b hs) {i : Nat} {A : Option Addr} {n c : Nat} (hi' : hs[i]? = some (A, n, c)) : W.cell? ⟨b, i * 2, none⟩ = some (.slice A n c) ∧ ∃ x, W.cell? ⟨b, i * 2 + 1, none⟩ = some (.bool x) := by
  obtain ⟨cur, h1, h2⟩ := h.arr
  obtain ⟨h3, x, h4⟩ := h2 i A n c hi'
  exact ⟨by simp [World.cell?, h1, h3], x, by simp [World.cell?, h1, h4]⟩
theorem Junk.fro (h : Junk tr tw lo hi W b hs) (i : Nat) : W.frozen? ⟨b, i, none⟩ = false := by
  obtain ⟨cur, h1, h2⟩ := h.arr
  simp [World.frozen?, h1]
theorem Junk.word (h : Junk tr tw lo hi W b hs) {i : Nat} {A : Option Addr} {n c : Nat} (hi' : hs[i]? = some (A, n, c)) {j : Nat} (hj : j < n) :
    ∃ g, A = some ⟨g, 0, none⟩ ∧ lo ≤ g ∧ g < hi ∧ W.frozen? ⟨g, j, none⟩ = false ∧ ∃ x : Nat, W.cell? ⟨g, j, none⟩ = some (uv x) ∧ Rd.B64 x := by
  obtain ⟨g, cur, hA, h1, h2, h3, h4⟩ := h.row i A n c hi' (by omega)
  obtain ⟨x, h5, h6⟩ := h4 j hj
  exact ⟨g, hA, h1, h2, by simp [World.frozen?, h3], x, by simp [World.cell?, h3, h5], h6⟩
theorem heap_set_at {W : World} {g i : Nat} {u : Value} {cur : Array Value} {t : TypeId} {fr : Nat × Nat} (h : W.heap[g]? = some (.cells cur t fr)) : (W.setCell ⟨g, i, none⟩ u).heap[g]? = some (.cells (cur.setIfInBounds i u) t fr) := by
  simp [World.setCell, Array.getElem?_modify, h]
theorem Junk.setWord (h : Junk tr tw lo hi W b hs) (hne : tr ≠ tw) {g k : Nat} {cur0 : Array Value} (hg : W.heap[g]? = some (.cells cur0 tw (0, 0))) (y : Nat) (hy : Rd.B64 y) : Junk tr tw lo hi (W.setCell ⟨g, k, none⟩ (uv y)) b hs := by
  have hgb : b ≠ g := by
    rintro rfl
    obtain ⟨cur, h1, _⟩ := h.arr
    rw [h1] at hg
    injection hg with hg
    injection hg with _ ht
    exact hne ht
  refine ⟨h.lob, h.hib, h.small, ?_, fun i A n c hi' hn => ?_⟩
  · obtain ⟨cur, h1, h2⟩ := h.arr
    exact ⟨cur, by rw [Below.heap_setCell _ _ _ _ hgb]; exact h1, h2⟩
  · obtain ⟨g', cur, hA, h1, h2, h3, h4⟩ := h.row i A n c hi' hn
    by_cases e : g' = g
    · subst e
      rw [hg] at h3
      injection h3 with h3
      injection h3 with h3 _
      subst h3
      refine ⟨g', _, hA, h1, h2, heap_set_at hg, fun j hj => ?_⟩
      obtain ⟨x, h5, h6⟩ := h4 j hj
      rw [Array.getElem?_setIfInBounds]
      split
      · rename_i e
        subst e
        rw [if_pos (Array.getElem?_eq_some_iff.1 h5).1]
        exact ⟨y, rfl, hy⟩
      · exact ⟨x, h5, h6⟩
    · exact ⟨g', cur, hA, h1, h2, by rw [Below.heap_setCell _ _ _ _ e]; exact h3, h4⟩
theorem Junk.setTrap (h : Junk tr tw lo hi W b hs) (hne : tr ≠ tw) (k : Nat) (y : Bool) : Junk tr tw lo hi (W.setCell ⟨b, k * 2 + 1, none⟩ (.bool y)) b hs := by
  obtain ⟨cur0, hb, h0⟩ := h.arr
  refine ⟨h.lob, h.hib, h.small, ⟨_, heap_set_at hb, fun i A n c hi' => ?_⟩, fun i A n c hi' hn => ?_⟩
  · obtain ⟨h3, x, h4⟩ := h0 i A n c hi'
    refine ⟨by rw [Array.getElem?_setIfInBounds, if_neg (by omega)]; exact h3, ?_⟩
    rw [Array.getElem?_setIfInBounds]
    split
    · rename_i e
      rw [e, if_pos (Array.getElem?_eq_some_iff.1 h4).1]
      exact ⟨y, rfl⟩
    · exact ⟨x, h4⟩
  · obtain ⟨g', cur, hA, h1, h2, h3, h4⟩ := h.row i A n c hi' hn
    have e : g' ≠ b := by
      rintro rfl
      rw [hb] at h3
      injection h3 with h3
      injection h3 with _ ht
      exact hne ht
    exact ⟨g', cur, hA, h1, h2, by rw [Below.heap_setCell _ _ _ _ e]; exact h3, h4⟩
end
/-- The heads of replies of the call's own. -/
theorem RepsOwn.junk {tw tr base : Nat} {w : World} {b n c : Nat} {cells : List Value} {rs : List Rep} (h : RepsOwn tw w base cells rs) (ho : w.ownsRow base tr 2 (.slice (some ⟨b, 0, none⟩) n c) n cells) (hn : n = rs.length) (hle : ∀ r ∈ rs, r.1.length * 8 ≤ 140737488351232) :
    ∃ hs : List (Option Addr × Nat × Nat), hs.length = n ∧ Junk tr tw base w.heap.size w b hs := by
  have key : ∀ m, m ≤ rs.length → ∃ hs : List (Option Addr × Nat × Nat), hs.length = m ∧ ∀ (i : Nat) A k c, hs[i]? = some (A, k, c) → ∃ r, rs[i]? = some r ∧ k = r.1.length ∧ (cells.drop (i * 2)).take 2 = [.slice A r.1.length c, .bool r.2] ∧ w.ownsRow base tw 1 (.slice A r.1.length c) r.1.length (r.1.map uv) ∧ ∀ x ∈ r.1, Rd.B64 x := by
    intro m
    induction m with
    | zero => exact fun _ => ⟨[], rfl, by simp⟩
    | succ m ih =>
      intro hm
      obtain ⟨hs, hl, hx⟩ := ih (by omega)
      have hr : rs[m]? = some rs[m] := List.getElem?_eq_getElem (by omega)
      obtain ⟨A, c, h1, h2, h3⟩ := h m _ hr
      refine ⟨hs ++ [(A, rs[m].1.length, c)], by simp [hl], fun i A' k c' hi => ?_⟩
      rw [List.getElem?_append] at hi
      split at hi
      · exact hx i A' k c' hi
      · have hi0 : i = m := by
          have := (List.getElem?_eq_some_iff.1 hi).1
          simp at this; omega
        subst hi0
        rw [hl, Nat.sub_self] at hi
        simp at hi
        obtain ⟨rfl, rfl, rfl⟩ := hi
        exact ⟨_, hr, rfl, h1, h2, h3⟩
  obtain ⟨hs, hl, hx⟩ := key rs.length (Nat.le_refl _)
  rcases ho.2 with ⟨hv, _⟩ | ⟨g, cap, cur, hv, hbase, hg, hnc, _, hsz, htake⟩
  · cases hv
  · have hgb : b = g := by injection hv with hv; injection hv with hv; injection hv
    subst hgb
    refine ⟨hs, by omega, ⟨hbase, (Array.getElem?_eq_some_iff.1 hg).1, fun i A k c hi => by obtain ⟨r, hr, rfl, _⟩ := hx i A k c hi; exact hle r (List.mem_of_getElem? hr), ⟨cur, hg, fun i A k c hi => ?_⟩, fun i A k c hi hk => ?_⟩⟩
    · obtain ⟨r, hr, rfl, h1, _, _⟩ := hx i A k c hi
      have hlt : i < n := by rw [hn]; exact (List.getElem?_eq_some_iff.1 hr).1
      have e0 : cells[i * 2]? = some (.slice A r.1.length c) := by
        have := congrArg (fun l : List Value => l[0]?) h1
        simpa using this
      have e1 : cells[i * 2 + 1]? = some (.bool r.2) := by
        have := congrArg (fun l : List Value => l[1]?) h1
        simpa using this
      rw [← htake, List.getElem?_take, if_pos (by omega), Array.getElem?_toList] at e0 e1
      exact ⟨e0, r.2, e1⟩
    · obtain ⟨r, hr, rfl, _, h2, h3⟩ := hx i A k c hi
      rcases h2.2 with ⟨_, h0⟩ | ⟨g', cap', cur', hv', hb', hg', hnc', _, hsz', htake'⟩
      · omega
      · injection hv' with e1 e2 e3
        refine ⟨g', cur', e1, hb', (Array.getElem?_eq_some_iff.1 hg').1, hg', fun j hj => ?_⟩
        refine ⟨r.1[j], ?_, h3 _ (List.getElem_mem _)⟩
        have : (r.1.map uv)[j]? = some (uv r.1[j]) := by rw [List.getElem?_map, List.getElem?_eq_getElem hj]; rfl
        rw [← htake', List.getElem?_take, if_pos (by omega), Array.getElem?_toList] at this
        exact this
end Go.Proofs.Ytndkhlafpcedbaa
