/- The law's own stores into what it handed in; the memories stand. -/
import Derived.Test.YtndkhlafpcedbaaDoorMadeA
namespace Go.Proofs.YtndkhlafpcedbaaDoor
set_option linter.unusedVariables false
open Go.RowKit
theorem Pair.keep {base : Nat} {w w' : World} {N : Nat} {m : MemV} {r : RefM} (h : Pair base w N m r) (hk : ∀ k, base ≤ k → k < w.heap.size → w'.heap[k]? = w.heap[k]?) : Pair base w' N m r := by
  refine ⟨h.at_.keep fun k hf => hk k (h.at_.ge k hf) (h.at_.lt k hf), ⟨(hk _ h.rat.low.1 h.rat.own.lt).trans h.rat.own, ?_, (hk _ h.rat.low.2 h.rat.marks.lt).trans h.rat.marks, h.rat.dl, h.rat.most, h.rat.len, h.rat.low⟩, h.bs, h.rl, h.pm, h.d⟩
  refine ⟨h.rat.row.1, ?_⟩
  rcases h.rat.row.2 with hn | ⟨g, cap, cur, hv, hb, hg, rest⟩
  · exact .inl hn
  · exact .inr ⟨g, cap, cur, hv, hb, (hk g hb (Array.getElem?_eq_some_iff.1 hg).1).trans hg, rest⟩
/-- Behind some stores into the pages handed in. -/
structure S77 (w : World) (lo hi g : Nat) (L : List (List UInt8)) (xs : List Value) (wr : World) : Prop where
  kept : KeptB w wr (fun b => lo ≤ b ∧ b < hi ∧ b ≠ g)
  hdr : Blk wr g 24 xs
  pg : ∀ (q : Nat) l, L[q]? = some l → ∃ b ys, xs[q]? = some (.slice (some ⟨b, 0, none⟩) l.length (l.length + 64)) ∧ lo ≤ b ∧ b < hi ∧ b ≠ g ∧ Blk wr b 5 ys ∧ ys.length = l.length + 64
theorem S77.start {lo g k : Nat} {w w4 : World} {L : List (List UInt8)} {xs : List Value} (h : PW lo w g L xs k) (h4 : PW lo w4 g L xs k) (hk : L.length ≤ k) : S77 w lo w4.heap.size g L xs w := by
  refine ⟨KeptB.refl _ _, h.hdr, fun q l hq => ?_⟩
  have hqk : q < k := by have := (List.getElem?_eq_some_iff.1 hq).1; omega
  obtain ⟨b, h1, h2, h3⟩ := h.pg q l hqk hq
  obtain ⟨b', h1', _, h3'⟩ := h4.pg q l hqk hq
  rw [h1] at h1'
  injection h1' with h1'
  injection h1' with e1
  injection e1 with e1
  injection e1 with e1
  subst e1
  exact ⟨b, _, h1, h2, h3'.lt, h3.ne_ h.hdr (by decide), h3, by rw [List.length_append, List.length_map, marksB_len]⟩
theorem S77.set {w : World} {lo hi g : Nat} {L : List (List UInt8)} {xs : List Value} {wr : World} (h : S77 w lo hi g L xs wr) {q : Nat} {l : List UInt8} (hq : L[q]? = some l) {b : Nat} (hb : xs[q]? = some (.slice (some ⟨b, 0, none⟩) l.length (l.length + 64))) (j : Nat) (u : Value) : S77 w lo hi g L xs (wr.setCell ⟨b, j, none⟩ u) := by
  obtain ⟨b', ys, h1, h2, h3, h4, h5, h6⟩ := h.pg q l hq
  rw [hb] at h1
  injection h1 with h1
  injection h1 with e1
  injection e1 with e1
  injection e1 with e1
  subst e1
  refine ⟨h.kept.set _ _ ⟨h2, h3, h4⟩, blk_set_other h.hdr _ _ (fun e => h4 e.symm), fun q' l' hq' => ?_⟩
  obtain ⟨b2, ys2, g1, g2, g3, g4, g5, g6⟩ := h.pg q' l' hq'
  by_cases hbb : b2 = b
  · subst hbb
    exact ⟨b2, _, g1, g2, g3, g4, g5.set j u, by rw [List.length_set]; exact g6⟩
  · exact ⟨b2, ys2, g1, g2, g3, g4, blk_set_other g5 _ _ hbb, g6⟩
theorem S77.place {w : World} {lo hi g : Nat} {L : List (List UInt8)} {xs : List Value} {wr : World} (h : S77 w lo hi g L xs wr) {q : Nat} {l : List UInt8} (hq : L[q]? = some l) : ∃ b, xs[q]? = some (.slice (some ⟨b, 0, none⟩) l.length (l.length + 64)) ∧ wr.cell? ⟨g, q, none⟩ = some (.slice (some ⟨b, 0, none⟩) l.length (l.length + 64)) ∧
    ∀ j, j < l.length → ∃ u, wr.cell? ⟨b, j, none⟩ = some u ∧ wr.frozen? ⟨b, j, none⟩ = false := by
  obtain ⟨b, ys, h1, h2, h3, h4, h5, h6⟩ := h.pg q l hq
  refine ⟨b, h1, (h.hdr.cell q).trans h1, fun j hj => ?_⟩
  exact ⟨_, (h5.cell j).trans (List.getElem?_eq_getElem (by omega)), h5.frozen j⟩
def M77 (w : World) (lo hi g : Nat) (L : List (List UInt8)) (xs : List Value) (n : Nat) (i : Value) (wr : World) : Prop := ∃ q : Nat, q ≤ n ∧ i = .int .i64 q ∧ S77 w lo hi g L xs wr
def I77 (w : World) (lo hi g : Nat) (L : List (List UInt8)) (xs : List Value) (m : Nat) (i : Value) (wr : World) : Prop := ∃ j : Nat, j ≤ m ∧ i = .int .i64 j ∧ S77 w lo hi g L xs wr
end Go.Proofs.YtndkhlafpcedbaaDoor
