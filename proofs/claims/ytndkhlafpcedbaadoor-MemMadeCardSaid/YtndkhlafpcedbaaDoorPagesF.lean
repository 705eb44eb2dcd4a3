/- mem.From. -/
import Derived.Test.YtndkhlafpcedbaaDoorPagesE
import Derived.Test.YtndkhlafpcedbaaDoorRefmB
import Derived.Test.YtndkhlafpcedbaaDoorMemI
namespace Go.Proofs.YtndkhlafpcedbaaDoor
set_option linter.unusedVariables false
open Go.RowKit
/-- copy of a page's bytes onto a row of the call's own. -/
theorem copy_pageT (t : TypeId) (w : World) {ops : Array Oper} {rest : List Oper} {o : Oper} {a : Act} {Q : Exit → Act → World → Prop} (hgd : o.guard = none) (d s : Operand)
    (ho : o.op = .call { callee := .builtin .copy, args := #[d, s], argTypes := #[24, 24] }) (g : Nat) (hd : a.eval d = .slice (some ⟨g, 0, none⟩) 4096 4096) (ad : Addr) (sLen sCap : Nat)
    (hs : a.eval s = .slice (some ad) sLen sCap) (hl : 4096 ≤ sLen) (cur : Array Value) (hg : w.heap[g]? = some (.cells cur t (0, 0))) (hcur : cur.size = 4096) (cs : List UInt8) (hcs : cs.length = 4096)
    (hsrc : ∀ j v, (cs.map bv)[j]? = some v → w.cell? (ad.add j) = some v)
    (h : ∀ w2, Blk w2 g t (cs.map bv) → (∀ B, B ≤ g → Below B w w2) → (∀ k, k ≠ g → w2.heap[k]? = w.heap[k]?) → w2.heap.size = w.heap.size → wpList Tryd.prog ops Q rest (a.put o.dst (goInt 4096)) w2) : wpList Tryd.prog ops Q (o :: rest) a w := by
  have hc : (cs.map bv).length = 4096 := by rw [List.length_map, hcs]
  refine wpList_copy_own hgd d s 24 24 ho 5 Tryd.underlying24 (by obtain ⟨i0, hi, hz, hs', hb⟩ := info_parts Tryd.info_u8; rw [hi]; simp [hs']) g 0 4096 4096 ad sLen sCap hd hs cur t hg (cs.map bv) (by rw [hc]; simp [Nat.min_def]; omega) hsrc (by rw [hc, hcur]; omega) (bv_one cs) ?_
  rw [hc]
  have he : (cur.toList.take 0 ++ (cs.map bv ++ cur.toList.drop (0 + 4096))).toArray = (cs.map bv).toArray := by
    rw [List.take_zero, List.nil_append, List.drop_of_length_le (by simp [hcur]), List.append_nil]
  rw [he]
  have hlt : g < w.heap.size := (Array.getElem?_eq_some_iff.1 hg).1
  refine h _ ?_ (fun B hB => below_setRow (Below.refl B w) hB _) (fun k hk => setRow_other w g k _ hk) (by simp)
  exact setRow_heap w g cur _ _ _ hg
/-- The bytes with page k laid anew. -/
def setPg (B : List UInt8) (k : Nat) (l : List UInt8) : List UInt8 := B.take (4096 * k) ++ (l ++ B.drop (4096 * k + 4096))
theorem setPg_len (B : List UInt8) (k : Nat) (l : List UInt8) (hl : l.length = 4096) (hk : 4096 * k + 4096 ≤ B.length) : (setPg B k l).length = B.length := by
  unfold setPg
  rw [List.length_append, List.length_append, List.length_take, List.length_drop, hl]
  omega
set_option maxRecDepth 100000 in
theorem setPg_page (B : List UInt8) (k i : Nat) (l : List UInt8) (hl : l.length = 4096) (hk : 4096 * k + 4096 ≤ B.length) : pageOf (setPg B k l) i = if i = k then l else pageOf B i := by
  have ht : (B.take (4096 * k)).length = 4096 * k := by rw [List.length_take]; omega
  refine List.ext_getElem? fun j => ?_
  by_cases hj : j < 4096
  · have h1 : (pageOf (setPg B k l) i)[j]? = (setPg B k l)[4096 * i + j]? := by unfold pageOf; rw [List.getElem?_take, if_pos hj, List.getElem?_drop]
    have h2 : (pageOf B i)[j]? = B[4096 * i + j]? := by unfold pageOf; rw [List.getElem?_take, if_pos hj, List.getElem?_drop]
    rw [h1]
    unfold setPg
    by_cases hik : i = k
    · subst hik
      rw [if_pos rfl, List.getElem?_append_right (by omega), ht, List.getElem?_append_left (by omega)]
      congr 1; omega
    · rw [if_neg hik, h2]
      by_cases hlt : i < k
      · rw [List.getElem?_append_left (by omega), List.getElem?_take, if_pos (by omega)]
      · rw [List.getElem?_append_right (by omega), ht, List.getElem?_append_right (by omega), hl, List.getElem?_drop]
        congr 1; omega
  · have h1 : (pageOf (setPg B k l) i)[j]? = none := List.getElem?_eq_none (by unfold pageOf; rw [List.length_take]; omega)
    rw [h1]
    by_cases hik : i = k
    · rw [if_pos hik, List.getElem?_eq_none (by omega)]
    · rw [if_neg hik, List.getElem?_eq_none (by unfold pageOf; rw [List.length_take]; omega)]
/-- A page of the memory laid anew. -/
theorem MemAt.lay {tm tp tg base : Nat} {w w2 : World} {m : MemV} (h : MemAt tm tp tg base w m) (h1 : tm ≠ tg) (h2 : tp ≠ tg) {k b : Nat} {l : List UInt8} (hl : l.length = 4096) (hb : m.bs[k]? = some b)
    (hw : Blk w2 b tg (l.map bv)) (ho : ∀ q, q ≠ b → w2.heap[q]? = w.heap[q]?) : MemAt tm tp tg base w2 { m with B := setPg m.B k l } := by
  have hkl : k < m.bs.length := (List.getElem?_eq_some_iff.1 hb).1
  have hk : 4096 * k + 4096 ≤ m.B.length := by rw [h.len]; omega
  have hpg := h.page k b hb
  have hpb : m.p ≠ b := h.own.ne_ hpg h1
  have hrb := own_ne h.row hpg h2
  refine ⟨(ho _ hpb).trans h.own, h.dl, ?_, fun i b' hi => ?_, (setPg_len _ _ _ hl hk).trans h.len, h.apart, h.np, h.most, h.low⟩
  · refine ⟨h.row.1, ?_⟩
    rcases h.row.2 with hn | ⟨g, cap, cur, hv, hg, hh, rest⟩
    · exact .inl hn
    · exact .inr ⟨g, cap, cur, hv, hg, (ho g (fun e => hrb (by rw [hv, e]; rfl))).trans hh, rest⟩
  · show Blk w2 b' tg ((pageOf (setPg m.B k l) i).map bv)
    rw [setPg_page _ _ _ _ hl hk]
    by_cases hik : i = k
    · subst hik
      have hi' : m.bs[i]? = some b' := hi
      rw [hb] at hi'
      injection hi' with hi'
      subst hi'
      rw [if_pos rfl]
      exact hw
    · rw [if_neg hik]
      have hne : b' ≠ b := fun e => hik (by
        subst e
        have hi1 := (List.getElem?_eq_some_iff.1 hi)
        have hi2 := (List.getElem?_eq_some_iff.1 hb)
        exact (List.getElem_inj h.apart).1 (hi1.2.trans hi2.2.symm))
      exact (ho b' hne).trans (h.page i b' hi)
end Go.Proofs.YtndkhlafpcedbaaDoor
