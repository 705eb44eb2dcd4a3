/- mem.From. -/
import Derived.Test.YtndkhlafpcedbaaDoorPagesD
import Derived.Test.YtndkhlafpcedbaaDoorRefmB
import Derived.Test.YtndkhlafpcedbaaDoorMemI
namespace Go.Proofs.YtndkhlafpcedbaaDoor
set_option linter.unusedVariables false
open Go.RowKit
/-- copy of a page's bytes onto a row of the call's own. -/
theorem copy_pageT (t : TypeId) (w : World) {ops : Array Oper} {rest : List Oper} {o : Oper} {a : Act} {Q : Exit → Act → World → Prop} (hgd : o.guard = none) (d s : Operand)
    (ho : o.op = .call { callee := .builtin .copy, args := #[d, s], argTypes := #[24, 24] }) (g : Nat) (hd : a.eval d = .slice (some ⟨g, 0, none⟩) 4096 4096) (ad : Addr) (sLen sCap : Nat)
    (hs : a.eval s = .slice (some ad) sLen sCap) (hl : 4096 ≤ sLen) (cur : Array Value) (hg : w.heap[g]? = some (.cells cur t (0, 0))) (hcur : cur.size = 4096) (cs : List UInt8) (hcs : cs.length = 4096)
    (hsrc : ∀ j v, (cs.map bv)[j]? = some v → w.cell? (ad.add j) = some v)
    (h : ∀ w2, Blk w2 g t (cs.map bv) → (∀ B, B ≤ g → Below B w w2) → (∀ k, k ≠ g → w2.heap[k]? = w.heap[k]?) → w2.heap.size = w.heap.size → wpList Tryd.prog ops Q rest (a.put o.dst (goInt 4096)) w2) : wpList Tryd.prog ops Q (o :: rest) a w := by
  have hc : (cs.map bv).length = 4096 := by rw [List.length_map, hcs]
  refine wpList_copy_own hgd d s 24 24 ho 5 Tryd.underlying24 (by obtain ⟨i0, hi, hz, hs', hb⟩ := info_parts Tryd.info_u8; rw [hi]; simp [hs']) g 0 4096 4096 ad sLen sCap hd hs cur t hg (cs.map bv) (by rw [hc]; simp [Nat.min_def]; omega) hsrc (by rw [hc, hcur]; omega) (bv_one cs) ?_
  rw [hc]
  have he : (cur.toList.take 0 ++ (cs.map bv ++ cur.toList.drop (0 + 4096))).toArray = (cs.map bv).toArray := by
    rw [List.take_zero, List.nil_append, List.drop_of_length_le (by simp [hcur]), List.append_nil]
  rw [he]
  have hlt : g < w.heap.size := (Array.getElem?_eq_some_iff.1 hg).1
  refine h _ ?_ (fun B hB => below_setRow (Below.refl B w) hB _) (fun k hk => setRow_other w g k _ hk) (by simp)
  exact setRow_heap w g cur _ _ _ hg
/-- The bytes with page k laid anew. -/
def setPg (B : List UInt8) (k : Nat) (l : List UInt8) : List UInt8 := B.take (4096 * k) ++ (l ++ B.drop (4096 * k + 4096))
theorem setPg_len (B : List UInt8) (k : Nat) (l : List UInt8) (hl : l.length = 4096) (hk : 4096 * k + 4096 ≤ B.length) : (setPg B k l).length = B.length := by
  unfold setPg
  rw [List.length_append, List.length_append, List.length_take, List.length_drop, hl]
  omega
set_option maxRecDepth 100000 in
theorem setPg_page (B : List UInt8) (k i : Nat) (l : List UInt8) (hl : l.length = 4096) (hk : 4096 * k + 4096 ≤ B.length) : pageOf (setPg B k l) i = if i = k then l else pageOf B i := by
  have ht : (B.take (4096 * k)).length = 4096 * k := by rw [List.length_take]; omega
  refine List.ext_getElem? fun j => ?_
  by_cases hj : j < 4096
  · have h1 : (pageOf (setPg B k l) i)[j]? = (setPg B k l)[4096 * i + j]? := by unfold pageOf; rw [List.getElem?_take, if_pos hj, List.getElem?_drop]
    have h2 : (pageOf B i)[j]? = B[4096 * i + j]? := by unfold pageOf; rw [List.getElem?_take, if_pos hj, List.getElem?_drop]
    rw [h1]
    unfold setPg
    by_cases hik : i = k
    · subst hik
      rw [if_pos rfl, List.getElem?_append_right (by omega), ht, List.getElem?_append_left (by omega)]
      congr 1; omega
    · rw [if_neg hik, h2]
      by_cases hlt : i < k
      · rw [List.getElem?_append_left (by omega), List.getElem?_take, if_pos (by omega)]
      · rw [List.getElem?_append_right (by omega), ht, List.getElem?_append_right (by omega), hl, List.getElem?_drop]
        congr 1; omega
  · have h1 : (pageOf (setPg B k l) i)[j]? = none := List.getElem?_eq_none (by unfold pageOf; rw [List.length_take]; omega)
    rw [h1]
    by_cases hik : i = k
    · rw [if_pos hik, List.getElem?_eq_none (by omega)]
    · rw [if_neg hik, List.getElem?_eq_none (by unfold pageOf; rw [List.length_take]; omega)]
/-- A page of the memory laid anew. -/
theorem MemAt.lay {tm tp tg base : Nat} {w w2 : World} {m : MemV} (h : MemAt tm tp tg base w m) (h1 : tm ≠ tg) (h2 : tp ≠ tg) {k b : Nat} {l : List UInt8} (hl : l.length = 4096) (hb : m.bs[k]? = some b)
    (hw : Blk w2 b tg (l.map bv)) (ho : ∀ q, q ≠ b → w2.heap[q]? = w.heap[q]?) : MemAt tm tp tg base w2 { m with B := setPg m.B k l } := by
  have hkl : k < m.bs.length := (List.getElem?_eq_some_iff.1 hb).1
  have hk : 4096 * k + 4096 ≤ m.B.length := by rw [h.len]; omega
  have hpg := h.page k b hb
  have hpb : m.p ≠ b := h.own.ne_ hpg h1
  have hrb := own_ne h.row hpg h2
  refine ⟨(ho _ hpb).trans h.own, h.dl, ?_, fun i b' hi => ?_, (setPg_len _ _ _ hl hk).trans h.len, h.apart, h.np, h.most, h.low⟩
  · refine ⟨h.row.1, ?_⟩
    rcases h.row.2 with hn | ⟨g, cap, cur, hv, hg, hh, rest⟩
    · exact .inl hn
    · exact .inr ⟨g, cap, cur, hv, hg, (ho g (fun e => hrb (by rw [hv, e]; rfl))).trans hh, rest⟩
  · show Blk w2 b' tg ((pageOf (setPg m.B k l) i).map bv)
    rw [setPg_page _ _ _ _ hl hk]
    by_cases hik : i = k
    · subst hik
      have hi' : m.bs[i]? = some b' := hi
      rw [hb] at hi'
      injection hi' with hi'
      subst hi'
      rw [if_pos rfl]
      exact hw
    · rw [if_neg hik]
      have hne : b' ≠ b := fun e => hik (by
        subst e
        have hi1 := (List.getElem?_eq_some_iff.1 hi)
        have hi2 := (List.getElem?_eq_some_iff.1 hb)
        exact (List.getElem_inj h.apart).1 (hi1.2.trans hi2.2.symm))
      exact (ho b' hne).trans (h.page i b' hi)
end Go.Proofs.YtndkhlafpcedbaaDoor
namespace Go.Proofs.YtndkhlafpcedbaaDoor
set_option linter.unusedVariables false
open Go.RowKit
/-- The first k pages are laid. -/
structure FrAt (L : List (List UInt8)) (n most p : Nat) (w : World) (k : Nat) (m : MemV) (wr : World) : Prop where
  p : m.p = p
  mo : m.most = most
  bs : m.bs.length = n
  d : m.d = List.replicate 64 false
  pg : ∀ i, i < k → L[i]? = some (pageOf m.B i)
  all : ∀ l ∈ L.take k, l.length = 4096
  at_ : MAt w.heap.size wr m
  bel : Below w.heap.size w wr
def FrRel (L : List (List UInt8)) (n most p : Nat) (w : World) (i : Value) (wr : World) : Prop := ∃ (k : Nat) (m : MemV), k ≤ n ∧ i = .int .i64 k ∧ FrAt L n most p w k m wr
def FrPost (L : List (List UInt8)) (n most : Nat) (w : World) (e : Ending) (w' : World) : Prop :=
  ((∀ l ∈ L, l.length = 4096) ∧ ∃ m : MemV, e = .returned (.tuple #[.pointer (some ⟨m.p, 0, none⟩), .int .i64 0]) ∧ FrAt L n most m.p w n m w') ∨
  (¬ (∀ l ∈ L, l.length = 4096) ∧ e = .returned (.tuple #[.pointer none, .int .i64 1]) ∧ Below w.heap.size w w')
set_option maxRecDepth 100000 in
set_option maxHeartbeats 1000000 in
theorem mem_From (A : Option Addr) (n c B most : Nat) (w : World) (L : List (List UInt8)) (hn : n = L.length) (hle : n ≤ most) (h64 : most ≤ 64) (hl : ∀ l ∈ L, l.length ≤ 140737488351232) (h : PV w B A L) (hB : B ≤ w.heap.size) :
    Calls Tryd.prog 22 #[.slice A n c, .int .i64 most] w (FrPost L n most w) := by
  have Hh := Lib.hid h; clear h
  have Hn := Lib.hid hn; clear hn
  have Hl := Lib.hid hl; clear hl
  go_enter Tryd.func22, Tryd.ntmps22
  go_wp2_with fail
  refine (mem_New n most hle h64 w).mono ?_
  rintro e w1 ⟨m0, rfl, hmo, hbs, hB0, hd, hm, hbel⟩
  have HF0 : Hid (FrAt L n most m0.p w 0 m0 w1) := Lib.hid ⟨rfl, hmo, hbs, hd, fun i hi => by omega, fun l hl => by simp at hl, hm, hbel⟩
  clear hmo hbs hB0 hd hm hbel
  go_wp2_with fail
  go_loopw [22] (fun i wr => FrRel L n most m0.p w i wr) (fun i _ => n - (intOf i).toNat)
  case atStart => exact ⟨0, m0, Nat.zero_le _, rfl, HF0.out⟩
  case round =>
    obtain ⟨k, m, hk, rfl, hfr⟩ := hrel
    have Hfr := Lib.hid hfr; clear hfr
    by_cases hlt : k < n
    · obtain ⟨l, hlk⟩ : ∃ l, L[k]? = some l := ⟨_, List.getElem?_eq_getElem (by rw [← Hn.out]; exact hlt)⟩
      obtain ⟨b, o, A2, c2, rfl, hb, hcell, hrow⟩ := (Hh.out.below Hfr.out.bel hB).at_ k l hlk
      have Hlk := Lib.hid hlk; clear hlk
      have Hrow := Lib.hid hrow; clear hrow
      have hi : (0 : Int) ≤ k := by omega
      by_cases hll : l.length = 4096
      · have hkb : k < m.bs.length := by rw [Hfr.out.bs]; exact hlt
        obtain ⟨g, hA, hpc⟩ := Hfr.out.at_.pg hkb
        unfold ptrV at hpc
        have hc1 : wr.cell? ⟨m0.p, 1, none⟩ = some (.slice (some ⟨g, 0, none⟩) n m.c) := by
          have h1 := Hfr.out.at_.cell1
          rw [Hfr.out.p, hA, Hfr.out.bs] at h1
          exact h1
        have hbk := bsGet m hkb
        have hblk := Hfr.out.at_.page k _ hbk
        have Hbk := Lib.hid hbk; clear hbk
        have hkl : 4096 * k + 4096 ≤ m.B.length := by rw [Hfr.out.at_.len]; omega
        generalize m.bs[k]?.getD 0 = pb at *
        have Hblk := Lib.hid hblk; clear hblk
        have hps : ((pageOf m.B k).map bv).toArray.size = 4096 := by
          simp only [List.size_toArray, List.length_map]
          unfold pageOf
          rw [List.length_take, List.length_drop]; omega
        have Hps := Lib.hid hps; clear hps
        have hsz : w.heap.size ≤ wr.heap.size := Hfr.out.bel.size
        have hpbw : w.heap.size ≤ pb := Hfr.out.at_.low.2 pb (List.mem_of_getElem? Hbk.out)
        have Hsrc : Hid (∀ j v, (l.map bv)[j]? = some v → ∃ b o, A2 = some ⟨b, o, none⟩ ∧ wr.cell? (Addr.add ⟨b, o, none⟩ j) = some v) := Lib.hid (fun j v hv => by
          obtain ⟨b, o, e1, _, e2⟩ := Hrow.out (by have := (List.getElem?_eq_some_iff.1 hv).1; omega)
          exact ⟨b, o, e1, by rw [Addr.add_lit]; exact e2 j v hv⟩)
        obtain ⟨b2, o2, rfl, hsrc0⟩ := Hrow.out (by rw [List.length_map]; omega)
        have Hs2 : Hid (∀ j v, (l.map bv)[j]? = some v → wr.cell? (Addr.add ⟨b2, o2, none⟩ j) = some v) := Lib.hid (fun j v hv => by rw [Addr.add_lit]; exact hsrc0.2 j v hv)
        clear hsrc0 Hsrc hA
        rw [hll] at hcell
        go_wp2_with (show wpList _ _ _ (⟨some 40, _, _, _, _, _⟩ :: _) _ _; refine copy_pageT 108 _ rfl (.tmp 38) (.tmp 39) rfl pb rfl ⟨b2, o2, none⟩ 4096 c2 rfl (Nat.le_refl _) ((pageOf m.B k).map bv).toArray Hblk.out Hps.out l hll Hs2.out ?_; intro w2 h2 h3 h4 h5; have H2 := Lib.hid h2; have H3 := Lib.hid h3; have H4 := Lib.hid h4; clear h2 h3 h4 h5)
        refine ⟨⟨k + 1, { m with B := setPg m.B k l }, by omega, by go_num, ⟨Hfr.out.p, Hfr.out.mo, Hfr.out.bs, Hfr.out.d, fun i hi => ?_, fun l' hl' => ?_, Hfr.out.at_.lay (by decide) (by decide) hll Hbk.out H2.out H4.out, Hfr.out.bel.trans (H3.out _ hpbw)⟩⟩, by simp [intOf]; omega⟩
        · show L[i]? = some (pageOf (setPg m.B k l) i)
          rw [setPg_page _ _ _ _ hll hkl]
          by_cases hik : i = k
          · subst hik; rw [if_pos rfl]; exact Hlk.out
          · rw [if_neg hik]; exact Hfr.out.pg i (by omega)
        · rw [List.take_add_one, Hlk.out] at hl'
          rcases List.mem_append.1 hl' with h1 | h1
          · exact Hfr.out.all l' h1
          · simp at h1; rw [h1]; exact hll
      · have hne : ((l.length : Int) != 4096) = true := by simp; omega
        have hF : ¬ (∀ l ∈ L, l.length = 4096) := fun h => hll (h l (List.mem_of_getElem? Hlk.out))
        have HF := Lib.hid hF; clear hF
        go_wp2_with fail
        go_ret2
        exact .inr ⟨HF.out, rfl, Hfr.out.bel⟩
    · obtain rfl : k = n := by omega
      have Hall : Hid (∀ l ∈ L, l.length = 4096) := Lib.hid (by
        have := Hfr.out.all
        rwa [List.take_of_length_le (by rw [Hn.out]; exact Nat.le_refl _)] at this)
      have Hp : Hid (m.p = m0.p) := Lib.hid Hfr.out.p
      go_wp2_with fail
      go_ret2
      exact .inl ⟨Hall.out, m, by rw [Hp.out]; rfl, by have := Hfr.out; rw [← Hp.out] at this; exact this⟩
end Go.Proofs.YtndkhlafpcedbaaDoor
