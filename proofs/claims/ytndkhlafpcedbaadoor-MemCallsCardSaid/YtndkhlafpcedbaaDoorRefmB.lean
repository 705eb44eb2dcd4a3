/- The document's memory: Pages. -/
import Derived.Test.YtndkhlafpcedbaaDoorRefmA
import Derived.Laws.CopyOwn
namespace Go.Proofs.YtndkhlafpcedbaaDoor
set_option linter.unusedVariables false
open Go.RowKit
/-- copy of a page's bytes onto a row of the call's own. -/
theorem copy_page (w : World) {ops : Array Oper} {rest : List Oper} {o : Oper} {a : Act} {Q : Exit → Act → World → Prop} (hgd : o.guard = none) (d s : Operand)
    (ho : o.op = .call { callee := .builtin .copy, args := #[d, s], argTypes := #[24, 24] }) (g : Nat) (hd : a.eval d = .slice (some ⟨g, 0, none⟩) 4096 4096) (ad : Addr) (sLen sCap : Nat)
    (hs : a.eval s = .slice (some ad) sLen sCap) (hl : 4096 ≤ sLen) (cur : Array Value) (hg : w.heap[g]? = some (.cells cur 5 (0, 0))) (hcur : cur.size = 4096) (cs : List UInt8) (hcs : cs.length = 4096)
    (hsrc : ∀ j v, (cs.map bv)[j]? = some v → w.cell? (ad.add j) = some v)
    (h : ∀ w2, Blk w2 g 5 (cs.map bv) → (∀ B, B ≤ g → Below B w w2) → (∀ k, k ≠ g → w2.heap[k]? = w.heap[k]?) → w2.heap.size = w.heap.size → wpList Tryd.prog ops Q rest (a.put o.dst (goInt 4096)) w2) : wpList Tryd.prog ops Q (o :: rest) a w := by
  have hc : (cs.map bv).length = 4096 := by rw [List.length_map, hcs]
  refine wpList_copy_own hgd d s 24 24 ho 5 Tryd.underlying24 (by obtain ⟨i0, hi, hz, hs', hb⟩ := info_parts Tryd.info_u8; rw [hi]; simp [hs']) g 0 4096 4096 ad sLen sCap hd hs cur 5 hg (cs.map bv) (by rw [hc]; simp [Nat.min_def]; omega) hsrc (by rw [hc, hcur]; omega) (bv_one cs) ?_
  rw [hc]
  have he : (cur.toList.take 0 ++ (cs.map bv ++ cur.toList.drop (0 + 4096))).toArray = (cs.map bv).toArray := by
    rw [List.take_zero, List.nil_append, List.drop_of_length_le (by simp [hcur]), List.append_nil]
  rw [he]
  have hlt : g < w.heap.size := (Array.getElem?_eq_some_iff.1 hg).1
  refine h _ ?_ (fun B hB => below_setRow (Below.refl B w) hB _) (fun k hk => setRow_other w g k _ hk) (by simp)
  exact setRow_heap w g cur _ _ _ hg
theorem RAt.page {base : Nat} {w : World} {m : RefM} (h : RAt base w m) {k : Nat} (hk : k < m.B.length / 4096) : ∃ g, m.A = some ⟨g, 0, none⟩ ∧ (pageOf m.B k).length = 4096 ∧ ∀ j v, ((pageOf m.B k).map bv)[j]? = some v → w.cell? (Addr.add ⟨g, 4096 * k, none⟩ j) = some v := by
  have hkb : 4096 * k + 4096 ≤ m.B.length := by omega
  have hr := Row.own h.row
  obtain ⟨g, o, hA, _, hcell⟩ := hr (by rw [List.length_map]; omega)
  have ho : o = 0 := by
    rcases h.row.2 with ⟨hv, h0⟩ | ⟨g', cap, cur, hv, _⟩
    · omega
    · rw [hA] at hv; injection hv with h1; injection h1 with h1; injection h1
  subst ho
  refine ⟨g, hA, by unfold pageOf; rw [List.length_take, List.length_drop]; omega, fun j v hv => ?_⟩
  have hj : j < 4096 := by
    have := (List.getElem?_eq_some_iff.1 hv).1
    unfold pageOf at this
    rw [List.length_map, List.length_take] at this
    omega
  rw [Addr.add_lit, ← hcell (4096 * k + j) v (by
    unfold pageOf at hv
    rw [List.map_take, List.map_drop, List.getElem?_take, if_pos hj, List.getElem?_drop] at hv
    exact hv)]
  congr 2
  omega
set_option maxRecDepth 100000 in
set_option maxHeartbeats 1000000 in
theorem ref13_Pages (base : Nat) (m : RefM) (w : World) (hm : RAt base w m) :
    Calls Tryd.prog 29 #[.pointer (some ⟨m.p, 0, none⟩)] w fun e w' => ∃ A c, e = .returned (.slice A (m.B.length / 4096) c) ∧ (∃ gl, PgsAt w.heap.size w' A (m.B.length / 4096) c gl m.B) ∧ Below w.heap.size w w' := by
  have HM := Lib.hid hm; clear hm
  obtain ⟨n, hn⟩ : ∃ n, n = m.B.length / 4096 := ⟨_, rfl⟩
  have hn64 : n ≤ 64 := by obtain ⟨k, h1, h2⟩ := HM.out.len; omega
  have hBn : m.B.length = 4096 * n := by obtain ⟨k, h1, h2⟩ := HM.out.len; omega
  rw [← hn]
  have Hn := Lib.hid hn; clear hn
  have HBn := Lib.hid hBn; clear hBn
  have HSize : Hid (∀ W, Below w.heap.size w W → Calls Tryd.prog 27 #[.pointer (some ⟨m.p, 0, none⟩)] W fun e w' => W = w' ∧ e = .returned (.int .i64 (n : Int))) := Lib.hid (fun W hW => by rw [Hn.out]; exact ref13_Size base m W (HM.out.below hW))
  obtain ⟨i0, hi, hz, hs', hb⟩ := info_parts Tryd.info_u8
  have hmk := fun W => run_make_zeros (P := Tryd.prog) 24 5 i0 (.int .u8 0) 1 Tryd.underlying24 hi hz rfl hs' hb (4096 : Int) 4096 (by omega) (by omega) (by omega) W
  clear hi hz hs' hb
  go_enter Tryd.func29, Tryd.ntmps29
  go_wp2_with fail
  go_loopw [3, 4] (fun l i wr => PgRel2 m.B w n l i wr) (fun _ i _ => n - (intOf i).toNat)
  case atStart => exact ⟨0, none, 0, [], Nat.zero_le _, rfl, rfl, ⟨World.ownsRow_nil _ _ _ _, Made.nil, rfl, fun x hx => by cases hx⟩, Below.refl _ _⟩
  case round =>
    obtain ⟨k, A, c, gl, hk, rfl, rfl, hpg, hbel⟩ := hrel
    have Hpgs := Lib.hid hpg; clear hpg
    have Hbel := Lib.hid hbel; clear hbel
    have hk0 : (0 : Int) ≤ k := by omega
    by_cases hlt : k < n
    · obtain ⟨g, hA, hpl, hsrc⟩ := (HM.out.below Hbel.out).page (k := k) (by rw [← Hn.out]; exact hlt)
      have hc0 : wr.cell? ⟨m.p, 0, none⟩ = some (.slice (some ⟨g, 0, none⟩) (4096 * n) m.c) := by
        have := (HM.out.below Hbel.out).own.cell 0
        rw [← HBn.out, ← hA]
        exact this
      have Hsrc := Lib.hid hsrc; clear hsrc
      have Hpl := Lib.hid hpl; clear hpl
      have hcap : 4096 * n ≤ m.c := by have := (own_cap HM.out.row).2; rw [HBn.out] at this; exact this
      have hsz : w.heap.size ≤ wr.heap.size := Hbel.out.size
      have hgw : g < wr.heap.size := by have := (HM.out.below Hbel.out).row.lt g (by rw [hA]; rfl); exact this.2
      clear hA
      have hpw : m.p < wr.heap.size := (HM.out.below Hbel.out).own.lt
      go_wp2_with fail
      refine (HSize.out _ Hbel.out).mono ?_
      rintro e w' ⟨rfl, rfl⟩
      have hcp : (wr.alloc (.cells (zrow (.int .u8 0) 4096) 5)).cell? ⟨m.p, 0, none⟩ = some (.slice (some ⟨g, 0, none⟩) (4096 * n) m.c) := (((Below.refl wr.heap.size wr).alloc (Nat.le_refl _) _).cell (p := ⟨m.p, 0, none⟩) hpw).trans hc0
      have hcu : (wr.alloc (.cells (zrow (.int .u8 0) 4096) 5)).heap[wr.heap.size]? = some (.cells (zrow (.int .u8 0) 4096) 5 (0, 0)) := by
        have h1 := blk_zrow wr 5 (.int .u8 0) 4096
        unfold Blk at h1
        rw [← zrow_list] at h1
        simpa using h1
      have Hcu := Lib.hid hcu; clear hcu
      have Hs : Hid (∀ j v, ((pageOf m.B k).map bv)[j]? = some v → (wr.alloc (.cells (zrow (.int .u8 0) 4096) 5)).cell? (Addr.add ⟨g, k * 4096, none⟩ j) = some v) := Lib.hid (fun j v hv => by
        have h1 := Hsrc.out j v hv
        rw [Nat.mul_comm] at h1
        rw [Addr.add_lit] at h1 ⊢
        exact (((Below.refl wr.heap.size wr).alloc (Nat.le_refl _) _).cell (p := ⟨g, k * 4096 + j, none⟩) hgw).trans h1)
      have Hown := Lib.hid (Hpgs.out.row.alloc (.cells (zrow (.int .u8 0) 4096) 5))
      have hmade := Hpgs.out.made.ekeep (EKeep.alloc _ wr (.cells (zrow (.int .u8 0) 4096) 5))
      go_wp2_with (first | (show wpList _ _ _ (⟨some 21, _, _, _, _, _⟩ :: _) _ _; refine copy_page _ rfl (.tmp 13) (.tmp 20) rfl wr.heap.size rfl ⟨g, k * 4096, none⟩ _ _ rfl (by omega) (zrow (.int .u8 0) 4096) Hcu.out (by simp [zrow]) (pageOf m.B k) Hpl.out Hs.out ?_; intro w2 h2 h3 h4 h5; have H2 := Lib.hid h2; have H3 := Lib.hid (h3 _ (Nat.le_refl _)); have H4 := Lib.hid h4; have H5 := Lib.hid h5; have Hone := Lib.hid (row_one w2 (.slice (some ⟨wr.heap.size, 0, none⟩) 4096 4096) 24); have Hown2 := Lib.hid (own_below_kept Hpgs.out.row (((Below.refl wr.heap.size wr).alloc (Nat.le_refl _) _).trans H3.out)); clear h2 h3 h4 h5) | (at_builtin; refine app_bss _ rfl (.tmp 22) (.tmp 24) rfl w.heap.size A k c (gl.map fun x => hdV x.1) rfl (Hown2.out.alloc _) (w2.heap.size + 1) _ 1 1 [.slice (some ⟨wr.heap.size, 0, none⟩) 4096 4096] rfl rfl Hone.out (fun u hu => by rw [List.mem_singleton] at hu; subst hu; rfl) (by omega) (by simp; have := H5.out; simp at this; omega) ?_; intro A2 c2 w3 h6 h7; have H6 := Lib.hid h6; have H7 := Lib.hid h7; clear h6 h7))
      have hb2 : Below wr.heap.size wr w2 := ((Below.refl wr.heap.size wr).alloc (Nat.le_refl _) _).trans H3.out
      have hpb : ((pageOf m.B k).map bv).length = 4096 := by rw [List.length_map, Hpl.out]
      have hnew : w2.ownsRow wr.heap.size 5 1 (.slice (some ⟨wr.heap.size, 0, none⟩) 4096 4096) 4096 ((pageOf m.B k).map bv) :=
        ⟨by omega, .inr ⟨wr.heap.size, 4096, ((pageOf m.B k).map bv).toArray, rfl, Nat.le_refl _, H2.out, Nat.le_refl _, by unfold maxLen; omega, by simp only [List.size_toArray]; omega, by rw [List.take_of_length_le (by dsimp only; omega)]⟩⟩
      have hmade := (Hpgs.out.made.add hsz hnew hb2).ekeep ((EKeep.alloc _ w2 (.cells #[.slice (some ⟨wr.heap.size, 0, none⟩) 4096 4096] 24)).trans (EKeep.of_own (Hown2.out.alloc _) H7.out (by decide)))
      have hsz2 : w.heap.size ≤ w2.heap.size := Nat.le_trans hsz hb2.size
      refine ⟨⟨k + 1, A2, c2, gl ++ [((some ⟨wr.heap.size, 0, none⟩, 4096, 4096), (pageOf m.B k).map bv)], by omega, by go_num, rfl, ⟨?_, hmade, ?_, ?_⟩, ((Hbel.out.trans (hb2.mono hsz)).alloc hsz2 _).trans (own_below (Hown2.out.alloc _) H7.out (by simp; omega))⟩, by simp [intOf]; omega⟩
      · have := H6.out
        rw [List.map_append]
        exact this
      · rw [List.map_append, Hpgs.out.told, pgs_succ]
        rfl
      · intro x hx
        rcases List.mem_append.1 hx with hx | hx
        · exact Hpgs.out.len x hx
        · rw [List.mem_singleton] at hx
          subst hx
          rfl
    · obtain rfl : k = n := by omega
      go_wp2_with fail
      refine (HSize.out _ Hbel.out).mono ?_
      rintro e w' ⟨rfl, rfl⟩
      go_wp2_with fail
      go_ret
      exact ⟨A, c, rfl, ⟨gl, Hpgs.out⟩, Hbel.out⟩
end Go.Proofs.YtndkhlafpcedbaaDoor
