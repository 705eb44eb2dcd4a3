/- flagonref00.WidePages. -/
import Derived.Test.YtndkhlafpcedbaaDoorPagesC
import Derived.Test.YtndkhlafpcedbaaDoorRefmA
import Derived.Test.YtndkhlafpcedbaaDoorWide
import Derived.Deep.RegionHeld3
namespace Go.Proofs.YtndkhlafpcedbaaDoor
set_option linter.unusedVariables false
open Go.RowKit
/-- A list of lists of bytes with marks behind it and behind each of them: the first k are laid. -/
structure PW (lo : Nat) (w : World) (g : Nat) (L : List (List UInt8)) (xs : List Value) (k : Nat) : Prop where
  len : xs.length = L.length + 64
  hdr : Blk w g 24 xs
  low : lo ≤ g
  pg : ∀ (q : Nat) l, q < k → L[q]? = some l → ∃ b, xs[q]? = some (.slice (some ⟨b, 0, none⟩) l.length (l.length + 64)) ∧ lo ≤ b ∧ Blk w b 5 (l.map bv ++ marksB l.length)
  tx : ∀ (q : Nat), q < k → L.length ≤ q → ∃ b c, xs[q]? = some (.slice (some ⟨b, 0, none⟩) (textS 9 q).size c) ∧ lo ≤ b ∧ b < w.heap.size ∧ b ≠ g ∧ (∀ j v, ((textS 9 q).data.toList.map bv)[j]? = some v → w.cell? ⟨b, j, none⟩ = some v)
theorem PW.below {lo : Nat} {w w' : World} {g : Nat} {L : List (List UInt8)} {xs : List Value} {k : Nat} (h : PW lo w g L xs k) (hb : Below w.heap.size w w') : PW lo w' g L xs k := by
  refine ⟨h.len, (hb.block g h.hdr.lt).trans h.hdr, h.low, fun q l hq hl => ?_, fun q hq hl => ?_⟩
  · obtain ⟨b, h1, h2, h3⟩ := h.pg q l hq hl
    exact ⟨b, h1, h2, (hb.block b h3.lt).trans h3⟩
  · obtain ⟨b, c, h1, h2, h3, h4, h5⟩ := h.tx q hq hl
    exact ⟨b, c, h1, h2, Nat.lt_of_lt_of_le h3 hb.size, h4, fun j v hv => (hb.cell (p := ⟨b, j, none⟩) h3).trans (h5 j v hv)⟩
theorem blk_set_other {w : World} {b : Nat} {t : TypeId} {xs : List Value} (h : Blk w b t xs) (p : Addr) (u : Value) (hne : b ≠ p.block) : Blk (w.setCell p u) b t xs := (Below.heap_setCell _ _ _ _ hne).trans h
theorem cell_set_other {w : World} {p q : Addr} {u v : Value} (h : w.cell? q = some v) (hne : q.block ≠ p.block) : (w.setCell p u).cell? q = some v := by
  have hb := Below.heap_setCell w p u q.block hne
  simp only [World.cell?, hb] at *
  exact h
theorem PW.lay {lo : Nat} {w : World} {g : Nat} {L : List (List UInt8)} {xs : List Value} {k : Nat} (h : PW lo w g L xs k) (hk : k < L.length + 64) (v : Value)
    (hp : ∀ l, L[k]? = some l → ∃ b, v = .slice (some ⟨b, 0, none⟩) l.length (l.length + 64) ∧ lo ≤ b ∧ Blk w b 5 (l.map bv ++ marksB l.length))
    (ht : L.length ≤ k → ∃ b c, v = .slice (some ⟨b, 0, none⟩) (textS 9 k).size c ∧ lo ≤ b ∧ b < w.heap.size ∧ b ≠ g ∧ (∀ j v, ((textS 9 k).data.toList.map bv)[j]? = some v → w.cell? ⟨b, j, none⟩ = some v)) :
    PW lo (w.setCell ⟨g, k, none⟩ v) g L (xs.set k v) (k + 1) := by
  have hkx : k < xs.length := by rw [h.len]; exact hk
  refine ⟨by rw [List.length_set, h.len], h.hdr.set k v, h.low, fun q l hq hl => ?_, fun q hq hl => ?_⟩
  · by_cases hqk : q = k
    · subst hqk
      obtain ⟨b, h1, h2, h3⟩ := hp l hl
      exact ⟨b, by rw [List.getElem?_set_self hkx, h1], h2, blk_set_other h3 _ _ (h3.ne_ h.hdr (by decide))⟩
    · obtain ⟨b, h1, h2, h3⟩ := h.pg q l (by omega) hl
      exact ⟨b, by rw [List.getElem?_set_ne (fun e => hqk e.symm)]; exact h1, h2, blk_set_other h3 _ _ (h3.ne_ h.hdr (by decide))⟩
  · by_cases hqk : q = k
    · subst hqk
      obtain ⟨b, c, h1, h2, h3, h4, h5⟩ := ht hl
      exact ⟨b, c, by rw [List.getElem?_set_self hkx, h1], h2, by simpa [World.setCell] using h3, h4, fun j u hu => cell_set_other (h5 j u hu) h4⟩
    · obtain ⟨b, c, h1, h2, h3, h4, h5⟩ := h.tx q (by omega) hl
      exact ⟨b, c, by rw [List.getElem?_set_ne (fun e => hqk e.symm)]; exact h1, h2, by simpa [World.setCell] using h3, h4, fun j u hu => cell_set_other (h5 j u hu) h4⟩
def WpRel (L : List (List UInt8)) (w : World) (i : Value) (wr : World) : Prop :=
  ∃ (k : Nat) (xs : List Value), k ≤ L.length + 64 ∧ i = .int .i64 k ∧ PW w.heap.size wr w.heap.size L xs k ∧ Below w.heap.size w wr
set_option maxRecDepth 100000 in
set_option maxHeartbeats 1000000 in
theorem wide_pages (A : Option Addr) (n c B : Nat) (w : World) (L : List (List UInt8)) (hn : n = L.length) (h47 : n ≤ 9000000) (hl : ∀ l ∈ L, l.length ≤ 140737488351232) (h : PV w B A L) (hB : B ≤ w.heap.size) (ht : HTab w) :
    Calls Tryd.prog 21 #[.slice A n c] w fun e w' => ∃ g, e = .returned (.slice (some ⟨g, 0, none⟩) n (n + 64)) ∧ (∃ xs, PW w.heap.size w' g L xs (n + 64)) ∧ Below w.heap.size w w' := by
  obtain ⟨i0, hi, hz, hs, hb⟩ := info_parts Tryd.info_bs
  have hmk := fun W => run_make_zeros (P := Tryd.prog) 29 24 i0 (.slice none 0 0) 24 Tryd.underlying29 hi hz rfl hs hb ((n : Int) + 64) (n + 64) (by omega) (by omega) (by omega) W
  clear hi hz hs hb
  have Hh := Lib.hid h; clear h
  have Hn := Lib.hid hn; clear hn
  have Hl := Lib.hid hl; clear hl
  have HB := Lib.hid hB; clear hB
  have HT : Hid (∀ W, Below w.heap.size w W → HTab W) := Lib.hid (fun W hW => tab_below ht hW (Nat.le_refl _)); clear ht
  go_enter Tryd.func21, Tryd.ntmps21
  go_wp2_with fail
  go_loopw [4] (fun i wr => WpRel L w i wr) (fun i _ => n + 64 - (intOf i).toNat)
  case atStart =>
    refine ⟨0, List.replicate (n + 64) (.slice none 0 0), by omega, rfl, ⟨by simp [Hn.out], ?_, Nat.le_refl _, fun q l h => by omega, fun q h => by omega⟩, (Below.refl _ _).alloc (Nat.le_refl _) _⟩
    exact blk_zrow w 24 (.slice none 0 0) (n + 64)
  case round =>
    obtain ⟨k, xs, hk, rfl, hpw, hbel⟩ := hrel
    have Hpw := Lib.hid hpw; clear hpw
    have Hbel := Lib.hid hbel; clear hbel
    rw [← Hn.out] at hk
    by_cases hlt : k < n + 64
    · have hi : (0 : Int) ≤ k := by omega
      have hi2 : (k : Int) < n + 64 := by omega
      have hsz : w.heap.size ≤ wr.heap.size := Hbel.out.size
      by_cases hkn : k < n
      · obtain ⟨l, hlk⟩ : ∃ l, L[k]? = some l := ⟨_, List.getElem?_eq_getElem (by rw [← Hn.out]; exact hkn)⟩
        obtain ⟨b, o, A2, c2, rfl, hb, hcell, hrow⟩ := (Hh.out.below Hbel.out HB.out).at_ k l hlk
        have Hlk := Lib.hid hlk; clear hlk
        have HW := Lib.hid (wide_bytes A2 l.length c2 B wr l rfl (Hl.out l (List.mem_of_getElem? Hlk.out)) hrow (by have := HB.out; omega)); clear hrow
        go_wp2_with fail
        refine HW.out.mono ?_
        rintro e w2 ⟨g2, rfl, hG, hbe, hg2⟩
        have Hpw2 := Lib.hid (Hpw.out.below hbe)
        have HG := Lib.hid hG; clear hG
        have Hbe := Lib.hid hbe; clear hbe
        have hg3 : w.heap.size ≤ g2 := by omega
        clear hg2
        have hx : xs[k]? = some (xs[k]'(by rw [Hpw.out.len, ← Hn.out]; exact hlt)) := List.getElem?_eq_getElem _
        have hcg := (Hpw2.out.hdr.cell k).trans hx
        clear hx
        generalize xs[k]'(by rw [Hpw.out.len, ← Hn.out]; exact hlt) = old at *
        have hfr := Hpw2.out.hdr.frozen k
        go_wp2_with fail
        refine ⟨⟨k + 1, xs.set k (.slice (some ⟨g2, 0, none⟩) l.length (l.length + 64)), by rw [← Hn.out]; omega, by go_num, Hpw2.out.lay (by rw [← Hn.out]; exact hlt) _ (fun l' hl' => ?_) (fun h => by rw [← Hn.out] at h; omega), (Hbel.out.trans (Hbe.out.mono hsz)).setCell (by exact Nat.le_refl _) _⟩, by simp [intOf]; omega⟩
        rw [Hlk.out] at hl'
        injection hl' with hl'
        subst hl'
        exact ⟨g2, rfl, hg3, HG.out⟩
      · have HC := Lib.hid (bag_text 9 k (by omega) (by omega) wr (HT.out wr Hbel.out))
        go_wp2_with fail
        refine HC.out.mono ?_
        rintro e w2 ⟨rfl, hbe⟩
        have hts := textS_size 9 k (by omega) (by omega)
        have hcv := Lib.run_convert_string_bytes (P := Tryd.prog) w2 9 24 5 (textS 9 k) Tryd.underlying9 Tryd.underlying24 Tryd.underlying5
        have hb3 := bytes_below w2 5 (textS 9 k)
        have hbw : Below wr.heap.size wr (Lib.bytesWorld w2 5 (textS 9 k)) := hbe.trans (hb3.mono hbe.size)
        have hg2 : w.heap.size ≤ w2.heap.size := Nat.le_trans hsz hbe.size
        have hlt3 : w2.heap.size < (Lib.bytesWorld w2 5 (textS 9 k)).heap.size := by rw [Lib.bytesWorld_size]; omega
        have hcl : ∀ j v, ((textS 9 k).data.toList.map bv)[j]? = some v → (Lib.bytesWorld w2 5 (textS 9 k)).cell? ⟨w2.heap.size, j, none⟩ = some v := fun j v hv => by
          have hj : j < (textS 9 k).size := by have := (List.getElem?_eq_some_iff.1 hv).1; simpa using this
          rw [Lib.bytesWorld_cell w2 5 _ j hj, ← hv, List.getElem?_map, List.getElem?_eq_getElem (by simpa using hj), List.getD, List.getElem?_eq_getElem (by simpa using hj)]
          rfl
        have Hcl := Lib.hid hcl; clear hcl
        have Hbw := Lib.hid hbw; clear hbw hb3
        obtain ⟨g3, hg3⟩ : ∃ g3, g3 = w2.heap.size := ⟨_, rfl⟩
        have hgl : w.heap.size < w2.heap.size := Nat.lt_of_lt_of_le Hpw.out.hdr.lt hbe.size
        rw [← hg3] at hcv Hcl hg2 hlt3 hgl
        clear hbe hg3
        have Hgl := Lib.hid hgl; clear hgl
        have Hlt3 := Lib.hid hlt3; clear hlt3
        generalize Lib.bytesWorld w2 5 (textS 9 k) = w3 at *
        have Hpw3 := Lib.hid (Hpw.out.below Hbw.out)
        have hx : xs[k]? = some (xs[k]'(by rw [Hpw.out.len, ← Hn.out]; exact hlt)) := List.getElem?_eq_getElem _
        have hcg := (Hpw3.out.hdr.cell k).trans hx
        clear hx
        generalize xs[k]'(by rw [Hpw.out.len, ← Hn.out]; exact hlt) = old at *
        have hfr := Hpw3.out.hdr.frozen k
        go_wp2_with fail
        refine ⟨⟨k + 1, xs.set k (.slice (some ⟨g3, 0, none⟩) (textS 9 k).size _), by rw [← Hn.out]; omega, by go_num, Hpw3.out.lay (by rw [← Hn.out]; exact hlt) _ (fun l' hl' => by have := (List.getElem?_eq_some_iff.1 hl').1; rw [← Hn.out] at this; omega) (fun _ => ⟨g3, _, rfl, hg2, Hlt3.out, by have := Hgl.out; omega, Hcl.out⟩), (Hbel.out.trans (Hbw.out.mono hsz)).setCell (by exact Nat.le_refl _) _⟩, by simp [intOf]; omega⟩
    · have hk2 : Hid (k = n + 64) := Lib.hid (by omega)
      have hge : ¬ ((k : Int) < n + 64) := by omega
      clear hlt
      go_wp2_with fail
      go_ret
      exact ⟨w.heap.size, rfl, ⟨xs, by rw [← hk2.out]; exact Hpw.out⟩, Hbel.out⟩
end Go.Proofs.YtndkhlafpcedbaaDoor
namespace Go.Proofs.YtndkhlafpcedbaaDoor
set_option linter.unusedVariables false
open Go.RowKit
def SpgRel (n : Nat) (w : World) (lo hi : Nat) (i : Value) (wr : World) : Prop := ∃ k : Nat, (lo ≤ k ∧ k ≤ hi) ∧ i = .int .i64 k ∧ Below w.heap.size w wr
theorem PW.text {lo : Nat} {w : World} {g : Nat} {L : List (List UInt8)} {xs : List Value} {k q : Nat} (h : PW lo w g L xs k) (hq : q < k) (hl : L.length ≤ q) : ∃ b c, w.cell? ⟨g, q, none⟩ = some (.slice (some ⟨b, 0, none⟩) (textS 9 q).size c) ∧ b < w.heap.size ∧
    ∀ W, Below w.heap.size w W → (convert 24 9 (.slice (some ⟨b, 0, none⟩) (textS 9 q).size c)).run Tryd.prog W = .ok (.string (textS 9 q)) W := by
  obtain ⟨b, c, h1, h2, h3, h4, h5⟩ := h.tx q hq hl
  refine ⟨b, c, (h.hdr.cell q).trans h1, h3, fun W hW => ?_⟩
  have hrow : Row W (b + 1) (some ⟨b, 0, none⟩) ((textS 9 q).data.toList.map bv) := fun hn => ⟨b, 0, rfl, Nat.lt_succ_self _, fun j u hu => by rw [Nat.zero_add]; exact (hW.cell (p := ⟨b, j, none⟩) h3).trans (h5 j u hu)⟩
  have h6 := conv_bytes (P := Tryd.prog) 24 5 9 Tryd.underlying24 Tryd.underlying5 Tryd.underlying9 W (b + 1) (some ⟨b, 0, none⟩) (textS 9 q).size c (textS 9 q).data.toList (by simp) hrow
  rw [h6]
theorem PW.spare {lo : Nat} {w : World} {g : Nat} {L : List (List UInt8)} {xs : List Value} {k q : Nat} (h : PW lo w g L xs k) (hq : q < k) {l : List UInt8} (hl : L[q]? = some l) : ∃ b, w.cell? ⟨g, q, none⟩ = some (.slice (some ⟨b, 0, none⟩) l.length (l.length + 64)) ∧ (∀ W, Below w.heap.size w W → l.length ≤ 140737488351232 → Calls Tryd.prog 83 #[.slice (some ⟨b, 0, none⟩) l.length (l.length + 64)] W fun e w' => W = w' ∧ e = .returned (.bool true)) := by
  obtain ⟨b, h1, h2, h3⟩ := h.pg q l hq hl
  refine ⟨b, (h.hdr.cell q).trans h1, fun W hW h47 => ?_⟩
  refine spare_bytes b 0 l.length (l.length + 64) W h47 (Nat.le_refl _) (fun j hj1 hj2 => ?_)
  rw [Nat.zero_add]
  refine (hW.cell (p := ⟨b, j, none⟩) h3.lt).trans ((h3.cell j).trans ?_)
  rw [wide_get l j hj2, if_neg (by omega)]
set_option maxRecDepth 100000 in
set_option maxHeartbeats 1000000 in
theorem spare_pages (g n c lo : Nat) (w : World) (L : List (List UInt8)) (xs : List Value) (hn : n = L.length) (h47 : n ≤ 9000000) (hl : ∀ l ∈ L, l.length ≤ 140737488351232) (hc : n + 64 ≤ c) (h : PW lo w g L xs (n + 64)) (ht : HTab w) :
    Calls Tryd.prog 25 #[.slice (some ⟨g, 0, none⟩) n c] w fun e w' => e = .returned (.bool true) ∧ Below w.heap.size w w' := by
  have Hh := Lib.hid h; clear h
  have Hn := Lib.hid hn; clear hn
  have Hl := Lib.hid hl; clear hl
  have hc2 : (n : Int) + 64 ≤ c := by omega
  have HT : Hid (∀ W, Below w.heap.size w W → HTab W) := Lib.hid (fun W hW => tab_below ht hW (Nat.le_refl _)); clear ht
  go_enter Tryd.func25, Tryd.ntmps25
  go_wp2_with fail
  go_loopw [4] (fun i wr => SpgRel n w n (n + 64) i wr) (fun i _ => n + 64 - (intOf i).toNat)
  case atStart => exact ⟨n, ⟨Nat.le_refl _, by omega⟩, rfl, Below.refl _ _⟩
  case round =>
    obtain ⟨k, ⟨hk0, hk1⟩, rfl, hbel⟩ := hrel
    have Hbel := Lib.hid hbel; clear hbel
    by_cases hlt : k < n + 64
    · have hi : (0 : Int) ≤ k := by omega
      have hi2 : (k : Int) < n + 64 := by omega
      have hsz : w.heap.size ≤ wr.heap.size := Hbel.out.size
      obtain ⟨b, c2, hcell, hb, hcv⟩ := (Hh.out.below Hbel.out).text (q := k) hlt (by rw [← Hn.out]; exact hk0)
      have HC := Lib.hid (fun W (hW : Below w.heap.size w W) => bag_text 9 k (by omega) (by omega) W (HT.out W hW))
      have Hcv := Lib.hid hcv; clear hcv
      have hcv0 := Hcv.out wr (Below.refl _ _)
      have hcv1 := Hcv.out wr.drew ((Below.refl _ _).drew)
      go_wp2_with fail
      clear hcell
      go_region_held3 (fun w' => (convert 24 9 (.slice (some ⟨b, 0, none⟩) (textS 9 k).size c2)).run Tryd.prog w' = .ok (.string (textS 9 k)) w' ∧ Below wr.heap.size wr w')
        (first | exact ⟨hcv0, Below.refl _ _⟩ | exact ⟨hcv1, (Below.refl _ _).drew⟩ | exact ⟨hcv2, hS1⟩)
        (first | (go_at_call 82; refine (HC.out _ (by exact Hbel.out.drew)).mono ?_; rintro e W1 ⟨rfl, hb⟩; have hS1 : Below wr.heap.size wr W1 := ⟨hb.os, hb.tape, hb.output, hb.size, hb.block⟩; have hcv2 := Hcv.out W1 hS1; clear hb))
      have H1 := Lib.hid (Hbel.out.trans (hS1.mono hsz))
      clear hcv0 hcv1 hcv2 hS1
      go_wp2_with fail
      exact ⟨⟨k + 1, ⟨by omega, by omega⟩, by go_num, H1.out⟩, by simp [intOf]; omega⟩
    · obtain hk2 : k = n + 64 := by omega
      have hge : ¬ ((k : Int) < n + 64) := by omega
      clear hk2 hlt
      obtain ⟨wo, hwo⟩ : ∃ wo : World, wo = wr := ⟨_, rfl⟩
      subst hwo
      go_wp2_with fail
      go_loopw [6] (fun i wr => ∃ q : Nat, q ≤ n ∧ i = .int .i64 q ∧ wr = wo) (fun i _ => n - (intOf i).toNat)
      case atStart => exact ⟨0, Nat.zero_le _, rfl, rfl⟩
      case round =>
        obtain ⟨q, hq, rfl, rfl⟩ := hrel
        have hq0 : (0 : Int) ≤ q := by omega
        by_cases hql : q < n
        · obtain ⟨l, hlk⟩ : ∃ l, L[q]? = some l := ⟨_, List.getElem?_eq_getElem (by rw [← Hn.out]; exact hql)⟩
          obtain ⟨b, hcell, hsp⟩ := (Hh.out.below Hbel.out).spare (q := q) (by omega) hlk
          have Hsp := Lib.hid (hsp _ (Below.refl _ _) (Hl.out l (List.mem_of_getElem? hlk))); clear hsp hlk
          have hqc : (q : Int) < n := by omega
          go_wp2_with fail
          refine Hsp.out.mono ?_
          rintro e w' ⟨rfl, rfl⟩
          go_wp2_with fail
          exact ⟨⟨q + 1, by omega, by go_num, trivial⟩, by simp [intOf]; omega⟩
        · obtain rfl : q = n := by omega
          go_wp2_with fail
          go_ret
          exact ⟨rfl, Hbel.out⟩
end Go.Proofs.YtndkhlafpcedbaaDoor
