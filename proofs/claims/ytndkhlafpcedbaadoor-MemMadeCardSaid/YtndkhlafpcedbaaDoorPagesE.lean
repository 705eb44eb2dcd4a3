/- flagonref00.SparePages. -/
import Derived.Test.YtndkhlafpcedbaaDoorPagesD
import Derived.Deep.RegionHeld3
namespace Go.Proofs.YtndkhlafpcedbaaDoor
set_option linter.unusedVariables false
open Go.RowKit
def SpgRel (n : Nat) (w : World) (lo hi : Nat) (i : Value) (wr : World) : Prop := ∃ k : Nat, (lo ≤ k ∧ k ≤ hi) ∧ i = .int .i64 k ∧ Below w.heap.size w wr
theorem PW.text {lo : Nat} {w : World} {g : Nat} {L : List (List UInt8)} {xs : List Value} {k q : Nat} (h : PW lo w g L xs k) (hq : q < k) (hl : L.length ≤ q) : ∃ b c, w.cell? ⟨g, q, none⟩ = some (.slice (some ⟨b, 0, none⟩) (textS 9 q).size c) ∧ b < w.heap.size ∧
    ∀ W, Below w.heap.size w W → (convert 24 9 (.slice (some ⟨b, 0, none⟩) (textS 9 q).size c)).run Tryd.prog W = .ok (.string (textS 9 q)) W := by
  obtain ⟨b, c, h1, h2, h3, h4, h5⟩ := h.tx q hq hl
  refine ⟨b, c, (h.hdr.cell q).trans h1, h3, fun W hW => ?_⟩
  have hrow : Row W (b + 1) (some ⟨b, 0, none⟩) ((textS 9 q).data.toList.map bv) := fun hn => ⟨b, 0, rfl, Nat.lt_succ_self _, fun j u hu => by rw [Nat.zero_add]; exact (hW.cell (p := ⟨b, j, none⟩) h3).trans (h5 j u hu)⟩
  have h6 := conv_bytes (P := Tryd.prog) 24 5 9 Tryd.underlying24 Tryd.underlying5 Tryd.underlying9 W (b + 1) (some ⟨b, 0, none⟩) (textS 9 q).size c (textS 9 q).data.toList (by simp) hrow
  rw [h6]
theorem PW.spare {lo : Nat} {w : World} {g : Nat} {L : List (List UInt8)} {xs : List Value} {k q : Nat} (h : PW lo w g L xs k) (hq : q < k) {l : List UInt8} (hl : L[q]? = some l) : ∃ b, w.cell? ⟨g, q, none⟩ = some (.slice (some ⟨b, 0, none⟩) l.length (l.length + 64)) ∧ (∀ W, Below w.heap.size w W → l.length ≤ 140737488351232 → Calls Tryd.prog 83 #[.slice (some ⟨b, 0, none⟩) l.length (l.length + 64)] W fun e w' => W = w' ∧ e = .returned (.bool true)) := by
  obtain ⟨b, h1, h2, h3⟩ := h.pg q l hq hl
  refine ⟨b, (h.hdr.cell q).trans h1, fun W hW h47 => ?_⟩
  refine spare_bytes b 0 l.length (l.length + 64) W h47 (Nat.le_refl _) (fun j hj1 hj2 => ?_)
  rw [Nat.zero_add]
  refine (hW.cell (p := ⟨b, j, none⟩) h3.lt).trans ((h3.cell j).trans ?_)
  rw [wide_get l j hj2, if_neg (by omega)]
set_option maxRecDepth 100000 in
set_option maxHeartbeats 1000000 in
theorem spare_pages (g n c lo : Nat) (w : World) (L : List (List UInt8)) (xs : List Value) (hn : n = L.length) (h47 : n ≤ 9000000) (hl : ∀ l ∈ L, l.length ≤ 140737488351232) (hc : n + 64 ≤ c) (h : PW lo w g L xs (n + 64)) (ht : HTab w) :
    Calls Tryd.prog 25 #[.slice (some ⟨g, 0, none⟩) n c] w fun e w' => e = .returned (.bool true) ∧ Below w.heap.size w w' := by
  have Hh := Lib.hid h; clear h
  have Hn := Lib.hid hn; clear hn
  have Hl := Lib.hid hl; clear hl
  have hc2 : (n : Int) + 64 ≤ c := by omega
  have HT : Hid (∀ W, Below w.heap.size w W → HTab W) := Lib.hid (fun W hW => tab_below ht hW (Nat.le_refl _)); clear ht
  go_enter Tryd.func25, Tryd.ntmps25
  go_wp2_with fail
  go_loopw [4] (fun i wr => SpgRel n w n (n + 64) i wr) (fun i _ => n + 64 - (intOf i).toNat)
  case atStart => exact ⟨n, ⟨Nat.le_refl _, by omega⟩, rfl, Below.refl _ _⟩
  case round =>
    obtain ⟨k, ⟨hk0, hk1⟩, rfl, hbel⟩ := hrel
    have Hbel := Lib.hid hbel; clear hbel
    by_cases hlt : k < n + 64
    · have hi : (0 : Int) ≤ k := by omega
      have hi2 : (k : Int) < n + 64 := by omega
      have hsz : w.heap.size ≤ wr.heap.size := Hbel.out.size
      obtain ⟨b, c2, hcell, hb, hcv⟩ := (Hh.out.below Hbel.out).text (q := k) hlt (by rw [← Hn.out]; exact hk0)
      have HC := Lib.hid (fun W (hW : Below w.heap.size w W) => bag_text 9 k (by omega) (by omega) W (HT.out W hW))
      have Hcv := Lib.hid hcv; clear hcv
      have hcv0 := Hcv.out wr (Below.refl _ _)
      have hcv1 := Hcv.out wr.drew ((Below.refl _ _).drew)
      go_wp2_with fail
      clear hcell
      go_region_held3 (fun w' => (convert 24 9 (.slice (some ⟨b, 0, none⟩) (textS 9 k).size c2)).run Tryd.prog w' = .ok (.string (textS 9 k)) w' ∧ Below wr.heap.size wr w')
        (first | exact ⟨hcv0, Below.refl _ _⟩ | exact ⟨hcv1, (Below.refl _ _).drew⟩ | exact ⟨hcv2, hS1⟩)
        (first | (go_at_call 82; refine (HC.out _ (by exact Hbel.out.drew)).mono ?_; rintro e W1 ⟨rfl, hb⟩; have hS1 : Below wr.heap.size wr W1 := ⟨hb.os, hb.tape, hb.output, hb.size, hb.block⟩; have hcv2 := Hcv.out W1 hS1; clear hb))
      have H1 := Lib.hid (Hbel.out.trans (hS1.mono hsz))
      clear hcv0 hcv1 hcv2 hS1
      go_wp2_with fail
      exact ⟨⟨k + 1, ⟨by omega, by omega⟩, by go_num, H1.out⟩, by simp [intOf]; omega⟩
    · obtain hk2 : k = n + 64 := by omega
      have hge : ¬ ((k : Int) < n + 64) := by omega
      clear hk2 hlt
      obtain ⟨wo, hwo⟩ : ∃ wo : World, wo = wr := ⟨_, rfl⟩
      subst hwo
      go_wp2_with fail
      go_loopw [6] (fun i wr => ∃ q : Nat, q ≤ n ∧ i = .int .i64 q ∧ wr = wo) (fun i _ => n - (intOf i).toNat)
      case atStart => exact ⟨0, Nat.zero_le _, rfl, rfl⟩
      case round =>
        obtain ⟨q, hq, rfl, rfl⟩ := hrel
        have hq0 : (0 : Int) ≤ q := by omega
        by_cases hql : q < n
        · obtain ⟨l, hlk⟩ : ∃ l, L[q]? = some l := ⟨_, List.getElem?_eq_getElem (by rw [← Hn.out]; exact hql)⟩
          obtain ⟨b, hcell, hsp⟩ := (Hh.out.below Hbel.out).spare (q := q) (by omega) hlk
          have Hsp := Lib.hid (hsp _ (Below.refl _ _) (Hl.out l (List.mem_of_getElem? hlk))); clear hsp hlk
          have hqc : (q : Int) < n := by omega
          go_wp2_with fail
          refine Hsp.out.mono ?_
          rintro e w' ⟨rfl, rfl⟩
          go_wp2_with fail
          exact ⟨⟨q + 1, by omega, by go_num, trivial⟩, by simp [intOf]; omega⟩
        · obtain rfl : q = n := by omega
          go_wp2_with fail
          go_ret
          exact ⟨rfl, Hbel.out⟩
end Go.Proofs.YtndkhlafpcedbaaDoor
