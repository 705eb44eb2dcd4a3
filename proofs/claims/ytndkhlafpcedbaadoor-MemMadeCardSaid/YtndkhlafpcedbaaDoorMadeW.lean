/- flagonlaw13.MemMade: the walk, way 00. -/
import Derived.Test.YtndkhlafpcedbaaDoorMadeC
import Derived.Test.YtndkhlafpcedbaaDoorMemW
namespace Go.Proofs.YtndkhlafpcedbaaDoor
set_option linter.unusedVariables false
open Go.RowKit
set_option maxRecDepth 100000 in
set_option maxHeartbeats 4000000 in
theorem law_mm_00 (A : Option Addr) (n c : Nat) (L : List (List UInt8)) (w : World) (hn : n = L.length) (h47 : n ≤ 140737488351232) (hl : ∀ l ∈ L, l.length ≤ 140737488351232) (h : PV w w.heap.size A L) (ht : HTab w)
    (P M : Int) (hbad : newBad P M) (cap : Int) (hbad2 : newBad n cap) :
    Calls Tryd.prog 4 #[.int .i64 P, .int .i64 M, .slice A n c, .int .i64 cap] w fun e w' => e = .returned (.bool true) ∧ Below w.heap.size w w' := by
  have Hh := Lib.hid h; clear h
  have Hhn := Lib.hid hn; clear hn
  have Hhl := Lib.hid hl; clear hl
  have HT : Hid (∀ W, Below w.heap.size w W → HTab W) := Lib.hid (fun W hW => tab_below ht hW (Nat.le_refl _)); clear ht
  have Hbad := Lib.hid hbad; clear hbad
  have Hbad2 := Lib.hid hbad2; clear hbad2
  go_enter Tryd.func4, Tryd.ntmps4
  go_wp2_with fail
  refine (works13 w).mono ?_
  rintro e w1 ⟨rfl, hb1⟩
  have B1 := Lib.hid hb1; clear hb1
  go_wp2_with fail
  refine (size_pages A n c w.heap.size L w1 Hhn.out (Hh.out.below B1.out (Nat.le_refl _)) h47 Hhl.out).mono ?_
  rintro e w' ⟨rfl, sz, rfl, hsz, hsz2⟩
  have Hsz := Lib.hid hsz; clear hsz
  have Hsz2 := Lib.hid hsz2; clear hsz2
  by_cases hbig : 1048576 < sz
  · have hq : (1048576 : Int) < sz := by omega
    go_wp2_with fail
    go_ret
    exact ⟨rfl, B1.out⟩
  have hq : decide ((1048576 : Int) < sz) = false := decide_eq_false (by omega)
  have hn20 : n ≤ 1048576 := by have := Hsz2.out (by omega); rw [← Hhn.out] at this; omega
  clear hbig
  go_wp2_with fail
  refine (mem_New_bad P M Hbad.out w1).mono ?_
  rintro e w' ⟨rfl, rfl⟩
  go_wp2_with fail
  refine (ref13_New_bad P M Hbad.out w1).mono ?_
  rintro e w' ⟨rfl, rfl⟩
  go_wp2_with fail
  refine (wide_pages A n c w.heap.size w1 L Hhn.out (by omega) Hhl.out (Hh.out.below B1.out (Nat.le_refl _)) B1.out.size (HT.out _ B1.out)).mono ?_
  rintro e w2 ⟨g, rfl, ⟨xs, hpw⟩, hbe⟩
  have hlo1 : w.heap.size ≤ w1.heap.size := B1.out.size
  have B2 := Lib.hid (B1.out.trans (hbe.mono B1.out.size))
  clear B1
  have Hpw2 := Lib.hid hpw
  have HPW := Lib.hid hpw
  clear hpw hbe
  go_wp2_with fail
  refine (mem_From_bad _ n _ cap Hbad2.out w2).mono ?_
  rintro e w' ⟨rfl, rfl⟩
  go_wp2_with fail
  refine (ref13_From_bad _ n _ cap Hbad2.out w2).mono ?_
  rintro e w' ⟨rfl, rfl⟩
  go_wp2_with fail
  refine (eq_pages _ A n n _ c _ w.heap.size w2 L L Hhn.out Hhn.out (by omega) Hhl.out (Hpw2.out.pv (by rw [← Hhn.out]; omega)) (Hh.out.below B2.out (Nat.le_refl _)) (Nat.le_refl _) B2.out.size).mono ?_
  rintro e w3 ⟨hbe, rfl⟩
  rw [decide_eq_true rfl]
  have B3 := Lib.hid (B2.out.trans (hbe.mono B2.out.size))
  have Hpw3 := Lib.hid (Hpw2.out.below hbe)
  clear B2 Hpw2
  clear hbe
  go_wp2_with fail
  refine (spare_pages g n (n + 64) _ w3 L xs Hhn.out (by omega) Hhl.out (Nat.le_refl _) Hpw3.out (HT.out _ B3.out)).mono ?_
  rintro e w4 ⟨rfl, hbe⟩
  have B4 := Lib.hid (B3.out.trans (hbe.mono B3.out.size))
  have Hpw4 := Lib.hid (Hpw3.out.below hbe)
  clear B3 Hpw3
  clear hbe
  go_wp2_with fail
  go_ret
  exact ⟨rfl, B4.out⟩
end Go.Proofs.YtndkhlafpcedbaaDoor
namespace Go.Proofs.YtndkhlafpcedbaaDoor
set_option linter.unusedVariables false
open Go.RowKit
set_option maxRecDepth 100000 in
set_option maxHeartbeats 4000000 in
theorem law_mm_01 (A : Option Addr) (n c : Nat) (L : List (List UInt8)) (w : World) (hn : n = L.length) (h47 : n ≤ 140737488351232) (hl : ∀ l ∈ L, l.length ≤ 140737488351232) (h : PV w w.heap.size A L) (ht : HTab w)
    (P M : Int) (hbad : newBad P M) (C1 : Nat) (hC1 : n ≤ C1) (hC2 : C1 ≤ 64) (hall : ¬ (∀ l ∈ L, l.length = 4096)) :
    Calls Tryd.prog 4 #[.int .i64 P, .int .i64 M, .slice A n c, .int .i64 (C1 : Int)] w fun e w' => e = .returned (.bool true) ∧ Below w.heap.size w w' := by
  have Hh := Lib.hid h; clear h
  have Hhn := Lib.hid hn; clear hn
  have Hhl := Lib.hid hl; clear hl
  have HT : Hid (∀ W, Below w.heap.size w W → HTab W) := Lib.hid (fun W hW => tab_below ht hW (Nat.le_refl _)); clear ht
  have Hbad := Lib.hid hbad; clear hbad
  have Hall := Lib.hid hall; clear hall
  go_enter Tryd.func4, Tryd.ntmps4
  go_wp2_with fail
  refine (works13 w).mono ?_
  rintro e w1 ⟨rfl, hb1⟩
  have B1 := Lib.hid hb1; clear hb1
  go_wp2_with fail
  refine (size_pages A n c w.heap.size L w1 Hhn.out (Hh.out.below B1.out (Nat.le_refl _)) h47 Hhl.out).mono ?_
  rintro e w' ⟨rfl, sz, rfl, hsz, hsz2⟩
  have Hsz := Lib.hid hsz; clear hsz
  have Hsz2 := Lib.hid hsz2; clear hsz2
  by_cases hbig : 1048576 < sz
  · have hq : (1048576 : Int) < sz := by omega
    go_wp2_with fail
    go_ret
    exact ⟨rfl, B1.out⟩
  have hq : decide ((1048576 : Int) < sz) = false := decide_eq_false (by omega)
  have hn20 : n ≤ 1048576 := by have := Hsz2.out (by omega); rw [← Hhn.out] at this; omega
  clear hbig
  go_wp2_with fail
  refine (mem_New_bad P M Hbad.out w1).mono ?_
  rintro e w' ⟨rfl, rfl⟩
  go_wp2_with fail
  refine (ref13_New_bad P M Hbad.out w1).mono ?_
  rintro e w' ⟨rfl, rfl⟩
  go_wp2_with fail
  refine (wide_pages A n c w.heap.size w1 L Hhn.out (by omega) Hhl.out (Hh.out.below B1.out (Nat.le_refl _)) B1.out.size (HT.out _ B1.out)).mono ?_
  rintro e w2 ⟨g, rfl, ⟨xs, hpw⟩, hbe⟩
  have hlo1 : w.heap.size ≤ w1.heap.size := B1.out.size
  have B2 := Lib.hid (B1.out.trans (hbe.mono B1.out.size))
  clear B1
  have Hpw2 := Lib.hid hpw
  have HPW := Lib.hid hpw
  clear hpw hbe
  go_wp2_with fail
  refine (mem_From _ n _ w2.heap.size C1 w2 L Hhn.out hC1 hC2 Hhl.out (Hpw2.out.pv (by rw [← Hhn.out]; omega)) (Nat.le_refl _)).mono ?_
  rintro e w3 (⟨hal, _⟩ | ⟨_, rfl, hbe⟩)
  · exact absurd hal Hall.out
  have B3 := Lib.hid (B2.out.trans (hbe.mono B2.out.size))
  have Hpw3 := Lib.hid (Hpw2.out.below hbe)
  clear B2 Hpw2
  clear hbe
  go_wp2_with fail
  refine (ref13_From A n c w.heap.size C1 w3 L Hhn.out hC1 hC2 Hhl.out (Hh.out.below B3.out (Nat.le_refl _)) B3.out.size).mono ?_
  rintro e w4 (⟨hal, _⟩ | ⟨_, rfl, hbe⟩)
  · exact absurd hal Hall.out
  have B4 := Lib.hid (B3.out.trans (hbe.mono B3.out.size))
  have Hpw4 := Lib.hid (Hpw3.out.below hbe)
  clear B3 Hpw3
  clear hbe
  go_wp2_with fail
  refine (eq_pages _ A n n _ c _ w.heap.size w4 L L Hhn.out Hhn.out (by omega) Hhl.out (Hpw4.out.pv (by rw [← Hhn.out]; omega)) (Hh.out.below B4.out (Nat.le_refl _)) (Nat.le_refl _) B4.out.size).mono ?_
  rintro e w5 ⟨hbe, rfl⟩
  rw [decide_eq_true rfl]
  have B5 := Lib.hid (B4.out.trans (hbe.mono B4.out.size))
  have Hpw5 := Lib.hid (Hpw4.out.below hbe)
  clear B4 Hpw4
  clear hbe
  go_wp2_with fail
  refine (spare_pages g n (n + 64) _ w5 L xs Hhn.out (by omega) Hhl.out (Nat.le_refl _) Hpw5.out (HT.out _ B5.out)).mono ?_
  rintro e w6 ⟨rfl, hbe⟩
  have B6 := Lib.hid (B5.out.trans (hbe.mono B5.out.size))
  have Hpw6 := Lib.hid (Hpw5.out.below hbe)
  clear B5 Hpw5
  clear hbe
  go_wp2_with fail
  go_ret
  exact ⟨rfl, B6.out⟩
end Go.Proofs.YtndkhlafpcedbaaDoor
namespace Go.Proofs.YtndkhlafpcedbaaDoor
set_option linter.unusedVariables false
open Go.RowKit
set_option maxRecDepth 100000 in
set_option maxHeartbeats 4000000 in
theorem law_mm_02 (A : Option Addr) (n c : Nat) (L : List (List UInt8)) (w : World) (hn : n = L.length) (h47 : n ≤ 140737488351232) (hl : ∀ l ∈ L, l.length ≤ 140737488351232) (h : PV w w.heap.size A L) (ht : HTab w)
    (P M : Int) (hbad : newBad P M) (C1 : Nat) (hC1 : n ≤ C1) (hC2 : C1 ≤ 64) (hall : ∀ l ∈ L, l.length = 4096) :
    Calls Tryd.prog 4 #[.int .i64 P, .int .i64 M, .slice A n c, .int .i64 (C1 : Int)] w fun e w' => e = .returned (.bool true) ∧ Below w.heap.size w w' := by
  have Hh := Lib.hid h; clear h
  have Hhn := Lib.hid hn; clear hn
  have Hhl := Lib.hid hl; clear hl
  have HT : Hid (∀ W, Below w.heap.size w W → HTab W) := Lib.hid (fun W hW => tab_below ht hW (Nat.le_refl _)); clear ht
  have Hbad := Lib.hid hbad; clear hbad
  have Hall := Lib.hid hall; clear hall
  go_enter Tryd.func4, Tryd.ntmps4
  go_wp2_with fail
  refine (works13 w).mono ?_
  rintro e w1 ⟨rfl, hb1⟩
  have B1 := Lib.hid hb1; clear hb1
  go_wp2_with fail
  refine (size_pages A n c w.heap.size L w1 Hhn.out (Hh.out.below B1.out (Nat.le_refl _)) h47 Hhl.out).mono ?_
  rintro e w' ⟨rfl, sz, rfl, hsz, hsz2⟩
  have Hsz := Lib.hid hsz; clear hsz
  have Hsz2 := Lib.hid hsz2; clear hsz2
  by_cases hbig : 1048576 < sz
  · have hq : (1048576 : Int) < sz := by omega
    go_wp2_with fail
    go_ret
    exact ⟨rfl, B1.out⟩
  have hq : decide ((1048576 : Int) < sz) = false := decide_eq_false (by omega)
  have hn20 : n ≤ 1048576 := by have := Hsz2.out (by omega); rw [← Hhn.out] at this; omega
  clear hbig
  go_wp2_with fail
  refine (mem_New_bad P M Hbad.out w1).mono ?_
  rintro e w' ⟨rfl, rfl⟩
  go_wp2_with fail
  refine (ref13_New_bad P M Hbad.out w1).mono ?_
  rintro e w' ⟨rfl, rfl⟩
  go_wp2_with fail
  refine (wide_pages A n c w.heap.size w1 L Hhn.out (by omega) Hhl.out (Hh.out.below B1.out (Nat.le_refl _)) B1.out.size (HT.out _ B1.out)).mono ?_
  rintro e w2 ⟨g, rfl, ⟨xs, hpw⟩, hbe⟩
  have hlo1 : w.heap.size ≤ w1.heap.size := B1.out.size
  have B2 := Lib.hid (B1.out.trans (hbe.mono B1.out.size))
  clear B1
  have Hpw2 := Lib.hid hpw
  have HPW := Lib.hid hpw
  clear hpw hbe
  go_wp2_with fail
  refine (mem_From _ n _ w2.heap.size C1 w2 L Hhn.out hC1 hC2 Hhl.out (Hpw2.out.pv (by rw [← Hhn.out]; omega)) (Nat.le_refl _)).mono ?_
  rintro e w3 (⟨_, m2, rfl, hfr⟩ | ⟨hno, _⟩)
  case inr => exact absurd Hall.out hno
  have hbe := hfr.bel
  have Hfr := Lib.hid hfr; clear hfr
  have hs45 : w2.heap.size ≤ w3.heap.size := hbe.size
  have B3 := Lib.hid (B2.out.trans (hbe.mono B2.out.size))
  have Hpw3 := Lib.hid (Hpw2.out.below hbe)
  clear B2 Hpw2
  clear hbe
  go_wp2_with fail
  refine (ref13_From A n c w.heap.size C1 w3 L Hhn.out hC1 hC2 Hhl.out (Hh.out.below B3.out (Nat.le_refl _)) B3.out.size).mono ?_
  rintro e w4 (⟨_, r2, rfl, hrf⟩ | ⟨hno, _, _⟩)
  case inr => exact absurd Hall.out hno
  have HQ4 := Lib.hid (Pair.from_ (base := w2.heap.size) Hhn.out Hfr.out hrf Hall.out (Hfr.out.at_.below hrf.bel) (hrf.at_.mono hs45))
  have hbe := hrf.bel
  clear hrf Hfr
  have B4 := Lib.hid (B3.out.trans (hbe.mono B3.out.size))
  have Hpw4 := Lib.hid (Hpw3.out.below hbe)
  clear B3 Hpw3
  clear hbe
  go_wp2_with fail
  refine (eq_pages _ A n n _ c _ w.heap.size w4 L L Hhn.out Hhn.out (by omega) Hhl.out (Hpw4.out.pv (by rw [← Hhn.out]; omega)) (Hh.out.below B4.out (Nat.le_refl _)) (Nat.le_refl _) B4.out.size).mono ?_
  rintro e w5 ⟨hbe, rfl⟩
  rw [decide_eq_true rfl]
  have B5 := Lib.hid (B4.out.trans (hbe.mono B4.out.size))
  have Hpw5 := Lib.hid (Hpw4.out.below hbe)
  have HQ5 := Lib.hid (HQ4.out.below hbe)
  clear B4 Hpw4 HQ4
  clear hbe
  go_wp2_with fail
  refine (spare_pages g n (n + 64) _ w5 L xs Hhn.out (by omega) Hhl.out (Nat.le_refl _) Hpw5.out (HT.out _ B5.out)).mono ?_
  rintro e w6 ⟨rfl, hbe⟩
  have B6 := Lib.hid (B5.out.trans (hbe.mono B5.out.size))
  have Hpw6 := Lib.hid (Hpw5.out.below hbe)
  have HQ6 := Lib.hid (HQ5.out.below hbe)
  clear B5 Hpw5 HQ5
  clear hbe
  go_wp2_with fail
  have HQ := HQ6
  have HS := Lib.hid (S77.start Hpw6.out HPW.out (by rw [← Hhn.out]; omega))
  clear HQ6 Hpw6
  go_loopw [17] (fun i wr => M77 w6 w1.heap.size w2.heap.size g L xs n i wr) (fun i _ => n - (intOf i).toNat)
  case atStart => exact ⟨0, Nat.zero_le _, rfl, HS.out⟩
  case round =>
    obtain ⟨q, hq', rfl, hs⟩ := hrel
    have Hs := Lib.hid hs; clear hs
    by_cases hlt : q < n
    · obtain ⟨l, hl0⟩ : ∃ l, L[q]? = some l := ⟨_, List.getElem?_eq_getElem (by rw [← Hhn.out]; exact hlt)⟩
      have HL := Lib.hid hl0; clear hl0
      obtain ⟨b, hb1, hb2, hb3⟩ := Hs.out.place HL.out
      have Hx := Lib.hid hb1; clear hb1 hb3
      have hll : l.length ≤ 140737488351232 := Hhl.out l (List.mem_of_getElem? HL.out)
      generalize hm : l.length = m at *
      have Hm := Lib.hid hm; clear hm
      obtain ⟨wo, rfl⟩ : ∃ wo : World, wo = wr := ⟨_, rfl⟩
      go_wp2_with fail
      go_loopw [18] (fun i wr => I77 w6 w1.heap.size w2.heap.size g L xs m i wr) (fun i _ => m - (intOf i).toNat)
      case atStart => exact ⟨0, Nat.zero_le _, rfl, Hs.out⟩
      case round =>
        obtain ⟨j, hj, rfl, hs⟩ := hrel
        obtain ⟨b', g1, hc0, g3⟩ := hs.place HL.out
        rw [Hx.out] at g1
        injection g1 with g1
        injection g1 with e1 e2 e3
        injection e1 with e1
        injection e1 with e1
        subst e1
        rw [Hm.out] at hc0
        by_cases hlt2 : j < m
        · obtain ⟨u, hu, hf⟩ := g3 j (by rw [Hm.out]; exact hlt2)
          have Hs2 := Lib.hid hs; clear hs g3
          go_wp2_with fail
          exact ⟨⟨j + 1, by omega, by go_num, Hs2.out.set HL.out (by rw [Hx.out, Hm.out]) j _⟩, by simp [intOf]; omega⟩
        · have Hs2 := Lib.hid hs; clear hs g3
          obtain rfl : m = j := by omega
          go_wp2_with fail
          exact ⟨⟨q + 1, by omega, by go_num, Hs2.out⟩, by simp [intOf]; omega⟩
    · obtain rfl : n = q := by omega
      have HQ7 := Lib.hid (HQ.out.keep fun k hk1 hk2 => Hs.out.kept.block k hk2 (fun hf => by omega))
      have B7 := Lib.hid (B6.out.trans (Hs.out.kept.below (fun b hb => by have := hb.1; omega) B6.out.size))
      obtain ⟨w7, rfl⟩ : ∃ w0 : World, w0 = wr := ⟨_, rfl⟩
      clear Hs B6 HQ
      go_wp2_with fail
      refine (mem_PagesT _ m2 w7 HQ7.out.at_).mono ?_
      rintro e w8 ⟨A1, k1, rfl, ⟨g1, hg1⟩, hbe⟩
      rw [HQ7.out.bs] at hg1 ⊢
      have Hg1 := Lib.hid hg1; clear hg1
      have B8 := Lib.hid (B7.out.trans (hbe.mono B7.out.size))
      have HQ8 := Lib.hid (HQ7.out.below hbe)
      clear B7 HQ7
      clear hbe
      go_wp2_with fail
      refine (ref13_Pages _ r2 w8 HQ8.out.rat).mono ?_
      rintro e w9 ⟨A2, k2, rfl, ⟨g2, hg2⟩, hbe⟩
      rw [HQ8.out.rl, Nat.mul_div_cancel_left n (by omega)] at hg2 ⊢
      have Hg2 := Lib.hid hg2; clear hg2
      have Hbe := Lib.hid hbe
      have B9 := Lib.hid (B8.out.trans (hbe.mono B8.out.size))
      have HQ9 := Lib.hid (HQ8.out.below hbe)
      clear B8 HQ8
      clear hbe
      go_wp2_with fail
      refine (HQ9.out.same (by omega) Hg1.out Hg2.out w9 Hbe.out (Below.refl _ _)).mono ?_
      rintro e w10 ⟨hbe, rfl⟩
      have B10 := Lib.hid (B9.out.trans (hbe.mono B9.out.size))
      have HQ10 := Lib.hid (HQ9.out.below hbe)
      clear B9 HQ9
      clear hbe Hg1 Hg2 Hbe
      go_wp2_with fail
      refine (mem_Dirty _ m2 w10 HQ10.out.at_).mono ?_
      rintro e w11 ⟨A3, k3, rfl, _, hbe⟩
      rw [HQ10.out.d, show dirtyL (List.replicate 64 false) 64 = [] from dirtyL_no 64]
      have B11 := Lib.hid (B10.out.trans (hbe.mono B10.out.size))
      have HQ11 := Lib.hid (HQ10.out.below hbe)
      clear B10 HQ10
      clear hbe
      go_wp2_with fail
      go_ret
      exact ⟨rfl, B11.out⟩
end Go.Proofs.YtndkhlafpcedbaaDoor
namespace Go.Proofs.YtndkhlafpcedbaaDoor
set_option linter.unusedVariables false
open Go.RowKit
set_option maxRecDepth 100000 in
set_option maxHeartbeats 4000000 in
theorem law_mm_10 (A : Option Addr) (n c : Nat) (L : List (List UInt8)) (w : World) (hn : n = L.length) (h47 : n ≤ 140737488351232) (hl : ∀ l ∈ L, l.length ≤ 140737488351232) (h : PV w w.heap.size A L) (ht : HTab w)
    (N M1 : Nat) (hN1 : N ≤ M1) (hM1 : M1 ≤ 64) (cap : Int) (hbad2 : newBad n cap) :
    Calls Tryd.prog 4 #[.int .i64 (N : Int), .int .i64 (M1 : Int), .slice A n c, .int .i64 cap] w fun e w' => e = .returned (.bool true) ∧ Below w.heap.size w w' := by
  have Hh := Lib.hid h; clear h
  have Hhn := Lib.hid hn; clear hn
  have Hhl := Lib.hid hl; clear hl
  have HT : Hid (∀ W, Below w.heap.size w W → HTab W) := Lib.hid (fun W hW => tab_below ht hW (Nat.le_refl _)); clear ht
  have Hbad2 := Lib.hid hbad2; clear hbad2
  go_enter Tryd.func4, Tryd.ntmps4
  go_wp2_with fail
  refine (works13 w).mono ?_
  rintro e w1 ⟨rfl, hb1⟩
  have B1 := Lib.hid hb1; clear hb1
  go_wp2_with fail
  refine (size_pages A n c w.heap.size L w1 Hhn.out (Hh.out.below B1.out (Nat.le_refl _)) h47 Hhl.out).mono ?_
  rintro e w' ⟨rfl, sz, rfl, hsz, hsz2⟩
  have Hsz := Lib.hid hsz; clear hsz
  have Hsz2 := Lib.hid hsz2; clear hsz2
  by_cases hbig : 1048576 < sz
  · have hq : (1048576 : Int) < sz := by omega
    go_wp2_with fail
    go_ret
    exact ⟨rfl, B1.out⟩
  have hq : decide ((1048576 : Int) < sz) = false := decide_eq_false (by omega)
  have hn20 : n ≤ 1048576 := by have := Hsz2.out (by omega); rw [← Hhn.out] at this; omega
  clear hbig
  go_wp2_with fail
  refine (mem_New N M1 hN1 hM1 w1).mono ?_
  rintro e w2 ⟨m, rfl, hmo, hbs, hB, hd, hm, hbe⟩
  have Hm2 := Lib.hid hm
  have Hfm := Lib.hid (show m.bs.length = N ∧ m.B = List.replicate (4096 * N) 0 ∧ m.d = List.replicate 64 false from ⟨hbs, hB, hd⟩)
  have hs12 : w1.heap.size ≤ w2.heap.size := hbe.size
  have B2 := Lib.hid (B1.out.trans (hbe.mono B1.out.size))
  clear B1
  clear hmo hbs hB hd hm hbe
  go_wp2_with fail
  refine (ref13_New N M1 hN1 hM1 w2).mono ?_
  rintro e w3 ⟨r, rfl, hmo, hB, hd, hr, hbe⟩
  have HP3 := Lib.hid (Pair.made (base := w1.heap.size) (most := M1) (Hm2.out.below hbe) (hr.mono hs12) Hfm.out.1 Hfm.out.2.1 hB Hfm.out.2.2)
  have B3 := Lib.hid (B2.out.trans (hbe.mono B2.out.size))
  clear B2
  clear hmo hB hd hr hbe Hm2 Hfm
  go_wp2_with fail
  refine (wide_pages A n c w.heap.size w3 L Hhn.out (by omega) Hhl.out (Hh.out.below B3.out (Nat.le_refl _)) B3.out.size (HT.out _ B3.out)).mono ?_
  rintro e w4 ⟨g, rfl, ⟨xs, hpw⟩, hbe⟩
  have hlo3 : w.heap.size ≤ w3.heap.size := B3.out.size
  have B4 := Lib.hid (B3.out.trans (hbe.mono B3.out.size))
  have HP4 := Lib.hid (HP3.out.below hbe)
  clear B3 HP3
  have Hpw4 := Lib.hid hpw
  have HPW := Lib.hid hpw
  clear hpw hbe
  go_wp2_with fail
  refine (mem_From_bad _ n _ cap Hbad2.out w4).mono ?_
  rintro e w' ⟨rfl, rfl⟩
  go_wp2_with fail
  refine (ref13_From_bad _ n _ cap Hbad2.out w4).mono ?_
  rintro e w' ⟨rfl, rfl⟩
  go_wp2_with fail
  refine (eq_pages _ A n n _ c _ w.heap.size w4 L L Hhn.out Hhn.out (by omega) Hhl.out (Hpw4.out.pv (by rw [← Hhn.out]; omega)) (Hh.out.below B4.out (Nat.le_refl _)) (Nat.le_refl _) B4.out.size).mono ?_
  rintro e w5 ⟨hbe, rfl⟩
  rw [decide_eq_true rfl]
  have B5 := Lib.hid (B4.out.trans (hbe.mono B4.out.size))
  have HP5 := Lib.hid (HP4.out.below hbe)
  have Hpw5 := Lib.hid (Hpw4.out.below hbe)
  clear B4 HP4 Hpw4
  clear hbe
  go_wp2_with fail
  refine (spare_pages g n (n + 64) _ w5 L xs Hhn.out (by omega) Hhl.out (Nat.le_refl _) Hpw5.out (HT.out _ B5.out)).mono ?_
  rintro e w6 ⟨rfl, hbe⟩
  have B6 := Lib.hid (B5.out.trans (hbe.mono B5.out.size))
  have HP6 := Lib.hid (HP5.out.below hbe)
  have Hpw6 := Lib.hid (Hpw5.out.below hbe)
  clear B5 HP5 Hpw5
  clear hbe
  go_wp2_with fail
  refine (mem_Size _ m w6 HP6.out.at_).mono ?_
  rintro e w' ⟨rfl, rfl⟩
  rw [HP6.out.bs]
  go_wp2_with fail
  refine (ref13_Size _ r w6 HP6.out.rat).mono ?_
  rintro e w' ⟨rfl, rfl⟩
  rw [HP6.out.rl, Nat.mul_div_cancel_left N (by omega)]
  go_wp2_with fail
  refine (mem_PagesT _ m w6 HP6.out.at_).mono ?_
  rintro e w7 ⟨A1, k1, rfl, ⟨g1, hg1⟩, hbe⟩
  rw [HP6.out.bs] at hg1 ⊢
  have Hg1 := Lib.hid hg1; clear hg1
  have B7 := Lib.hid (B6.out.trans (hbe.mono B6.out.size))
  have HP7 := Lib.hid (HP6.out.below hbe)
  have Hpw7 := Lib.hid (Hpw6.out.below hbe)
  clear B6 HP6 Hpw6
  clear hbe
  go_wp2_with fail
  refine (ref13_Pages _ r w7 HP7.out.rat).mono ?_
  rintro e w8 ⟨A2, k2, rfl, ⟨g2, hg2⟩, hbe⟩
  rw [HP7.out.rl, Nat.mul_div_cancel_left N (by omega)] at hg2 ⊢
  have Hg2 := Lib.hid hg2; clear hg2
  have Hbe := Lib.hid hbe
  have B8 := Lib.hid (B7.out.trans (hbe.mono B7.out.size))
  have HP8 := Lib.hid (HP7.out.below hbe)
  have Hpw8 := Lib.hid (Hpw7.out.below hbe)
  clear B7 HP7 Hpw7
  clear hbe
  go_wp2_with fail
  refine (HP8.out.same (by omega) Hg1.out Hg2.out w8 Hbe.out (Below.refl _ _)).mono ?_
  rintro e w9 ⟨hbe, rfl⟩
  have B9 := Lib.hid (B8.out.trans (hbe.mono B8.out.size))
  have HP9 := Lib.hid (HP8.out.below hbe)
  have Hpw9 := Lib.hid (Hpw8.out.below hbe)
  clear B8 HP8 Hpw8
  clear hbe Hg1 Hg2 Hbe
  go_wp2_with fail
  refine (mem_Dirty _ m w9 HP9.out.at_).mono ?_
  rintro e w10 ⟨A3, k3, rfl, _, hbe⟩
  rw [HP9.out.d, show dirtyL (List.replicate 64 false) 64 = [] from dirtyL_no 64]
  have B10 := Lib.hid (B9.out.trans (hbe.mono B9.out.size))
  have HP10 := Lib.hid (HP9.out.below hbe)
  have Hpw10 := Lib.hid (Hpw9.out.below hbe)
  clear B9 HP9 Hpw9
  clear hbe
  go_wp2_with fail
  go_ret
  exact ⟨rfl, B10.out⟩
end Go.Proofs.YtndkhlafpcedbaaDoor
namespace Go.Proofs.YtndkhlafpcedbaaDoor
set_option linter.unusedVariables false
open Go.RowKit
set_option maxRecDepth 100000 in
set_option maxHeartbeats 4000000 in
theorem law_mm_11 (A : Option Addr) (n c : Nat) (L : List (List UInt8)) (w : World) (hn : n = L.length) (h47 : n ≤ 140737488351232) (hl : ∀ l ∈ L, l.length ≤ 140737488351232) (h : PV w w.heap.size A L) (ht : HTab w)
    (N M1 : Nat) (hN1 : N ≤ M1) (hM1 : M1 ≤ 64) (C1 : Nat) (hC1 : n ≤ C1) (hC2 : C1 ≤ 64) (hall : ¬ (∀ l ∈ L, l.length = 4096)) :
    Calls Tryd.prog 4 #[.int .i64 (N : Int), .int .i64 (M1 : Int), .slice A n c, .int .i64 (C1 : Int)] w fun e w' => e = .returned (.bool true) ∧ Below w.heap.size w w' := by
  have Hh := Lib.hid h; clear h
  have Hhn := Lib.hid hn; clear hn
  have Hhl := Lib.hid hl; clear hl
  have HT : Hid (∀ W, Below w.heap.size w W → HTab W) := Lib.hid (fun W hW => tab_below ht hW (Nat.le_refl _)); clear ht
  have Hall := Lib.hid hall; clear hall
  go_enter Tryd.func4, Tryd.ntmps4
  go_wp2_with fail
  refine (works13 w).mono ?_
  rintro e w1 ⟨rfl, hb1⟩
  have B1 := Lib.hid hb1; clear hb1
  go_wp2_with fail
  refine (size_pages A n c w.heap.size L w1 Hhn.out (Hh.out.below B1.out (Nat.le_refl _)) h47 Hhl.out).mono ?_
  rintro e w' ⟨rfl, sz, rfl, hsz, hsz2⟩
  have Hsz := Lib.hid hsz; clear hsz
  have Hsz2 := Lib.hid hsz2; clear hsz2
  by_cases hbig : 1048576 < sz
  · have hq : (1048576 : Int) < sz := by omega
    go_wp2_with fail
    go_ret
    exact ⟨rfl, B1.out⟩
  have hq : decide ((1048576 : Int) < sz) = false := decide_eq_false (by omega)
  have hn20 : n ≤ 1048576 := by have := Hsz2.out (by omega); rw [← Hhn.out] at this; omega
  clear hbig
  go_wp2_with fail
  refine (mem_New N M1 hN1 hM1 w1).mono ?_
  rintro e w2 ⟨m, rfl, hmo, hbs, hB, hd, hm, hbe⟩
  have Hm2 := Lib.hid hm
  have Hfm := Lib.hid (show m.bs.length = N ∧ m.B = List.replicate (4096 * N) 0 ∧ m.d = List.replicate 64 false from ⟨hbs, hB, hd⟩)
  have hs12 : w1.heap.size ≤ w2.heap.size := hbe.size
  have B2 := Lib.hid (B1.out.trans (hbe.mono B1.out.size))
  clear B1
  clear hmo hbs hB hd hm hbe
  go_wp2_with fail
  refine (ref13_New N M1 hN1 hM1 w2).mono ?_
  rintro e w3 ⟨r, rfl, hmo, hB, hd, hr, hbe⟩
  have HP3 := Lib.hid (Pair.made (base := w1.heap.size) (most := M1) (Hm2.out.below hbe) (hr.mono hs12) Hfm.out.1 Hfm.out.2.1 hB Hfm.out.2.2)
  have B3 := Lib.hid (B2.out.trans (hbe.mono B2.out.size))
  clear B2
  clear hmo hB hd hr hbe Hm2 Hfm
  go_wp2_with fail
  refine (wide_pages A n c w.heap.size w3 L Hhn.out (by omega) Hhl.out (Hh.out.below B3.out (Nat.le_refl _)) B3.out.size (HT.out _ B3.out)).mono ?_
  rintro e w4 ⟨g, rfl, ⟨xs, hpw⟩, hbe⟩
  have hlo3 : w.heap.size ≤ w3.heap.size := B3.out.size
  have B4 := Lib.hid (B3.out.trans (hbe.mono B3.out.size))
  have HP4 := Lib.hid (HP3.out.below hbe)
  clear B3 HP3
  have Hpw4 := Lib.hid hpw
  have HPW := Lib.hid hpw
  clear hpw hbe
  go_wp2_with fail
  refine (mem_From _ n _ w4.heap.size C1 w4 L Hhn.out hC1 hC2 Hhl.out (Hpw4.out.pv (by rw [← Hhn.out]; omega)) (Nat.le_refl _)).mono ?_
  rintro e w5 (⟨hal, _⟩ | ⟨_, rfl, hbe⟩)
  · exact absurd hal Hall.out
  have B5 := Lib.hid (B4.out.trans (hbe.mono B4.out.size))
  have HP5 := Lib.hid (HP4.out.below hbe)
  have Hpw5 := Lib.hid (Hpw4.out.below hbe)
  clear B4 HP4 Hpw4
  clear hbe
  go_wp2_with fail
  refine (ref13_From A n c w.heap.size C1 w5 L Hhn.out hC1 hC2 Hhl.out (Hh.out.below B5.out (Nat.le_refl _)) B5.out.size).mono ?_
  rintro e w6 (⟨hal, _⟩ | ⟨_, rfl, hbe⟩)
  · exact absurd hal Hall.out
  have B6 := Lib.hid (B5.out.trans (hbe.mono B5.out.size))
  have HP6 := Lib.hid (HP5.out.below hbe)
  have Hpw6 := Lib.hid (Hpw5.out.below hbe)
  clear B5 HP5 Hpw5
  clear hbe
  go_wp2_with fail
  refine (eq_pages _ A n n _ c _ w.heap.size w6 L L Hhn.out Hhn.out (by omega) Hhl.out (Hpw6.out.pv (by rw [← Hhn.out]; omega)) (Hh.out.below B6.out (Nat.le_refl _)) (Nat.le_refl _) B6.out.size).mono ?_
  rintro e w7 ⟨hbe, rfl⟩
  rw [decide_eq_true rfl]
  have B7 := Lib.hid (B6.out.trans (hbe.mono B6.out.size))
  have HP7 := Lib.hid (HP6.out.below hbe)
  have Hpw7 := Lib.hid (Hpw6.out.below hbe)
  clear B6 HP6 Hpw6
  clear hbe
  go_wp2_with fail
  refine (spare_pages g n (n + 64) _ w7 L xs Hhn.out (by omega) Hhl.out (Nat.le_refl _) Hpw7.out (HT.out _ B7.out)).mono ?_
  rintro e w8 ⟨rfl, hbe⟩
  have B8 := Lib.hid (B7.out.trans (hbe.mono B7.out.size))
  have HP8 := Lib.hid (HP7.out.below hbe)
  have Hpw8 := Lib.hid (Hpw7.out.below hbe)
  clear B7 HP7 Hpw7
  clear hbe
  go_wp2_with fail
  refine (mem_Size _ m w8 HP8.out.at_).mono ?_
  rintro e w' ⟨rfl, rfl⟩
  rw [HP8.out.bs]
  go_wp2_with fail
  refine (ref13_Size _ r w8 HP8.out.rat).mono ?_
  rintro e w' ⟨rfl, rfl⟩
  rw [HP8.out.rl, Nat.mul_div_cancel_left N (by omega)]
  go_wp2_with fail
  refine (mem_PagesT _ m w8 HP8.out.at_).mono ?_
  rintro e w9 ⟨A1, k1, rfl, ⟨g1, hg1⟩, hbe⟩
  rw [HP8.out.bs] at hg1 ⊢
  have Hg1 := Lib.hid hg1; clear hg1
  have B9 := Lib.hid (B8.out.trans (hbe.mono B8.out.size))
  have HP9 := Lib.hid (HP8.out.below hbe)
  have Hpw9 := Lib.hid (Hpw8.out.below hbe)
  clear B8 HP8 Hpw8
  clear hbe
  go_wp2_with fail
  refine (ref13_Pages _ r w9 HP9.out.rat).mono ?_
  rintro e w10 ⟨A2, k2, rfl, ⟨g2, hg2⟩, hbe⟩
  rw [HP9.out.rl, Nat.mul_div_cancel_left N (by omega)] at hg2 ⊢
  have Hg2 := Lib.hid hg2; clear hg2
  have Hbe := Lib.hid hbe
  have B10 := Lib.hid (B9.out.trans (hbe.mono B9.out.size))
  have HP10 := Lib.hid (HP9.out.below hbe)
  have Hpw10 := Lib.hid (Hpw9.out.below hbe)
  clear B9 HP9 Hpw9
  clear hbe
  go_wp2_with fail
  refine (HP10.out.same (by omega) Hg1.out Hg2.out w10 Hbe.out (Below.refl _ _)).mono ?_
  rintro e w11 ⟨hbe, rfl⟩
  have B11 := Lib.hid (B10.out.trans (hbe.mono B10.out.size))
  have HP11 := Lib.hid (HP10.out.below hbe)
  have Hpw11 := Lib.hid (Hpw10.out.below hbe)
  clear B10 HP10 Hpw10
  clear hbe Hg1 Hg2 Hbe
  go_wp2_with fail
  refine (mem_Dirty _ m w11 HP11.out.at_).mono ?_
  rintro e w12 ⟨A3, k3, rfl, _, hbe⟩
  rw [HP11.out.d, show dirtyL (List.replicate 64 false) 64 = [] from dirtyL_no 64]
  have B12 := Lib.hid (B11.out.trans (hbe.mono B11.out.size))
  have HP12 := Lib.hid (HP11.out.below hbe)
  have Hpw12 := Lib.hid (Hpw11.out.below hbe)
  clear B11 HP11 Hpw11
  clear hbe
  go_wp2_with fail
  go_ret
  exact ⟨rfl, B12.out⟩
end Go.Proofs.YtndkhlafpcedbaaDoor
namespace Go.Proofs.YtndkhlafpcedbaaDoor
set_option linter.unusedVariables false
open Go.RowKit
set_option maxRecDepth 100000 in
set_option maxHeartbeats 4000000 in
theorem law_mm_12 (A : Option Addr) (n c : Nat) (L : List (List UInt8)) (w : World) (hn : n = L.length) (h47 : n ≤ 140737488351232) (hl : ∀ l ∈ L, l.length ≤ 140737488351232) (h : PV w w.heap.size A L) (ht : HTab w)
    (N M1 : Nat) (hN1 : N ≤ M1) (hM1 : M1 ≤ 64) (C1 : Nat) (hC1 : n ≤ C1) (hC2 : C1 ≤ 64) (hall : ∀ l ∈ L, l.length = 4096) :
    Calls Tryd.prog 4 #[.int .i64 (N : Int), .int .i64 (M1 : Int), .slice A n c, .int .i64 (C1 : Int)] w fun e w' => e = .returned (.bool true) ∧ Below w.heap.size w w' := by
  have Hh := Lib.hid h; clear h
  have Hhn := Lib.hid hn; clear hn
  have Hhl := Lib.hid hl; clear hl
  have HT : Hid (∀ W, Below w.heap.size w W → HTab W) := Lib.hid (fun W hW => tab_below ht hW (Nat.le_refl _)); clear ht
  have Hall := Lib.hid hall; clear hall
  go_enter Tryd.func4, Tryd.ntmps4
  go_wp2_with fail
  refine (works13 w).mono ?_
  rintro e w1 ⟨rfl, hb1⟩
  have B1 := Lib.hid hb1; clear hb1
  go_wp2_with fail
  refine (size_pages A n c w.heap.size L w1 Hhn.out (Hh.out.below B1.out (Nat.le_refl _)) h47 Hhl.out).mono ?_
  rintro e w' ⟨rfl, sz, rfl, hsz, hsz2⟩
  have Hsz := Lib.hid hsz; clear hsz
  have Hsz2 := Lib.hid hsz2; clear hsz2
  by_cases hbig : 1048576 < sz
  · have hq : (1048576 : Int) < sz := by omega
    go_wp2_with fail
    go_ret
    exact ⟨rfl, B1.out⟩
  have hq : decide ((1048576 : Int) < sz) = false := decide_eq_false (by omega)
  have hn20 : n ≤ 1048576 := by have := Hsz2.out (by omega); rw [← Hhn.out] at this; omega
  clear hbig
  go_wp2_with fail
  refine (mem_New N M1 hN1 hM1 w1).mono ?_
  rintro e w2 ⟨m, rfl, hmo, hbs, hB, hd, hm, hbe⟩
  have Hm2 := Lib.hid hm
  have Hfm := Lib.hid (show m.bs.length = N ∧ m.B = List.replicate (4096 * N) 0 ∧ m.d = List.replicate 64 false from ⟨hbs, hB, hd⟩)
  have hs12 : w1.heap.size ≤ w2.heap.size := hbe.size
  have B2 := Lib.hid (B1.out.trans (hbe.mono B1.out.size))
  clear B1
  clear hmo hbs hB hd hm hbe
  go_wp2_with fail
  refine (ref13_New N M1 hN1 hM1 w2).mono ?_
  rintro e w3 ⟨r, rfl, hmo, hB, hd, hr, hbe⟩
  have HP3 := Lib.hid (Pair.made (base := w1.heap.size) (most := M1) (Hm2.out.below hbe) (hr.mono hs12) Hfm.out.1 Hfm.out.2.1 hB Hfm.out.2.2)
  have B3 := Lib.hid (B2.out.trans (hbe.mono B2.out.size))
  clear B2
  clear hmo hB hd hr hbe Hm2 Hfm
  go_wp2_with fail
  refine (wide_pages A n c w.heap.size w3 L Hhn.out (by omega) Hhl.out (Hh.out.below B3.out (Nat.le_refl _)) B3.out.size (HT.out _ B3.out)).mono ?_
  rintro e w4 ⟨g, rfl, ⟨xs, hpw⟩, hbe⟩
  have hlo3 : w.heap.size ≤ w3.heap.size := B3.out.size
  have B4 := Lib.hid (B3.out.trans (hbe.mono B3.out.size))
  have HP4 := Lib.hid (HP3.out.below hbe)
  clear B3 HP3
  have Hpw4 := Lib.hid hpw
  have HPW := Lib.hid hpw
  clear hpw hbe
  go_wp2_with fail
  refine (mem_From _ n _ w4.heap.size C1 w4 L Hhn.out hC1 hC2 Hhl.out (Hpw4.out.pv (by rw [← Hhn.out]; omega)) (Nat.le_refl _)).mono ?_
  rintro e w5 (⟨_, m2, rfl, hfr⟩ | ⟨hno, _⟩)
  case inr => exact absurd Hall.out hno
  have hbe := hfr.bel
  have Hfr := Lib.hid hfr; clear hfr
  have hs45 : w4.heap.size ≤ w5.heap.size := hbe.size
  have B5 := Lib.hid (B4.out.trans (hbe.mono B4.out.size))
  have HP5 := Lib.hid (HP4.out.below hbe)
  have Hpw5 := Lib.hid (Hpw4.out.below hbe)
  clear B4 HP4 Hpw4
  clear hbe
  go_wp2_with fail
  refine (ref13_From A n c w.heap.size C1 w5 L Hhn.out hC1 hC2 Hhl.out (Hh.out.below B5.out (Nat.le_refl _)) B5.out.size).mono ?_
  rintro e w6 (⟨_, r2, rfl, hrf⟩ | ⟨hno, _, _⟩)
  case inr => exact absurd Hall.out hno
  have HQ6 := Lib.hid (Pair.from_ (base := w4.heap.size) Hhn.out Hfr.out hrf Hall.out (Hfr.out.at_.below hrf.bel) (hrf.at_.mono hs45))
  have hbe := hrf.bel
  clear hrf Hfr
  have B6 := Lib.hid (B5.out.trans (hbe.mono B5.out.size))
  have HP6 := Lib.hid (HP5.out.below hbe)
  have Hpw6 := Lib.hid (Hpw5.out.below hbe)
  clear B5 HP5 Hpw5
  clear hbe
  go_wp2_with fail
  refine (eq_pages _ A n n _ c _ w.heap.size w6 L L Hhn.out Hhn.out (by omega) Hhl.out (Hpw6.out.pv (by rw [← Hhn.out]; omega)) (Hh.out.below B6.out (Nat.le_refl _)) (Nat.le_refl _) B6.out.size).mono ?_
  rintro e w7 ⟨hbe, rfl⟩
  rw [decide_eq_true rfl]
  have B7 := Lib.hid (B6.out.trans (hbe.mono B6.out.size))
  have HP7 := Lib.hid (HP6.out.below hbe)
  have Hpw7 := Lib.hid (Hpw6.out.below hbe)
  have HQ7 := Lib.hid (HQ6.out.below hbe)
  clear B6 HP6 Hpw6 HQ6
  clear hbe
  go_wp2_with fail
  refine (spare_pages g n (n + 64) _ w7 L xs Hhn.out (by omega) Hhl.out (Nat.le_refl _) Hpw7.out (HT.out _ B7.out)).mono ?_
  rintro e w8 ⟨rfl, hbe⟩
  have B8 := Lib.hid (B7.out.trans (hbe.mono B7.out.size))
  have HP8 := Lib.hid (HP7.out.below hbe)
  have Hpw8 := Lib.hid (Hpw7.out.below hbe)
  have HQ8 := Lib.hid (HQ7.out.below hbe)
  clear B7 HP7 Hpw7 HQ7
  clear hbe
  go_wp2_with fail
  refine (mem_Size _ m w8 HP8.out.at_).mono ?_
  rintro e w' ⟨rfl, rfl⟩
  rw [HP8.out.bs]
  go_wp2_with fail
  refine (ref13_Size _ r w8 HP8.out.rat).mono ?_
  rintro e w' ⟨rfl, rfl⟩
  rw [HP8.out.rl, Nat.mul_div_cancel_left N (by omega)]
  go_wp2_with fail
  refine (mem_PagesT _ m w8 HP8.out.at_).mono ?_
  rintro e w9 ⟨A1, k1, rfl, ⟨g1, hg1⟩, hbe⟩
  rw [HP8.out.bs] at hg1 ⊢
  have Hg1 := Lib.hid hg1; clear hg1
  have B9 := Lib.hid (B8.out.trans (hbe.mono B8.out.size))
  have HP9 := Lib.hid (HP8.out.below hbe)
  have Hpw9 := Lib.hid (Hpw8.out.below hbe)
  have HQ9 := Lib.hid (HQ8.out.below hbe)
  clear B8 HP8 Hpw8 HQ8
  clear hbe
  go_wp2_with fail
  refine (ref13_Pages _ r w9 HP9.out.rat).mono ?_
  rintro e w10 ⟨A2, k2, rfl, ⟨g2, hg2⟩, hbe⟩
  rw [HP9.out.rl, Nat.mul_div_cancel_left N (by omega)] at hg2 ⊢
  have Hg2 := Lib.hid hg2; clear hg2
  have Hbe := Lib.hid hbe
  have B10 := Lib.hid (B9.out.trans (hbe.mono B9.out.size))
  have HP10 := Lib.hid (HP9.out.below hbe)
  have Hpw10 := Lib.hid (Hpw9.out.below hbe)
  have HQ10 := Lib.hid (HQ9.out.below hbe)
  clear B9 HP9 Hpw9 HQ9
  clear hbe
  go_wp2_with fail
  refine (HP10.out.same (by omega) Hg1.out Hg2.out w10 Hbe.out (Below.refl _ _)).mono ?_
  rintro e w11 ⟨hbe, rfl⟩
  have B11 := Lib.hid (B10.out.trans (hbe.mono B10.out.size))
  have HP11 := Lib.hid (HP10.out.below hbe)
  have Hpw11 := Lib.hid (Hpw10.out.below hbe)
  have HQ11 := Lib.hid (HQ10.out.below hbe)
  clear B10 HP10 Hpw10 HQ10
  clear hbe Hg1 Hg2 Hbe
  go_wp2_with fail
  refine (mem_Dirty _ m w11 HP11.out.at_).mono ?_
  rintro e w12 ⟨A3, k3, rfl, _, hbe⟩
  rw [HP11.out.d, show dirtyL (List.replicate 64 false) 64 = [] from dirtyL_no 64]
  have B12 := Lib.hid (B11.out.trans (hbe.mono B11.out.size))
  have HP12 := Lib.hid (HP11.out.below hbe)
  have Hpw12 := Lib.hid (Hpw11.out.below hbe)
  have HQ12 := Lib.hid (HQ11.out.below hbe)
  clear B11 HP11 Hpw11 HQ11
  clear hbe
  go_wp2_with fail
  clear HP12
  have HQ := HQ12
  have HS := Lib.hid (S77.start Hpw12.out HPW.out (by rw [← Hhn.out]; omega))
  clear HQ12 Hpw12
  go_loopw [17] (fun i wr => M77 w12 w3.heap.size w4.heap.size g L xs n i wr) (fun i _ => n - (intOf i).toNat)
  case atStart => exact ⟨0, Nat.zero_le _, rfl, HS.out⟩
  case round =>
    obtain ⟨q, hq', rfl, hs⟩ := hrel
    have Hs := Lib.hid hs; clear hs
    by_cases hlt : q < n
    · obtain ⟨l, hl0⟩ : ∃ l, L[q]? = some l := ⟨_, List.getElem?_eq_getElem (by rw [← Hhn.out]; exact hlt)⟩
      have HL := Lib.hid hl0; clear hl0
      obtain ⟨b, hb1, hb2, hb3⟩ := Hs.out.place HL.out
      have Hx := Lib.hid hb1; clear hb1 hb3
      have hll : l.length ≤ 140737488351232 := Hhl.out l (List.mem_of_getElem? HL.out)
      generalize hm : l.length = m at *
      have Hm := Lib.hid hm; clear hm
      obtain ⟨wo, rfl⟩ : ∃ wo : World, wo = wr := ⟨_, rfl⟩
      go_wp2_with fail
      go_loopw [18] (fun i wr => I77 w12 w3.heap.size w4.heap.size g L xs m i wr) (fun i _ => m - (intOf i).toNat)
      case atStart => exact ⟨0, Nat.zero_le _, rfl, Hs.out⟩
      case round =>
        obtain ⟨j, hj, rfl, hs⟩ := hrel
        obtain ⟨b', g1, hc0, g3⟩ := hs.place HL.out
        rw [Hx.out] at g1
        injection g1 with g1
        injection g1 with e1 e2 e3
        injection e1 with e1
        injection e1 with e1
        subst e1
        rw [Hm.out] at hc0
        by_cases hlt2 : j < m
        · obtain ⟨u, hu, hf⟩ := g3 j (by rw [Hm.out]; exact hlt2)
          have Hs2 := Lib.hid hs; clear hs g3
          go_wp2_with fail
          exact ⟨⟨j + 1, by omega, by go_num, Hs2.out.set HL.out (by rw [Hx.out, Hm.out]) j _⟩, by simp [intOf]; omega⟩
        · have Hs2 := Lib.hid hs; clear hs g3
          obtain rfl : m = j := by omega
          go_wp2_with fail
          exact ⟨⟨q + 1, by omega, by go_num, Hs2.out⟩, by simp [intOf]; omega⟩
    · obtain rfl : n = q := by omega
      have HQ13 := Lib.hid (HQ.out.keep fun k hk1 hk2 => Hs.out.kept.block k hk2 (fun hf => by omega))
      have B13 := Lib.hid (B12.out.trans (Hs.out.kept.below (fun b hb => by have := hb.1; omega) B12.out.size))
      obtain ⟨w13, rfl⟩ : ∃ w0 : World, w0 = wr := ⟨_, rfl⟩
      clear Hs B12 HQ
      go_wp2_with fail
      refine (mem_PagesT _ m2 w13 HQ13.out.at_).mono ?_
      rintro e w14 ⟨A1, k1, rfl, ⟨g1, hg1⟩, hbe⟩
      rw [HQ13.out.bs] at hg1 ⊢
      have Hg1 := Lib.hid hg1; clear hg1
      have B14 := Lib.hid (B13.out.trans (hbe.mono B13.out.size))
      have HQ14 := Lib.hid (HQ13.out.below hbe)
      clear B13 HQ13
      clear hbe
      go_wp2_with fail
      refine (ref13_Pages _ r2 w14 HQ14.out.rat).mono ?_
      rintro e w15 ⟨A2, k2, rfl, ⟨g2, hg2⟩, hbe⟩
      rw [HQ14.out.rl, Nat.mul_div_cancel_left n (by omega)] at hg2 ⊢
      have Hg2 := Lib.hid hg2; clear hg2
      have Hbe := Lib.hid hbe
      have B15 := Lib.hid (B14.out.trans (hbe.mono B14.out.size))
      have HQ15 := Lib.hid (HQ14.out.below hbe)
      clear B14 HQ14
      clear hbe
      go_wp2_with fail
      refine (HQ15.out.same (by omega) Hg1.out Hg2.out w15 Hbe.out (Below.refl _ _)).mono ?_
      rintro e w16 ⟨hbe, rfl⟩
      have B16 := Lib.hid (B15.out.trans (hbe.mono B15.out.size))
      have HQ16 := Lib.hid (HQ15.out.below hbe)
      clear B15 HQ15
      clear hbe Hg1 Hg2 Hbe
      go_wp2_with fail
      refine (mem_Dirty _ m2 w16 HQ16.out.at_).mono ?_
      rintro e w17 ⟨A3, k3, rfl, _, hbe⟩
      rw [HQ16.out.d, show dirtyL (List.replicate 64 false) 64 = [] from dirtyL_no 64]
      have B17 := Lib.hid (B16.out.trans (hbe.mono B16.out.size))
      have HQ17 := Lib.hid (HQ16.out.below hbe)
      clear B16 HQ16
      clear hbe
      go_wp2_with fail
      go_ret
      exact ⟨rfl, B17.out⟩
end Go.Proofs.YtndkhlafpcedbaaDoor
namespace Go.Proofs.YtndkhlafpcedbaaDoor
set_option linter.unusedVariables false
open Go.RowKit
theorem law_MemMade (P M cap : Int) (A : Option Addr) (n c : Nat) (L : List (List UInt8)) (w : World)
    (hn : n = L.length) (h47 : n ≤ 140737488351232) (hl : ∀ l ∈ L, l.length ≤ 140737488351232) (h : PV w w.heap.size A L) (ht : HTab w) :
    Calls Tryd.prog 4 #[.int .i64 P, .int .i64 M, .slice A n c, .int .i64 cap] w fun e w' => e = .returned (.bool true) ∧ Below w.heap.size w w' := by
  have split : ∀ (a b : Int), newBad a b ∨ ∃ (N M1 : Nat), a = N ∧ b = M1 ∧ N ≤ M1 ∧ M1 ≤ 64 := fun a b => by
    by_cases hb : newBad a b
    · exact .inl hb
    · unfold newBad at hb
      exact .inr ⟨a.toNat, b.toNat, by omega, by omega, by omega, by omega⟩
  rcases split P M with h1 | ⟨N, M1, rfl, rfl, h1, h2⟩ <;> rcases split n cap with h3 | ⟨n', C1, hn', rfl, h3, h4⟩
  · exact law_mm_00 A n c L w hn h47 hl h ht P M h1 cap h3
  · by_cases hall : ∀ l ∈ L, l.length = 4096
    · exact law_mm_02 A n c L w hn h47 hl h ht P M h1 C1 (by omega) h4 hall
    · exact law_mm_01 A n c L w hn h47 hl h ht P M h1 C1 (by omega) h4 hall
  · exact law_mm_10 A n c L w hn h47 hl h ht N M1 h1 h2 cap h3
  · by_cases hall : ∀ l ∈ L, l.length = 4096
    · exact law_mm_12 A n c L w hn h47 hl h ht N M1 h1 h2 C1 (by omega) h4 hall
    · exact law_mm_11 A n c L w hn h47 hl h ht N M1 h1 h2 C1 (by omega) h4 hall
end Go.Proofs.YtndkhlafpcedbaaDoor
