/- flagonlaw02.TypesAsk: the walk. -/
import Derived.Test.YtndkhlafpcedbaaDoorTypesN
import Derived.Test.YtndkhlafpcedbaaDoorTypesW
import Derived.Test.YtndkhlafpcedbaaDoorShapeQ
import Derived.Test.YtndkhlafpcedbaaDoorWideW
import Derived.Test.YtndkhlafpcedbaaDoorEqW
import Derived.Test.YtndkhlafpcedbaaDoorBagWD
import Derived.Deep.RegionHeld3
namespace Go.Proofs.YtndkhlafpcedbaaDoor
set_option linter.unusedVariables false
open Go.RowKit
theorem below_of_drew' {w w' : World} (h : Below w.drew.heap.size w.drew w') : Below w.heap.size w w' := ⟨h.os, h.tape, h.output, h.size, h.block⟩
set_option maxRecDepth 100000 in
set_option maxHeartbeats 2000000 in
theorem law_TypesAsk (ch : Nat) (hch : ch < 256) (s p r : ByteArray) (A : Option Addr) (n c : Nat) (vs : List Nat) (m : Int) (w : World) (h0 : 0 < w.heap.size) (hm : w.cell? ⟨0, 0, none⟩ = some (.int .i64 m))
    (hs : s.size ≤ 140737488351232) (hp : p.size ≤ 140737488351232) (hrs : r.size ≤ 140737488351232) (hn : n = vs.length) (h47 : n ≤ 140737488351232) (hr : Row w w.heap.size A (vs.map uv)) :
    Calls Tryd.prog 6 #[.int .u8 ch, .string s, .agg #[.string p, .string r], .slice A n c] w fun e w' => e = .returned (.bool true) ∧ Below w.heap.size w w' := by
  have Hr := Lib.hid hr; clear hr
  have Hn := Lib.hid hn; clear hn
  have HW := Lib.hid (fun W (h : Below w.heap.size w W) => works02 m W (Nat.lt_of_lt_of_le h0 h.size) ((h.cell (p := ⟨0, 0, none⟩) h0).trans hm)); clear hm h0
  go_enter Tryd.func6, Tryd.ntmps6
  go_wp2_with fail
  have B0 := Lib.hid ((Below.refl w.heap.size w).alloc (Nat.le_refl _) (.cells #[.string p, .string r] 81))
  have Hbx := Lib.hid (Blk.new w 81 [.string p, .string r])
  obtain ⟨b, hb⟩ : ∃ b, b = w.heap.size := ⟨_, rfl⟩
  rw [← hb] at Hbx ⊢
  have hbw : b < (w.alloc (.cells #[.string p, .string r] 81)).heap.size := by simp; omega
  have Hb := Lib.hid hb; clear hb
  generalize w.alloc (.cells #[.string p, .string r] 81) = w0 at *
  refine (HW.out w0 B0.out).mono ?_
  rintro e w1 ⟨rfl, hb1⟩
  have B1 := Lib.hid (B0.out.trans (hb1.mono B0.out.size))
  have Hb1 := Lib.hid (Hbx.out.below hb1 hbw)
  have hbw1 : b < w1.heap.size := Nat.lt_of_lt_of_le hbw hb1.size
  clear hb1 HW B0 Hbx hbw
  have hc0 : w1.cell? ⟨b, 0, none⟩ = some (.string p) := Hb1.out.cell 0
  have hc1 : w1.cell? ⟨b, 1, none⟩ = some (.string r) := Hb1.out.cell 1
  by_cases hbig : 1048576 < s.size + p.size + r.size + n
  · have hq : (1048576 : Int) < (s.size : Int) + p.size + r.size + n := by omega
    go_wp2_with fail
    go_ret
    exact ⟨rfl, B1.out⟩
  have hq : decide ((1048576 : Int) < (s.size : Int) + p.size + r.size + n) = false := decide_eq_false (by omega)
  have hsm : s.size + p.size + r.size + n ≤ 1048576 := by omega
  clear hbig
  go_wp2_with fail
  clear hq hc0 hc1
  refine (wide_words A n c w.heap.size w1 vs Hn.out (by omega) (Hr.out.below B1.out) B1.out.size).mono ?_
  rintro e w2 ⟨g, rfl, hG, hbe, hg⟩
  have B2 := Lib.hid (B1.out.trans (hbe.mono B1.out.size))
  have Hb2 := Lib.hid (Hb1.out.below hbe hbw1)
  have hgb : b < g := by omega
  have HG2 := Lib.hid hG; clear hG
  have hgw : g < w2.heap.size := HG2.out.lt
  clear hbe hg Hb1 B1 hbw1
  have Hr2 := Lib.hid (Hr.out.below B2.out)
  have HK2 : Hid (Row w2 (g + 1) (some ⟨g, 0, none⟩) (vs.map uv)) := Lib.hid (by
    intro hn0
    refine ⟨g, 0, rfl, Nat.lt_succ_self _, fun j u hu => ?_⟩
    rw [Nat.zero_add]
    refine (HG2.out.cell j).trans ?_
    rw [List.getElem?_append_left (List.getElem?_eq_some_iff.1 hu).1]
    exact hu)
  have hc0 : w2.cell? ⟨b, 0, none⟩ = some (.string p) := Hb2.out.cell 0
  have hc1 : w2.cell? ⟨b, 1, none⟩ = some (.string r) := Hb2.out.cell 1
  have hwz : w.heap.size ≤ w2.heap.size := B2.out.size
  go_wp2_with fail
  go_region_held3 (fun w' => w'.cell? ⟨b, 0, none⟩ = some (.string p) ∧ w'.cell? ⟨b, 1, none⟩ = some (.string r) ∧ Below w2.heap.size w2 w')
    (first | exact ⟨hc0, hc1, Below.refl _ _⟩ | exact ⟨hc0, hc1, (Below.refl _ _).drew⟩ | exact ⟨d0, d1, S1⟩ | exact ⟨e0, e1, S2⟩ | exact ⟨f0, f1, S3⟩ | exact ⟨g0, g1, S4⟩ | exact ⟨i0, i1, S5⟩)
    (first
    | (go_at_call 45; refine (types_Letter ch hch _).mono ?_; rintro e w' ⟨rfl, rfl⟩)
    | (go_at_call 46; refine (ref_Letter ch hch _).mono ?_; rintro e w' ⟨rfl, rfl⟩)
    | (go_at_call 47; refine (types_Shape s hs _).mono ?_; rintro e W1 ⟨hb, rfl⟩; have S1 := below_of_drew hb; have d0 := (S1.cell (p := ⟨b, 0, none⟩) (show b < w2.heap.size by omega)).trans hc0; have d1 := (S1.cell (p := ⟨b, 1, none⟩) (show b < w2.heap.size by omega)).trans hc1; clear hb)
    | (go_at_call 48; refine (ref_Shape s hs _).mono ?_; rintro e w' ⟨rfl, rfl⟩)
    | (go_at_call 49; refine (types_Sig p r hp hrs _).mono ?_; rintro e W2 ⟨hb, rfl⟩; have S2 := S1.trans (hb.mono S1.size); have e0 := (S2.cell (p := ⟨b, 0, none⟩) (show b < w2.heap.size by omega)).trans hc0; have e1 := (S2.cell (p := ⟨b, 1, none⟩) (show b < w2.heap.size by omega)).trans hc1; clear hb)
    | (go_at_call 50; refine (ref_Sig p r hp hrs _).mono ?_; rintro e W3 ⟨hb, rfl⟩; have S3 := S2.trans (hb.mono S2.size); have f0 := (S3.cell (p := ⟨b, 0, none⟩) (show b < w2.heap.size by omega)).trans hc0; have f1 := (S3.cell (p := ⟨b, 1, none⟩) (show b < w2.heap.size by omega)).trans hc1; clear hb)
    | (go_at_call 51; refine (types_All _ n _ (g + 1) vs s _ Hn.out (HK2.out.below' S3 (by omega)) (by have := S3.size; omega) hs).mono ?_; rintro e W4 ⟨hb, rfl⟩; have S4 := S3.trans (hb.mono S3.size); have g0 := (S4.cell (p := ⟨b, 0, none⟩) (show b < w2.heap.size by omega)).trans hc0; have g1 := (S4.cell (p := ⟨b, 1, none⟩) (show b < w2.heap.size by omega)).trans hc1; clear hb)
    | (go_at_call 52; refine (ref2_All A n c w.heap.size s _ vs Hn.out hs (by omega) (Hr2.out.below' S4 hwz)).mono ?_; rintro e W5 ⟨⟨kk, rfl⟩, rfl⟩; have S5 := below_drewN S4 kk; have i0 := g0; have i1 := g1))
  have hbe5 := S5
  generalize W4.drewN kk = w5 at *
  clear hc0 hc1 d0 d1 e0 e1 f0 f1 g0 g1 i0 i1 S1 S2 S3 S4 S5
  have B5 := Lib.hid (B2.out.trans (hbe5.mono hwz))
  have HG5 := Lib.hid (HG2.out.below hbe5 hgw)
  have hgw5 : g < w5.heap.size := Nat.lt_of_lt_of_le hgw hbe5.size
  have Hr5 := Lib.hid (Hr.out.below B5.out)
  clear hbe5 HG2 B2 Hb2 HK2 Hr2 hwz hgw
  go_wp2_with fail
  go_loopw [11] (fun i wr => ∃ k m : Nat, k ≤ n ∧ i = .int .i64 k ∧ wr = w5.drewN m) (fun i _ => n - (intOf i).toNat)
  case atStart => exact ⟨0, 0, Nat.zero_le _, rfl, rfl⟩
  case round =>
    obtain ⟨k, m, hk, rfl, rfl⟩ := hrel
    have hk0 : (0 : Int) ≤ k := by omega
    by_cases hlt : k < n
    · obtain ⟨b2, o, rfl, _, hcell⟩ := Hr5.out.word (j := k) (by rw [← Hn.out]; exact hlt)
      generalize vs[k]?.getD 0 = v at *
      go_wp2_with fail
      go_quiet (first | (go_at_call 53; exact quiet_at (types_Fits v ch hch _)) | (go_at_call 54; exact quiet_at (ref2_Fits v ch hch _)))
      go_wp2_with fail
      exact ⟨⟨k + 1, m + nq, by omega, by go_num, rfl⟩, by simp [intOf]; omega⟩
    · obtain rfl : n = k := by omega
      have B6 := Lib.hid (below_drewN B5.out m)
      have HG6 : Hid (Blk (w5.drewN m) g 22 (vs.map uv ++ marksW vs.length)) := HG5
      have Hr6 := Lib.hid (Row.drewN Hr5.out m)
      have hgw6 : g < (w5.drewN m).heap.size := hgw5
      generalize w5.drewN m = w6 at *
      clear B5 HG5 Hr5 hgw5
      go_wp2_with fail
      refine (types_ZeroN s (by omega) w6).mono ?_
      rintro e w7 ⟨hb, A1, c1, rfl, ho⟩
      have M7 := Lib.hid ((Made.nil (e := 22) (base := w6.heap.size) (w := w6)).add (Nat.le_refl _) ho hb)
      have C7 := Lib.hid hb; clear ho hb
      go_wp2_with fail
      refine (types_ZeroN s (by omega) w7).mono ?_
      rintro e w8 ⟨hb, A2, c2, rfl, ho⟩
      have M8 := Lib.hid (M7.out.add C7.out.size ho hb)
      have C8 := Lib.hid (C7.out.trans (hb.mono C7.out.size)); clear ho hb M7 C7
      go_wp2_with fail
      have hg : w6.heap.size ≤ w8.heap.size := C8.out.size
      have hbag : BagW w8.heap.size w6.heap.size (w8.alloc (.cells #[.slice none 0 0, .slice none 0 0, .slice none 0 0, .slice none 0 0, .slice none 0 0, .slice none 0 0, .slice none 0 0, .slice none 0 0, .slice none 0 0, .slice none 0 0, .slice none 0 0, .slice none 0 0, .slice none 0 0, .slice none 0 0, .slice none 0 0, .slice none 0 0, .slice none 0 0] 47)) [] := ⟨none, 0, Blk.new w8 _ _, World.ownsRow_nil _ _ _ _⟩
      have C9 := Lib.hid (C8.out.alloc hg (.cells #[.slice none 0 0, .slice none 0 0, .slice none 0 0, .slice none 0 0, .slice none 0 0, .slice none 0 0, .slice none 0 0, .slice none 0 0, .slice none 0 0, .slice none 0 0, .slice none 0 0, .slice none 0 0, .slice none 0 0, .slice none 0 0, .slice none 0 0, .slice none 0 0, .slice none 0 0] 47))
      have M9 := Lib.hid (M8.out.ekeep (EKeep.alloc _ w8 (.cells #[.slice none 0 0, .slice none 0 0, .slice none 0 0, .slice none 0 0, .slice none 0 0, .slice none 0 0, .slice none 0 0, .slice none 0 0, .slice none 0 0, .slice none 0 0, .slice none 0 0, .slice none 0 0, .slice none 0 0, .slice none 0 0, .slice none 0 0, .slice none 0 0, .slice none 0 0] 47)))
      clear C8 M8
      generalize w8.heap.size = gb at *
      generalize w8.alloc (.cells #[.slice none 0 0, .slice none 0 0, .slice none 0 0, .slice none 0 0, .slice none 0 0, .slice none 0 0, .slice none 0 0, .slice none 0 0, .slice none 0 0, .slice none 0 0, .slice none 0 0, .slice none 0 0, .slice none 0 0, .slice none 0 0, .slice none 0 0, .slice none 0 0, .slice none 0 0] 47) = w9 at *
      have G9 := Lib.hid hbag; clear hbag
      refine (bag_addW gb w6.heap.size w6.heap.size (zn s) c1 A1 _ w9 G9.out (by simp) C9.out.size ⟨hg, Nat.le_refl _⟩).mono ?_
      rintro e w10 ⟨⟨x, rfl⟩, hG, hE, hB⟩
      have G10 := Lib.hid hG
      have M10 := Lib.hid (M9.out.ekeep hE)
      have C10 := Lib.hid (C9.out.trans hB); clear hG hE hB G9 M9 C9
      go_wp2_with fail
      refine (bag_addW gb w6.heap.size w6.heap.size (zn s) c2 A2 _ w10 G10.out (by simp) C10.out.size ⟨hg, Nat.le_refl _⟩).mono ?_
      rintro e w11 ⟨⟨x, rfl⟩, hG, hE, hB⟩
      have G11 := Lib.hid hG
      have M11 := Lib.hid (M10.out.ekeep hE)
      have C11 := Lib.hid (C10.out.trans hB); clear hG hE hB G10 M10 C10
      go_wp2_with fail
      refine (ref2_Zero s (by omega) w11).mono ?_
      rintro e w12 ⟨hb, A3, c3, rfl, ho⟩
      have M12 := Lib.hid (M11.out.keep hb)
      have G12 := Lib.hid (G11.out.keep hb)
      have R12 := Lib.hid (Row.own ho)
      have C12 := Lib.hid (C11.out.trans (hb.mono C11.out.size)); clear ho hb M11 C11 G11
      have hzs : zs (zn s) = (List.replicate (zn s) 0).map uv := by rw [List.map_replicate]; rfl
      have Hzs := Lib.hid hzs; clear hzs
      have hzn : zn s ≤ 1048576 := by unfold zn; split <;> omega
      go_wp2_with fail
      refine (eq_words _ _ _ _ _ _ _ _ w12 (List.replicate (zn s) 0) (List.replicate (zn s) 0) (by simp) (by simp) (by omega) (by rw [← Hzs.out]; exact M12.out.row (q := 0) rfl) (by rw [← Hzs.out]; exact R12.out)).mono ?_
      rintro e w' ⟨⟨k1, rfl⟩, rfl⟩
      rw [decide_eq_true rfl]
      have M13 := Lib.hid (M12.out.drewN k1)
      have G13 := Lib.hid (G12.out.drewN k1)
      have C13 := Lib.hid (below_drewN C12.out k1); clear C12 M12 G12 R12
      generalize w12.drewN k1 = w13 at *
      go_wp2_with fail
      refine (eq_words _ _ _ _ _ _ _ _ w13 (List.replicate (zn s) 0) (List.replicate (zn s) 0) (by simp) (by simp) (by omega) (by rw [← Hzs.out]; exact M13.out.row (q := 1) rfl) (by rw [← Hzs.out]; exact M13.out.row (q := 0) rfl)).mono ?_
      rintro e w' ⟨⟨k2, rfl⟩, rfl⟩
      rw [decide_eq_true rfl]
      have M14 := Lib.hid (M13.out.drewN k2)
      have G14 := Lib.hid (G13.out.drewN k2)
      have C14 := Lib.hid (below_drewN C13.out k2); clear C13 M13 G13
      generalize w13.drewN k2 = w14 at *
      go_wp2_with fail
      refine (bag_apartW gb w6.heap.size _ w14 (by simpa using G14.out) M14.out (by simp) (by simp; omega) C14.out.size).mono ?_
      rintro e w15 ⟨rfl, hb⟩
      have hC15 := C14.out.trans hb
      have B15 := Lib.hid (B6.out.trans (hC15.mono B6.out.size))
      have HG15 := Lib.hid (HG6.out.below hC15 hgw6)
      have Hr15 := Lib.hid (Hr6.out.below' hC15 B6.out.size); clear hb hC15 C14 M14 G14
      go_wp2_with fail
      have HKr : Hid (Row w15 (g + 1) (some ⟨g, 0, none⟩) (vs.map uv)) := Lib.hid (by
        intro hn0
        refine ⟨g, 0, rfl, Nat.lt_succ_self _, fun j u hu => ?_⟩
        rw [Nat.zero_add]
        refine (HG15.out.cell j).trans ?_
        rw [List.getElem?_append_left (List.getElem?_eq_some_iff.1 hu).1]
        exact hu)
      refine (eq_words _ _ _ _ _ _ _ _ w15 vs vs Hn.out Hn.out (by omega) HKr.out Hr15.out).mono ?_
      rintro e w' ⟨⟨k3, rfl⟩, rfl⟩
      rw [decide_eq_true rfl]
      go_wp2_with fail
      refine (spare_words g 0 n (n + 64) _ (by omega) (Nat.le_refl _) (fun j h1 h2 => ?_)).mono ?_
      · rw [Nat.zero_add]
        refine (HG15.out.cell j).trans ?_
        rw [wide_getW vs j (by rw [← Hn.out]; omega), if_neg (by rw [← Hn.out]; omega)]
      rintro e w' ⟨rfl, rfl⟩
      go_wp2_with fail
      go_ret
      exact ⟨rfl, below_drewN B15.out k3⟩
end Go.Proofs.YtndkhlafpcedbaaDoor
