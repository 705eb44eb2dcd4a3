/- flagonlaw01.WireWrites: the walk. -/
import Derived.Test.YtndkhlafpcedbaaDoorWireG
import Derived.Test.YtndkhlafpcedbaaDoorWireH
import Derived.Test.YtndkhlafpcedbaaDoorBagF
namespace Go.Proofs.YtndkhlafpcedbaaDoor
set_option linter.unusedVariables false
open Go.RowKit
set_option maxRecDepth 100000 in
set_option maxHeartbeats 1000000 in
theorem law_WireWrites (u : Nat) (hu : u < 18446744073709551616) (n : Int) (h0 : -9223372036854775808 ≤ n) (h1 : n < 9223372036854775808) (s : ByteArray) (hs : s.size ≤ 9223372036854775807) (w : World) :
    Calls Tryd.prog 3 #[.int .u64 u, .int .i64 n, .string s] w fun e w' => e = .returned (.bool true) ∧ Below w.heap.size w w' := by
  go_enter Tryd.func3, Tryd.ntmps3
  go_wp2_with fail
  refine (works01 w).mono ?_
  rintro e w1 ⟨rfl, hb1⟩
  have B1 := Lib.hid hb1; clear hb1
  by_cases hl : 1048576 < (s.size : Int)
  · go_wp2_with fail
    go_ret
    exact ⟨rfl, B1.out⟩
  go_wp2_with fail
  refine (wire_Uvar u hu w1).mono ?_
  rintro e w2 ⟨A1, c1, rfl, ho, hb⟩
  have M2 := Lib.hid ((Made.nil (e := 5) (base := w.heap.size) (w := w1)).add B1.out.size ho hb)
  have B2 := Lib.hid (B1.out.trans (hb.mono B1.out.size)); clear ho hb B1
  go_wp2_with fail
  refine (wire_Svar n h0 h1 w2).mono ?_
  rintro e w3 ⟨A2, c2, rfl, ho, hb⟩
  have M3 := Lib.hid (M2.out.add B2.out.size ho hb)
  have B3 := Lib.hid (B2.out.trans (hb.mono B2.out.size)); clear ho hb B2 M2
  go_wp2_with fail
  refine (wire_Text s (by omega) w3).mono ?_
  rintro e w4 ⟨A3, c3, rfl, ho, hb⟩
  have M4 := Lib.hid (M3.out.add B3.out.size ho hb)
  have B4 := Lib.hid (B3.out.trans (hb.mono B3.out.size)); clear ho hb B3 M3
  go_wp2_with fail
  refine (wire_Text s (by omega) w4).mono ?_
  rintro e w5 ⟨A4, c4, rfl, ho, hb⟩
  have M5 := Lib.hid (M4.out.add B4.out.size ho hb)
  have B5 := Lib.hid (B4.out.trans (hb.mono B4.out.size)); clear ho hb B4 M4
  go_wp2_with fail
  have hg : w.heap.size ≤ w5.heap.size := B5.out.size
  have hbag : BagB w5.heap.size w.heap.size (w5.alloc (.cells #[.slice none 0 0, .slice none 0 0, .slice none 0 0, .slice none 0 0, .slice none 0 0, .slice none 0 0, .slice none 0 0, .slice none 0 0, .slice none 0 0, .slice none 0 0, .slice none 0 0, .slice none 0 0, .slice none 0 0, .slice none 0 0, .slice none 0 0, .slice none 0 0, .slice none 0 0] 47)) [] := ⟨none, 0, Blk.new w5 _ _, World.ownsRow_nil _ _ _ _⟩
  have B6 := Lib.hid (B5.out.alloc hg (.cells #[.slice none 0 0, .slice none 0 0, .slice none 0 0, .slice none 0 0, .slice none 0 0, .slice none 0 0, .slice none 0 0, .slice none 0 0, .slice none 0 0, .slice none 0 0, .slice none 0 0, .slice none 0 0, .slice none 0 0, .slice none 0 0, .slice none 0 0, .slice none 0 0, .slice none 0 0] 47))
  have M6 := Lib.hid (M5.out.ekeep (EKeep.alloc _ w5 (.cells #[.slice none 0 0, .slice none 0 0, .slice none 0 0, .slice none 0 0, .slice none 0 0, .slice none 0 0, .slice none 0 0, .slice none 0 0, .slice none 0 0, .slice none 0 0, .slice none 0 0, .slice none 0 0, .slice none 0 0, .slice none 0 0, .slice none 0 0, .slice none 0 0, .slice none 0 0] 47)))
  clear B5 M5
  generalize w5.heap.size = g at *
  generalize w5.alloc (.cells #[.slice none 0 0, .slice none 0 0, .slice none 0 0, .slice none 0 0, .slice none 0 0, .slice none 0 0, .slice none 0 0, .slice none 0 0, .slice none 0 0, .slice none 0 0, .slice none 0 0, .slice none 0 0, .slice none 0 0, .slice none 0 0, .slice none 0 0, .slice none 0 0, .slice none 0 0] 47) = w6 at *
  have G6 := Lib.hid hbag; clear hbag
  have Hg := Lib.hid hg; clear hg
  refine (bag_add g w.heap.size w.heap.size (enc u).length c1 A1 _ w6 G6.out (by simp) B6.out.size ⟨Hg.out, Nat.le_refl _⟩).mono ?_
  rintro e w7 ⟨⟨x, rfl⟩, hG, hE, hB⟩
  have G7 := Lib.hid hG
  have M7 := Lib.hid (M6.out.ekeep hE)
  have B7 := Lib.hid (B6.out.trans hB); clear hG hE hB G6 M6 B6
  go_wp2_with fail
  refine (bag_add g w.heap.size w.heap.size (enc (folded n)).length c2 A2 _ w7 G7.out (by simp) B7.out.size ⟨Hg.out, Nat.le_refl _⟩).mono ?_
  rintro e w8 ⟨⟨x, rfl⟩, hG, hE, hB⟩
  have G8 := Lib.hid hG
  have M8 := Lib.hid (M7.out.ekeep hE)
  have B8 := Lib.hid (B7.out.trans hB); clear hG hE hB G7 M7 B7
  go_wp2_with fail
  refine (bag_add g w.heap.size w.heap.size ((enc s.size).length + s.size) c3 A3 _ w8 G8.out (by simp) B8.out.size ⟨Hg.out, Nat.le_refl _⟩).mono ?_
  rintro e w9 ⟨⟨x, rfl⟩, hG, hE, hB⟩
  have G9 := Lib.hid hG
  have M9 := Lib.hid (M8.out.ekeep hE)
  have B9 := Lib.hid (B8.out.trans hB); clear hG hE hB G8 M8 B8
  go_wp2_with fail
  refine (bag_add g w.heap.size w.heap.size ((enc s.size).length + s.size) c4 A4 _ w9 G9.out (by simp) B9.out.size ⟨Hg.out, Nat.le_refl _⟩).mono ?_
  rintro e w10 ⟨⟨x, rfl⟩, hG, hE, hB⟩
  have G10 := Lib.hid hG
  have M10 := Lib.hid (M9.out.ekeep hE)
  have B10 := Lib.hid (B9.out.trans hB); clear hG hE hB G9 M9 B9
  go_wp2_with fail
  refine (wire_Uvar u hu w10).mono ?_
  rintro e w11 ⟨A5, c5, rfl, ho, hb⟩
  have M11 := Lib.hid (M10.out.add B10.out.size ho hb)
  have G11 := Lib.hid (G10.out.keep hb)
  have B11 := Lib.hid (B10.out.trans (hb.mono B10.out.size)); clear ho hb B10 M10 G10
  go_wp2_with fail
  refine (bag_add g w.heap.size w.heap.size (enc u).length c5 A5 _ w11 G11.out (by simp) B11.out.size ⟨Hg.out, Nat.le_refl _⟩).mono ?_
  rintro e w12 ⟨⟨x, rfl⟩, hG, hE, hB⟩
  have G12 := Lib.hid hG
  have M12 := Lib.hid (M11.out.ekeep hE)
  have B12 := Lib.hid (B11.out.trans hB); clear hG hE hB G11 M11 B11
  go_wp2_with fail
  refine (ref_Uvar u hu w12).mono ?_
  rintro e w13 ⟨AR, cR, rfl, ho, hb⟩
  have M13 := Lib.hid (M12.out.keep hb)
  have R13 := Lib.hid (Row.own ho)
  have G13 := Lib.hid (G12.out.keep hb)
  have B13 := Lib.hid (B12.out.trans (hb.mono B12.out.size)); clear ho hb B12 M12 G12
  go_wp2_with fail
  refine (eq_bytes _ _ _ _ _ _ _ _ w13 (enc u) (enc u) (by simp) (by simp) (by have := enc_len10 u hu; have := enc_len10 (folded n) (folded_lt n h0 h1); have := enc_len10 s.size (by omega); omega) (M13.out.row (q := 0) rfl) R13.out).mono ?_
  rintro e w' ⟨⟨k, rfl⟩, rfl⟩
  rw [decide_eq_true rfl]
  have M14 := Lib.hid (M13.out.drewN k)
  have G14 := Lib.hid (G13.out.drewN k)
  have B14 := Lib.hid (below_drewN B13.out k); clear B13 M13 G13 R13
  generalize w13.drewN k = w14 at *
  go_wp2_with fail
  refine (ref_Svar n h0 h1 w14).mono ?_
  rintro e w15 ⟨AR, cR, rfl, ho, hb⟩
  have M15 := Lib.hid (M14.out.keep hb)
  have R15 := Lib.hid (Row.own ho)
  have G15 := Lib.hid (G14.out.keep hb)
  have B15 := Lib.hid (B14.out.trans (hb.mono B14.out.size)); clear ho hb B14 M14 G14
  go_wp2_with fail
  refine (eq_bytes _ _ _ _ _ _ _ _ w15 (enc (folded n)) (enc (folded n)) (by simp) (by simp) (by have := enc_len10 u hu; have := enc_len10 (folded n) (folded_lt n h0 h1); have := enc_len10 s.size (by omega); omega) (M15.out.row (q := 1) rfl) R15.out).mono ?_
  rintro e w' ⟨⟨k, rfl⟩, rfl⟩
  rw [decide_eq_true rfl]
  have M16 := Lib.hid (M15.out.drewN k)
  have G16 := Lib.hid (G15.out.drewN k)
  have B16 := Lib.hid (below_drewN B15.out k); clear B15 M15 G15 R15
  generalize w15.drewN k = w16 at *
  go_wp2_with fail
  refine (ref_Text s (by omega) w16).mono ?_
  rintro e w17 ⟨AR, cR, rfl, ho, hb⟩
  have M17 := Lib.hid (M16.out.keep hb)
  have R17 := Lib.hid (Row.own ho)
  have G17 := Lib.hid (G16.out.keep hb)
  have B17 := Lib.hid (B16.out.trans (hb.mono B16.out.size)); clear ho hb B16 M16 G16
  go_wp2_with fail
  refine (eq_bytes _ _ _ _ _ _ _ _ w17 (enc s.size ++ s.data.toList) (enc s.size ++ s.data.toList) (by simp) (by simp) (by have := enc_len10 u hu; have := enc_len10 (folded n) (folded_lt n h0 h1); have := enc_len10 s.size (by omega); omega) (M17.out.row (q := 2) rfl) R17.out).mono ?_
  rintro e w' ⟨⟨k, rfl⟩, rfl⟩
  rw [decide_eq_true rfl]
  have M18 := Lib.hid (M17.out.drewN k)
  have G18 := Lib.hid (G17.out.drewN k)
  have B18 := Lib.hid (below_drewN B17.out k); clear B17 M17 G17 R17
  generalize w17.drewN k = w18 at *
  go_wp2_with fail
  refine (eq_bytes _ _ _ _ _ _ _ _ w18 (enc s.size ++ s.data.toList) (enc s.size ++ s.data.toList) (by simp) (by simp) (by have := enc_len10 s.size (by omega); omega) (M18.out.row (q := 3) rfl) (M18.out.row (q := 2) rfl)).mono ?_
  rintro e w' ⟨⟨k, rfl⟩, rfl⟩
  rw [decide_eq_true rfl]
  have M19 := Lib.hid (M18.out.drewN k)
  have G19 := Lib.hid (G18.out.drewN k)
  have B19 := Lib.hid (below_drewN B18.out k); clear B18 M18 G18
  generalize w18.drewN k = w19 at *
  go_wp2_with fail
  refine (bag_apart g w.heap.size _ w19 (by simpa using G19.out) M19.out (by simp) (by have := enc_len10 u hu; have := enc_len10 (folded n) (folded_lt n h0 h1); have := enc_len10 s.size (by omega); simp; omega) B19.out.size).mono ?_
  rintro e w' ⟨rfl, hb⟩
  have Hb := Lib.hid hb; clear hb
  go_wp2_with fail
  go_ret
  exact ⟨rfl, B19.out.trans Hb.out⟩
end Go.Proofs.YtndkhlafpcedbaaDoor
