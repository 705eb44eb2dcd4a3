/- flagonlaw13.works: the anchor of layer 13. -/
import Derived.Test.YtndkhlafpcedbaaDoorMemL
import Derived.Test.YtndkhlafpcedbaaDoorMemQ
import Derived.Test.YtndkhlafpcedbaaDoorEqI
namespace Go.Proofs.YtndkhlafpcedbaaDoor
set_option linter.unusedVariables false
open Go.RowKit
theorem dirty_w : dirtyL (growD (dt (List.replicate 64 false) 4094 2) 1 1) 64 = [0, 1] := by decide +kernel
set_option maxRecDepth 100000 in
set_option maxHeartbeats 400000 in
theorem works13 (w : World) : Calls Tryd.prog 17 #[] w fun e w' => e = .returned (.bool true) ∧ Below w.heap.size w w' := by
  go_enter Tryd.func17, Tryd.ntmps17
  go_wp2_with fail
  refine (mem_New 1 2 (by omega) (by omega) w).mono ?_
  rintro e w1 ⟨m, rfl, hmo, hbs, hB, hd, hm, hbel⟩
  have HM := Lib.hid hm; clear hm
  have H1 := Lib.hid hbel; clear hbel
  have Hmo := Lib.hid hmo; clear hmo
  have Hbs := Lib.hid hbs; clear hbs
  have HB := Lib.hid hB; clear hB
  have Hd := Lib.hid hd; clear hd
  have hBl : m.B.length = 4096 := by rw [HB.out, List.length_replicate]
  have hl1 : liesB m.B.length 4094 2 = true := by rw [hBl]; decide
  have HBl := Lib.hid hBl; clear hBl
  have Hl1 := Lib.hid hl1; clear hl1
  go_wp2_with fail
  refine (mem_Store _ m 4094 258 2 w1 HM.out (by omega) (by omega)).mono ?_
  rw [Hl1.out, if_pos rfl]
  rintro e w2 ⟨rfl, hm, hk⟩
  have HM2 := Lib.hid hm; clear hm
  have HK2 := Lib.hid hk; clear hk
  have hl2 : liesB (m.store 4094 258 (2 : Int).toNat).B.length 4095 1 = true := by
    show liesB (st m.B 4094 258 2).length 4095 1 = true
    rw [st_len, HBl.out]; decide
  have hld : ld (m.store 4094 258 (2 : Int).toNat).B 4095 (1 : Int).toNat = 1 := ld_st_one m.B 4094 258 2 1 (by rw [HBl.out]; omega) (by omega)
  have Hl2 := Lib.hid hl2; clear hl2
  have Hld := Lib.hid hld; clear hld
  rw [show m.p = (m.store 4094 258 (2 : Int).toNat).p from rfl]
  have Hfoot : Hid ((m.store 4094 258 (2 : Int).toNat).foot = m.foot) := Lib.hid rfl
  have Hd2 : Hid ((m.store 4094 258 (2 : Int).toNat).d = dt (List.replicate 64 false) 4094 2) := Lib.hid (by rw [← Hd.out]; rfl)
  have Hbs2 : Hid ((m.store 4094 258 (2 : Int).toNat).bs.length = 1) := Lib.hid Hbs.out
  have Hmo2 : Hid ((m.store 4094 258 (2 : Int).toNat).most = 2) := Lib.hid Hmo.out
  have Hge := Lib.hid HM.out.ge
  rw [← Hfoot.out] at HK2 Hge
  clear Hfoot HB Hd Hl1 HBl HM Hbs Hmo
  generalize m.store 4094 258 (2 : Int).toNat = m2 at *
  have H2 : Hid (Below w.heap.size w w2) := Lib.hid (H1.out.trans (HK2.out.below Hge.out H1.out.size))
  go_wp2_with fail
  refine (mem_Load _ m2 4095 1 w2 HM2.out (by omega)).mono ?_
  rw [Hl2.out, if_pos rfl, Hld.out]
  rintro e w' ⟨rfl, rfl⟩
  clear Hl2 Hld
  go_wp2_with fail
  refine (mem_Size _ m2 w2 HM2.out).mono ?_
  rw [Hbs2.out]
  rintro e w' ⟨rfl, rfl⟩
  go_wp2_with fail
  refine (mem_Grow _ m2 1 w2 HM2.out (by omega)).mono ?_
  rw [Hbs2.out, Hmo2.out]
  simp only [if_neg (show ¬ 2 < 1 + 1 by omega)]
  rintro e w3 ⟨rfl, m3, hg⟩
  have Hg := Lib.hid hg; clear hg
  have Hp : Hid (m3.p = m2.p) := Lib.hid Hg.out.p
  have H3 : Hid (Below w.heap.size w w3) := Lib.hid (H2.out.trans (Hg.out.kept.below Hge.out H2.out.size))
  have Hd3 : Hid (dirtyL m3.d 64 = [0, 1]) := Lib.hid (by rw [Hg.out.d, Hbs2.out, Hd2.out]; exact dirty_w)
  have Hbs3 : Hid (m3.bs.length = 2) := Lib.hid (by rw [Hg.out.bs, Hbs2.out])
  have HM3 := Lib.hid Hg.out.at_
  have Hf3 : Hid (∀ k, m3.foot k → w.heap.size ≤ k) := Lib.hid (fun k hk => by rcases Hg.out.foot k hk with h | h; exact Hge.out k h; have := H2.out.size; omega)
  rw [← Hp.out]
  clear Hg Hd2 Hbs2 Hmo2 HK2 Hp
  go_wp2_with fail
  refine (mem_Dirty _ m3 w3 HM3.out).mono ?_
  unfold DirtyPost
  rw [Hd3.out]
  rintro e w4 ⟨A, c, rfl, h1, h2⟩
  have HA : Hid (Row w4 w4.heap.size A (ivals [0, 1])) := Lib.hid (Row.own h1)
  have HM4 := Lib.hid (HM3.out.below h2)
  have H4 : Hid (Below w.heap.size w w4) := Lib.hid (H3.out.trans (h2.mono H3.out.size))
  clear h1 h2 HM3
  go_wp2_with fail
  generalize hw : w4.alloc (.cells #[.int .i64 0, .int .i64 1] 3) = w5
  have HR : Hid (Row w5 (w4.heap.size + 1) (some ⟨w4.heap.size, 0, none⟩) (ivals [0, 1])) := by rw [← hw]; exact Lib.hid (row_lit w4 [.int .i64 0, .int .i64 1] 3)
  have hb5 : Below w4.heap.size w4 w5 := by rw [← hw]; exact (Below.refl _ _).alloc (Nat.le_refl _) _
  have HU2 : Hid (Row w5 w4.heap.size A (ivals [0, 1])) := Lib.hid (HA.out.below hb5)
  have HM5 := Lib.hid (HM4.out.below hb5)
  have H5 : Hid (Below w.heap.size w w5) := Lib.hid (H4.out.trans (hb5.mono H4.out.size))
  clear hw hb5 HM4 HA
  refine (eq_ints _ _ 2 2 _ _ _ _ w5 [0, 1] [0, 1] rfl rfl (by omega) HU2.out HR.out).mono ?_
  rintro e w' ⟨⟨k, rfl⟩, rfl⟩
  rw [show decide (([0, 1] : List Int) = [0, 1]) = true from rfl]
  have H6 : Hid (Below w.heap.size w (w5.drewN k)) := Lib.hid (below_drewN H5.out k)
  have HM6 := Lib.hid (HM5.out.drewN k)
  clear HM5 HU2 HR
  generalize w5.drewN k = w6 at *
  go_wp2_with fail
  refine (mem_Clean _ m3 w6 HM6.out).mono ?_
  rintro e w7 ⟨rfl, hm, hk⟩
  have HM7 := Lib.hid hm; clear hm
  have H7 : Hid (Below w.heap.size w w7) := Lib.hid (H6.out.trans (hk.below Hf3.out H6.out.size))
  clear hk
  rw [show m3.p = m3.clean.p from rfl]
  have Hbs7 : Hid (m3.clean.bs.length = 2) := Lib.hid Hbs3.out
  generalize m3.clean = m7 at *
  go_wp2_with fail
  refine (mem_Pages _ m7 w7 HM7.out).mono ?_
  rw [Hbs7.out]
  rintro e w8 ⟨A8, c8, rfl, h8⟩
  have H8 : Hid (Below w.heap.size w w8) := Lib.hid (H7.out.trans (h8.mono H7.out.size))
  clear h8
  go_wp2_with fail
  go_ret
  exact ⟨rfl, H8.out⟩
end Go.Proofs.YtndkhlafpcedbaaDoor
