/- flagonlaw13.MemCalls: the walk. -/
import Derived.Test.YtndkhlafpcedbaaDoorCallsG
import Derived.Deep.DeepCutAuto
import Derived.Deep.CutBlock
namespace Go.Proofs.YtndkhlafpcedbaaDoor
set_option linter.unusedVariables false
open Go.RowKit
def Cut1 (w0 : World) (M g0 k : Nat) (gr : Int) (gb : Nat) (x : CallV) (bg : BagV) (a b c d : Value) (wx : World) : Prop := ∃ (m : MemV) (r : RefM) (m2 : MemV) (r2 : RefM), a = .pointer (some ⟨m.p, 0, none⟩) ∧ b = .pointer (some ⟨r.p, 0, none⟩) ∧ c = .pointer (some ⟨m2.p, 0, none⟩) ∧ d = .pointer (some ⟨r2.p, 0, none⟩) ∧ LC w0 M g0 k k gr (some (gb, x.cells)) m r m2 r2 bg wx
set_option maxRecDepth 100000 in
set_option maxHeartbeats 4000000 in
theorem law_mc_ok (N M : Nat) (hN : N ≤ M) (hM : M ≤ 64) (A : Option Addr) (n c : Nat) (cs : List CallV) (w : World) (hn : n = cs.length) (hcs : CsAt w w.heap.size A cs) (ht : HTab w) (hn300 : n ≤ 300) :
    Calls Tryd.prog 5 #[.int .i64 N, .int .i64 M, .slice A n c] w fun e w' => e = .returned (.bool true) ∧ Below w.heap.size w w' := by
  have Hn := Lib.hid hn; clear hn
  have Hcs := Lib.hid hcs; clear hcs
  have HT : Hid (∀ W, Below w.heap.size w W → HTab W) := Lib.hid (fun W hW => tab_below ht hW (Nat.le_refl _)); clear ht
  go_enter Tryd.func5, Tryd.ntmps5
  go_wp2_with fail
  refine (works13 w).mono ?_
  rintro e w1 ⟨rfl, hb1⟩
  have B1 := Lib.hid hb1; clear hb1
  have q0 : ¬ ((300 : Int) < n) := by omega
  have q00 : decide ((300 : Int) < n) = false := decide_eq_false q0
  go_wp2_with fail
  refine (mem_New N M hN hM w1).mono ?_
  rintro e w2 ⟨m, rfl, hmo, hbs, hB, hd, hm, hbe⟩
  have S1 := Lib.hid B1.out.size
  have Hm2 := Lib.hid (hm.mono S1.out)
  have Hf := Lib.hid (show m.most = M ∧ m.B = List.replicate (4096 * N) 0 ∧ m.d = List.replicate 64 false from ⟨hmo, hB, hd⟩)
  have Hge := Lib.hid (fun k (hk : m.foot k) => And.intro (hm.ge k hk) (hm.lt k hk))
  have B2 := Lib.hid (B1.out.trans (hbe.mono S1.out))
  clear hmo hbs hB hd hm hbe
  go_wp2_with fail
  refine (ref13_New N M hN hM w2).mono ?_
  rintro e w3 ⟨r, rfl, hmo, hB, hd, hr, hbe⟩
  have Hr3 := Lib.hid (hr.mono B2.out.size)
  have Hm3 := Lib.hid (Hm2.out.below hbe)
  have Hfr := Lib.hid (show r.most = M ∧ r.B = List.replicate (4096 * N) 0 ∧ r.d = List.replicate 64 false from ⟨hmo, hB, hd⟩)
  have Hger := Lib.hid (fun k (hk : r.foot k) => And.intro (hr.ge k hk) (hr.lt k hk))
  have B3 := Lib.hid (B2.out.trans (hbe.mono B2.out.size))
  have HS23 := Lib.hid hbe.size
  clear hmo hB hd hr hbe Hm2
  go_wp2_with fail
  refine (mem_New N M hN hM w3).mono ?_
  rintro e w4 ⟨m2, rfl, hmo, hbs, hB, hd, hm, hbe⟩
  have Hm4 := Lib.hid (Hm3.out.below hbe)
  have Hr4 := Lib.hid (Hr3.out.below hbe)
  have Hmm4 := Lib.hid (hm.mono B3.out.size)
  have Hf2 := Lib.hid (show m2.most = M ∧ m2.B = List.replicate (4096 * N) 0 ∧ m2.d = List.replicate 64 false from ⟨hmo, hB, hd⟩)
  have Hge2 := Lib.hid (fun k (hk : m2.foot k) => And.intro (hm.ge k hk) (hm.lt k hk))
  have B4 := Lib.hid (B3.out.trans (hbe.mono B3.out.size))
  have HS34 := Lib.hid hbe.size
  clear hmo hbs hB hd hm hbe Hm3 Hr3
  go_wp2_with fail
  refine (ref13_New N M hN hM w4).mono ?_
  rintro e w5 ⟨r2, rfl, hmo, hB, hd, hr, hbe⟩
  have Hm5 := Lib.hid (Hm4.out.below hbe)
  have Hr5 := Lib.hid (Hr4.out.below hbe)
  have Hmm5 := Lib.hid (Hmm4.out.below hbe)
  have Hrr5 := Lib.hid (hr.mono B4.out.size)
  have Hfr2 := Lib.hid (show r2.most = M ∧ r2.B = List.replicate (4096 * N) 0 ∧ r2.d = List.replicate 64 false from ⟨hmo, hB, hd⟩)
  have Hger2 := Lib.hid (fun k (hk : r2.foot k) => And.intro (hr.ge k hk) (hr.lt k hk))
  have B5 := Lib.hid (B4.out.trans (hbe.mono B4.out.size))
  have SZ := Lib.hid (And.intro HS23.out (And.intro HS34.out hbe.size))
  clear hmo hB hd hr hbe Hm4 Hr4 Hmm4
  go_wp2_with fail
  have hraw := Raw.start (w1 := w1) Hm5.out Hr5.out Hmm5.out Hrr5.out B5.out Hge.out Hger.out Hge2.out Hger2.out SZ.out.1 SZ.out.2.1 SZ.out.2.2
  obtain ⟨g0, hg0⟩ : ∃ g0, g0 = w5.heap.size := ⟨_, rfl⟩
  rw [← hg0] at hraw ⊢
  clear hg0
  generalize w5.alloc _ = w6 at *
  have HS : Hid (LC w M g0 0 0 0 none m r m2 r2 (bag0 g0) w6) := Lib.hid ⟨hraw, ⟨by rw [Hf.out.2.1, Hfr.out.2.1], by rw [Hf.out.2.2, Hfr.out.2.2], by rw [Hf.out.1, Hfr.out.1]⟩, ⟨by rw [Hf2.out.2.1, Hfr2.out.2.1], by rw [Hf2.out.2.2, Hfr2.out.2.2], by rw [Hf2.out.1, Hfr2.out.1]⟩, Hf.out.1, Hf2.out.1, rfl, rfl, Nat.le_refl _, Nat.zero_le _, by simp [bag0], by omega⟩
  clear hraw
  go_loopw [8, 10, 12, 14, 17, 18] (fun a x b y gr i wr => LCrel w M g0 n a x b y gr i wr) (fun _ _ _ _ _ i _ => n - (intOf i).toNat)
  case atStart => exact ⟨0, 0, m, r, m2, r2, _, Nat.zero_le _, rfl, rfl, rfl, rfl, rfl, rfl, HS.out⟩
  case round =>
    clear HS Hf Hfr Hf2 Hfr2 Hge Hger Hge2 Hger2 Hm5 Hr5 Hmm5 Hrr5 B1 B2 B3 B4 B5 S1 SZ
    obtain ⟨k, gr, m, r, m2, r2, bg, hk, rfl, rfl, rfl, rfl, rfl, rfl, hlc⟩ := hrel
    have HL := Lib.hid hlc; clear hlc
    by_cases hlt : k < n
    · obtain ⟨x, hx⟩ : ∃ x, cs[k]? = some x := ⟨_, List.getElem?_eq_getElem (by rw [← Hn.out]; exact hlt)⟩
      obtain ⟨bc, o, rfl, hbc, h0, h1, h2, h3, h4, hok⟩ := (Hcs.out.below HL.out.raw.bel).at_ k x hx
      have Hok := Lib.hid hok; clear hok hx
      have hk0 : (0 : Int) ≤ k := by omega
      have hk2 : (k : Int) < n := by omega
      go_upto_if 100 with fail
      have HB : Hid (LC w M g0 k k gr (some (wr.heap.size, x.cells)) m r m2 r2 bg (wr.alloc (.cells #[.int .i64 x.d, .bool x.s, .int .u64 x.a, .int .i64 x.n, .int .u64 x.v] 71))) := Lib.hid (HL.out.box x)
      clear HL h0 h1 h2 h3 h4
      generalize wr.alloc (.cells #[.int .i64 x.d, .bool x.s, .int .u64 x.a, .int .i64 x.n, .int .u64 x.v] 71) = wb at *
      generalize wr.heap.size = gb at *
      go_cut [8, 10, 12, 14] (fun a b c d wx => Cut1 w M g0 k gr gb x bg a b c d wx)
      case first =>
        cases hs : x.s with
        | false =>
          have Hs := Lib.hid hs; clear hs
          go_wp2_with fail
          go_meet
          exact ⟨m, r, m2, r2, rfl, rfl, rfl, rfl, HB.out⟩
        | true =>
          have Hs := Lib.hid hs; clear hs
          go_wp2_with fail
          go_meet
          exact ⟨m2, r2, m, r, rfl, rfl, rfl, rfl, HB.out.swap⟩
      case rest =>
        clear HB
        obtain ⟨m, r, m2, r2, rfl, rfl, rfl, rfl, hlc⟩ := hcut
        have HL := Lib.hid hlc; clear hlc
        have hc0 : wc.cell? ⟨gb, 0, none⟩ = some (.int .i64 x.d) := HL.out.cells 0
        go_upto_block 2 with fail
        go_cut [8, 10, 17] (fun a b c wx => Cut2 w M g0 k gb x m2 r2 a b c wx)
        case first =>
          by_cases hd0 : x.d = 0
          · refine sw_0 (bg := bg) Hok (by omega) hM HL hd0 _ _ _ _ _ _ _ _ _ _ _ _ _ _ _ _ _ _ _ _ _ _ _ _ _ _ _ _ _ _ _ _ _ _ _ _ _ _ _ _ _ _ _ _ _ _ _ _ _ _ _ _ _ _ _ _ _ _ _ _ _ _ _ _ _ _ _ _ _ _ _ _ _ _ _ _ _ _ _ _ _ _ _ _ _ _ _ _ _ _ _ _ _ _ _ _ _ _ _ _ _ _ _ _ _ _ _ _ _ _ _ _ _ _ _ _ _ _ _ _ _ _ _ _ _ _ _ _ _ _ _ _ _ _ _ _ _ _ _ _ _ _ _ _ _ _ _ _ _ _ _ _ _ _ _ _ _ _ _ _ _ _ _ _ _ _ _ _ _ _ _ _ _ _ _ _ _ _ _ _ _ _ _ _ _ _ _ _ _ _ _ _ _ _ _ _ _ _ _ _ _ _ _ _ _ _ _ _ _ _ _ _ _ _ _ _ _ _ _ _ _ _ _ _ _ _ _ _ _ _ _ _ _ _ _ _ _ _ _ _ _ _ _ _ _ _ _ _ _ _ _ _ ?_
            refine Lib.hid ?_
            intros
            rename_i hcut2
            go_wp2_with fail
            go_meet
            exact hcut2
          by_cases hd1 : x.d = 1
          · refine sw_1 (bg := bg) Hok (by omega) hM HL hd1 _ _ _ _ _ _ _ _ _ _ _ _ _ _ _ _ _ _ _ _ _ _ _ _ _ _ _ _ _ _ _ _ _ _ _ _ _ _ _ _ _ _ _ _ _ _ _ _ _ _ _ _ _ _ _ _ _ _ _ _ _ _ _ _ _ _ _ _ _ _ _ _ _ _ _ _ _ _ _ _ _ _ _ _ _ _ _ _ _ _ _ _ _ _ _ _ _ _ _ _ _ _ _ _ _ _ _ _ _ _ _ _ _ _ _ _ _ _ _ _ _ _ _ _ _ _ _ _ _ _ _ _ _ _ _ _ _ _ _ _ _ _ _ _ _ _ _ _ _ _ _ _ _ _ _ _ _ _ _ _ _ _ _ _ _ _ _ _ _ _ _ _ _ _ _ _ _ _ _ _ _ _ _ _ _ _ _ _ _ _ _ _ _ _ _ _ _ _ _ _ _ _ _ _ _ _ _ _ _ _ _ _ _ _ _ _ _ _ _ _ _ _ _ _ _ _ _ _ _ _ _ _ _ _ _ _ _ _ _ _ _ _ _ _ _ _ _ _ _ _ _ _ ?_
            refine Lib.hid ?_
            intros
            rename_i hcut2
            go_wp2_with fail
            go_meet
            exact hcut2
          by_cases hd3 : x.d = 3
          · refine sw_3 (bg := bg) Hok (by omega) hM HL hd3 _ _ _ _ _ _ _ _ _ _ _ _ _ _ _ _ _ _ _ _ _ _ _ _ _ _ _ _ _ _ _ _ _ _ _ _ _ _ _ _ _ _ _ _ _ _ _ _ _ _ _ _ _ _ _ _ _ _ _ _ _ _ _ _ _ _ _ _ _ _ _ _ _ _ _ _ _ _ _ _ _ _ _ _ _ _ _ _ _ _ _ _ _ _ _ _ _ _ _ _ _ _ _ _ _ _ _ _ _ _ _ _ _ _ _ _ _ _ _ _ _ _ _ _ _ _ _ _ _ _ _ _ _ _ _ _ _ _ _ _ _ _ _ _ _ _ _ _ _ _ _ _ _ _ _ _ _ _ _ _ _ _ _ _ _ _ _ _ _ _ _ _ _ _ _ _ _ _ _ _ _ _ _ _ _ _ _ _ _ _ _ _ _ _ _ _ _ _ _ _ _ _ _ _ _ _ _ _ _ _ _ _ _ _ _ _ _ _ _ _ _ _ _ _ _ _ _ _ _ _ _ _ _ _ _ _ _ _ _ _ _ _ _ _ _ _ _ _ _ _ _ _ ?_
            refine Lib.hid ?_
            intros
            rename_i hcut2
            go_wp2_with fail
            go_meet
            exact hcut2
          by_cases hd4 : x.d = 4
          · refine sw_4 (bg := bg) Hok (by omega) hM HL hd4 _ _ _ _ _ _ _ _ _ _ _ _ _ _ _ _ _ _ _ _ _ _ _ _ _ _ _ _ _ _ _ _ _ _ _ _ _ _ _ _ _ _ _ _ _ _ _ _ _ _ _ _ _ _ _ _ _ _ _ _ _ _ _ _ _ _ _ _ _ _ _ _ _ _ _ _ _ _ _ _ _ _ _ _ _ _ _ _ _ _ _ _ _ _ _ _ _ _ _ _ _ _ _ _ _ _ _ _ _ _ _ _ _ _ _ _ _ _ _ _ _ _ _ _ _ _ _ _ _ _ _ _ _ _ _ _ _ _ _ _ _ _ _ _ _ _ _ _ _ _ _ _ _ _ _ _ _ _ _ _ _ _ _ _ _ _ _ _ _ _ _ _ _ _ _ _ _ _ _ _ _ _ _ _ _ _ _ _ _ _ _ _ _ _ _ _ _ _ _ _ _ _ _ _ _ _ _ _ _ _ _ _ _ _ _ _ _ _ _ _ _ _ _ _ _ _ _ _ _ _ _ _ _ _ _ _ _ _ _ _ _ _ _ _ _ _ _ _ _ _ _ _ ?_
            refine Lib.hid ?_
            intros
            rename_i hcut2
            go_wp2_with fail
            go_meet
            exact hcut2
          by_cases hd6 : x.d = 6
          · refine sw_6 (bg := bg) Hok (by omega) hM HL hd6 _ _ _ _ _ _ _ _ _ _ _ _ _ _ _ _ _ _ _ _ _ _ _ _ _ _ _ _ _ _ _ _ _ _ _ _ _ _ _ _ _ _ _ _ _ _ _ _ _ _ _ _ _ _ _ _ _ _ _ _ _ _ _ _ _ _ _ _ _ _ _ _ _ _ _ _ _ _ _ _ _ _ _ _ _ _ _ _ _ _ _ _ _ _ _ _ _ _ _ _ _ _ _ _ _ _ _ _ _ _ _ _ _ _ _ _ _ _ _ _ _ _ _ _ _ _ _ _ _ _ _ _ _ _ _ _ _ _ _ _ _ _ _ _ _ _ _ _ _ _ _ _ _ _ _ _ _ _ _ _ _ _ _ _ _ _ _ _ _ _ _ _ _ _ _ _ _ _ _ _ _ _ _ _ _ _ _ _ _ _ _ _ _ _ _ _ _ _ _ _ _ _ _ _ _ _ _ _ _ _ _ _ _ _ _ _ _ _ _ _ _ _ _ _ _ _ _ _ _ _ _ _ _ _ _ _ _ _ _ _ _ _ _ _ _ _ _ _ _ _ _ _ ?_
            refine Lib.hid ?_
            intros
            rename_i hcut2
            go_wp2_with fail
            go_meet
            exact hcut2
          by_cases hd7 : x.d = 7
          · refine sw_7 (bg := bg) Hok (by omega) hM HL hd7 _ _ _ _ _ _ _ _ _ _ _ _ _ _ _ _ _ _ _ _ _ _ _ _ _ _ _ _ _ _ _ _ _ _ _ _ _ _ _ _ _ _ _ _ _ _ _ _ _ _ _ _ _ _ _ _ _ _ _ _ _ _ _ _ _ _ _ _ _ _ _ _ _ _ _ _ _ _ _ _ _ _ _ _ _ _ _ _ _ _ _ _ _ _ _ _ _ _ _ _ _ _ _ _ _ _ _ _ _ _ _ _ _ _ _ _ _ _ _ _ _ _ _ _ _ _ _ _ _ _ _ _ _ _ _ _ _ _ _ _ _ _ _ _ _ _ _ _ _ _ _ _ _ _ _ _ _ _ _ _ _ _ _ _ _ _ _ _ _ _ _ _ _ _ _ _ _ _ _ _ _ _ _ _ _ _ _ _ _ _ _ _ _ _ _ _ _ _ _ _ _ _ _ _ _ _ _ _ _ _ _ _ _ _ _ _ _ _ _ _ _ _ _ _ _ _ _ _ _ _ _ _ _ _ _ _ _ _ _ _ _ _ _ _ _ _ _ _ _ _ _ _ ?_
            refine Lib.hid ?_
            intros
            rename_i hcut2
            go_wp2_with fail
            go_meet
            exact hcut2
          · refine sw_d (bg := bg) Hok (by omega) hM HL hd0 hd1 hd3 hd4 hd6 hd7 _ _ _ _ _ _ _ _ _ _ _ _ _ _ _ _ _ _ _ _ _ _ _ _ _ _ _ _ _ _ _ _ _ _ _ _ _ _ _ _ _ _ _ _ _ _ _ _ _ _ _ _ _ _ _ _ _ _ _ _ _ _ _ _ _ _ _ _ _ _ _ _ _ _ _ _ _ _ _ _ _ _ _ _ _ _ _ _ _ _ _ _ _ _ _ _ _ _ _ _ _ _ _ _ _ _ _ _ _ _ _ _ _ _ _ _ _ _ _ _ _ _ _ _ _ _ _ _ _ _ _ _ _ _ _ _ _ _ _ _ _ _ _ _ _ _ _ _ _ _ _ _ _ _ _ _ _ _ _ _ _ _ _ _ _ _ _ _ _ _ _ _ _ _ _ _ _ _ _ _ _ _ _ _ _ _ _ _ _ _ _ _ _ _ _ _ _ _ _ _ _ _ _ _ _ _ _ _ _ _ _ _ _ _ _ _ _ _ _ _ _ _ _ _ _ _ _ _ _ _ _ _ _ _ _ _ _ _ _ _ _ _ _ _ _ _ _ _ _ _ _ _ ?_
            refine Lib.hid ?_
            intros
            rename_i hcut2
            go_wp2_with fail
            go_meet
            exact hcut2
        case rest =>
          obtain ⟨m, r, gr, bg, rfl, rfl, rfl, hlc⟩ := hcut
          clear HL hc0
          have HL := Lib.hid hlc; clear hlc
          obtain ⟨hn1, hn2, hn3, hn4⟩ := HL.out.np
          have hd4 : r.B.length / 4096 = m.bs.length := by rw [hn4, Nat.mul_div_cancel_left _ (by omega)]
          have Hd4 := Lib.hid hd4
          clear hn3 hn4 hd4
          have hil : bg.il.length = k := HL.out.il
          have Hil := Lib.hid hil; clear hil
          obtain ⟨wd, hwd⟩ : ∃ wd : World, wd = wc := ⟨_, rfl⟩
          subst hwd
          go_wp2_with fail
          refine (mem_Dirty _ m wd HL.out.raw.at1).mono ?_
          rintro e w1 ⟨A1, c1, rfl, hown, hbe⟩
          have hdn := dirtyL_le m.d 64
          have hlen : (dirtyL m.d 64).length = (dirtyL m.d 64).length := rfl
          obtain ⟨dl, hdl⟩ : ∃ dl, dl = dirtyL m.d 64 := ⟨_, rfl⟩
          have hdr : dirtyL r.d 64 = dl := by rw [← HL.out.t1.d, hdl]
          rw [← hdl] at hown hdn ⊢
          have Hdr := Lib.hid hdr
          clear hdl hlen hdr
          obtain ⟨dn, hdn2⟩ : ∃ dn, dn = dl.length := ⟨_, rfl⟩
          rw [← hdn2] at hown hdn ⊢
          have Hdn := Lib.hid hdn2; clear hdn2
          have Hown := Lib.hid hown
          have Hs1 := Lib.hid hbe.size
          have H1 := Lib.hid (HL.out.below hbe)
          have HRw := Lib.hid (H1.out.ints HL.out.raw.lt HL.out.raw.el.lt hown hdn HL.out.raw.bel.size)
          clear hown hbe
          have HC := Lib.hid (bag2_AddInts bg.g w.heap.size bg.il.length dn c1 bg.cI A1 bg.AI bg.cells (bg.il.map hdV) w1 HRw.out.hd.own rfl HRw.out.hd.ri (by rw [Hil.out]; omega) HRw.out.bel.size)
          rw [HL.out.g] at HC
          go_wp2_with fail
          refine HC.out.mono ?_
          rintro e w2 ⟨⟨ex, rfl⟩, A', c', hadd⟩
          have hadd' : Added w.heap.size bg.g 1 bg.il.length dn c1 66 A1 bg.AI bg.cells (bg.il.map hdV) w1 A' c' w2 := by rw [HL.out.g]; exact hadd
          obtain ⟨g1, g2, g3⟩ := HRw.out.hd.addI hadd'
          have Hown2 : Hid (w2.ownsRow wd.heap.size 3 1 (.slice A1 dn c1) dn (ivals dl)) := Lib.hid (own_keepb Hown.out fun q hq => g2.block q (Hown.out.lt q hq).2 (fun hc => by have h1 := (HL.out.raw.hd.lt hc).2; have h2 := (Hown.out.lt q hq).1; omega))
          have HR2 := Lib.hid (HRw.out.opB g2 g1 g3)
          clear hadd hadd' g1 g2 g3 HC HRw
          go_wp2_with fail
          refine (mem_Size _ m w2 HR2.out.at1).mono ?_
          rintro e w' ⟨rfl, rfl⟩
          go_wp2_with fail
          refine (ref13_Size _ r w2 HR2.out.at2).mono ?_
          rintro e w' ⟨rfl, rfl⟩
          rw [Hd4.out]
          have qs : ((m.bs.length : Int) != (m.bs.length : Int)) = false := by simp
          go_wp2_with fail
          refine (ref13_Dirty _ r w2 HR2.out.at2).mono ?_
          rintro e w3 ⟨A3, c3, rfl, hown, hbe⟩
          rw [Hdr.out] at hown ⊢
          rw [← Hdn.out] at hown ⊢
          have Hown3 := Lib.hid hown
          have Hown23 := Lib.hid (own_keptz Hown2.out hbe)
          have HR3 := Lib.hid (HR2.out.below hbe)
          clear hown hbe HR2 Hown2
          go_wp2_with fail
          refine (eq_ints A1 A3 dn dn c1 c3 w3.heap.size w3.heap.size w3 dl dl Hdn.out Hdn.out (by omega) (Row.own Hown23.out) (Row.own Hown3.out)).mono ?_
          rintro e w4 ⟨⟨kk, rfl⟩, rfl⟩
          rw [decide_eq_true rfl]
          have HR4 := Lib.hid (HR3.out.below (below_drewN (Below.refl _ _) kk))
          have HE : Hid (LC w M g0 (k + 1) (k + 1) gr none m r m2 r2 (bg.setI A' c' (A1, dn, c1)) (w3.drewN kk)) := Lib.hid ⟨HR4.out.unbox, HL.out.t1, HL.out.t2, HL.out.m1, HL.out.m2_, HL.out.g, by show (bg.il ++ [_]).length = _; rw [List.length_append, Hil.out]; rfl, HL.out.pl, HL.out.bl, HL.out.blg, HL.out.gr0⟩
          have hbx := HR4.out.box gb _ rfl
          have hc1 : (w3.drewN kk).cell? ⟨gb, 1, none⟩ = some (.bool x.s) := hbx.cell 1
          have hc1' : w3.cell? ⟨gb, 1, none⟩ = some (.bool x.s) := hc1
          clear hbx HR4 HR3 Hown3 Hown23 HL H1 hc1
          cases hs : x.s with
          | false =>
            rw [hs] at hc1'
            have Hs := Lib.hid hs; clear hs
            go_wp2_with fail
            exact ⟨⟨k + 1, gr, m, r, m2, r2, _, by omega, by go_num, rfl, rfl, rfl, rfl, rfl, HE.out⟩, by simp [intOf]; omega⟩
          | true =>
            rw [hs] at hc1'
            have Hs := Lib.hid hs; clear hs
            go_wp2_with fail
            exact ⟨⟨k + 1, gr, m2, r2, m, r, _, by omega, by go_num, rfl, rfl, rfl, rfl, rfl, HE.out.swap⟩, by simp [intOf]; omega⟩
    · obtain rfl : n = k := by omega
      clear Hcs
      have HL2 := Lib.hid HL.out.swap
      obtain ⟨hn1, hn2, hn3, hn4⟩ := HL.out.np
      have hd4 : r.B.length / 4096 = m.bs.length := by rw [hn4, Nat.mul_div_cancel_left _ (by omega)]
      have Hnp := Lib.hid (And.intro hn1 (And.intro hn2 (And.intro hn3 (And.intro hn4 hd4))))
      clear hn3 hn4 hd4
      obtain ⟨hm1, hm2', hm3, hm4⟩ := HL2.out.np
      have hd4 : r2.B.length / 4096 = m2.bs.length := by rw [hm4, Nat.mul_div_cancel_left _ (by omega)]
      have Hnp2 := Lib.hid (And.intro hm1 (And.intro hm2' (And.intro hm3 (And.intro hm4 hd4))))
      clear hm3 hm4 hd4 HL2
      go_wp2_with fail
      refine (mem_PagesT _ m wr HL.out.raw.at1).mono ?_
      rintro e w1 ⟨A1, k1, rfl, ⟨gp, hgp⟩, hbe⟩
      have HP := Lib.hid hgp
      have H1 := Lib.hid (HL.out.below hbe)
      clear hgp hbe
      go_wp2_with fail
      refine (ref13_Pages _ r w1 H1.out.raw.at2).mono ?_
      rintro e w2 ⟨A2, k2, rfl, ⟨gp2, hgp2⟩, hbe⟩
      rw [Hnp.out.2.2.2.2] at hgp2 ⊢
      have HP2 := Lib.hid hgp2
      have Hbe2 := Lib.hid hbe
      have H2 := Lib.hid (H1.out.below hbe)
      clear hgp2 hbe H1
      go_wp2_with fail
      refine (tw_same HL.out.t1.B Hnp.out.2.2.1 (by omega) HP.out HP2.out w2 Hbe2.out (Below.refl _ _)).mono ?_
      rintro e w3 ⟨hbe, rfl⟩
      have H3 := Lib.hid (H2.out.below hbe)
      clear hbe H2 HP HP2 Hbe2
      go_wp2_with fail
      refine (mem_PagesT _ m2 w3 H3.out.raw.at3).mono ?_
      rintro e w4 ⟨A3, k3, rfl, ⟨gp3, hgp3⟩, hbe⟩
      have HP := Lib.hid hgp3
      have H4 := Lib.hid (H3.out.below hbe)
      clear hgp3 hbe H3
      go_wp2_with fail
      refine (ref13_Pages _ r2 w4 H4.out.raw.at4).mono ?_
      rintro e w5 ⟨A4, k4, rfl, ⟨gp4, hgp4⟩, hbe⟩
      rw [Hnp2.out.2.2.2.2] at hgp4 ⊢
      have HP2 := Lib.hid hgp4
      have Hbe2 := Lib.hid hbe
      have H5 := Lib.hid (H4.out.below hbe)
      clear hgp4 hbe H4
      go_wp2_with fail
      refine (tw_same HL.out.t2.B Hnp2.out.2.2.1 (by omega) HP.out HP2.out w5 Hbe2.out (Below.refl _ _)).mono ?_
      rintro e w6 ⟨hbe, rfl⟩
      have H6 := Lib.hid (H5.out.below hbe)
      clear hbe H5 HP HP2 Hbe2
      have hil := H6.out.il
      have hpl := H6.out.pl
      have hbl := H6.out.bl
      have HC := Lib.hid (bag2_Apart w.heap.size bg w6 H6.out.raw.hd H6.out.raw.el (by omega) (by omega) (by omega) H6.out.raw.bel.size (fun W hW => HT.out W (H6.out.raw.bel.trans hW)))
      rw [H6.out.g] at HC
      have HB6 := Lib.hid H6.out.raw.bel
      clear H6 HL hil hpl hbl
      go_wp2_with fail
      refine HC.out.mono ?_
      rintro e w7 ⟨rfl, hbe⟩
      have HB7 := Lib.hid (HB6.out.trans hbe)
      clear hbe
      go_wp2_with fail
      go_ret
      exact ⟨rfl, HB7.out⟩
end Go.Proofs.YtndkhlafpcedbaaDoor
