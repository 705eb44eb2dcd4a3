/- The law WireBack, walked. -/
import Derived.Test.YtndkhlafpcedbaaWireG
import Derived.Test.YtndkhlafpcedbaaBackP
import Derived.Deep.RegionWith
import Derived.Deep.RegionHeld3
import Derived.Deep.QuietTactic
import Derived.BigQuiet
namespace Go.Proofs.Ytndkhlafpcedbaa
set_option linter.unusedVariables false
open Go.RowKit
def BackRel (m S : Nat) (w3 : World) (i : Value) (wr : World) : Prop := ∃ k : Nat, k ≤ m ∧ i = .int .i64 k ∧ Below S w3 wr
set_option maxRecDepth 100000 in
set_option maxHeartbeats 1000000 in
theorem walk_WireBack (u : Nat) (n0 : Int) (s : ByteArray) (A3 A4 : Option Addr) (n3 c3 n4 c4 : Nat) (p : Int) (w : World) (l3 l4 : List UInt8) (hn3 : n3 = l3.length) (hn4 : n4 = l4.length) (hc4 : n4 ≤ c4)
    (hu : u < 18446744073709551616) (h0 : -9223372036854775808 ≤ n0 ∧ n0 < 9223372036854775808) (hs47 : s.size ≤ 140737488351232) (h473 : n3 ≤ 140737488351232) (h474 : n4 ≤ 140737488351232)
    (hr3 : Row w w.heap.size A3 (l3.map bv)) (hr4 : Row w w.heap.size A4 (l4.map bv)) :
    Calls Try.prog 3 #[.int .u64 u, .int .i64 n0, .string s, .slice A3 n3 c3, .slice A4 n4 c4, .int .i64 p] w fun e w' => e = .returned (.bool true) ∧ Below w.heap.size w w' := by
  have Hn3 := Lib.hid hn3; clear hn3
  have Hn4 := Lib.hid hn4; clear hn4
  have Hr3 := Lib.hid hr3; clear hr3
  have Hr4 := Lib.hid hr4; clear hr4
  have H0 := Lib.hid h0; clear h0
  by_cases hbig : 65536 < s.size + n3 + n4
  · go_enter Try.func3, Try.ntmps3
    go_wp2_with fail
    refine (works01 w).mono ?_
    rintro e w1 ⟨rfl, h1⟩
    have H1 := Lib.hid h1; clear h1
    go_wp2_with fail
    go_ret
    exact ⟨rfl, H1.out⟩
  · go_enter Try.func3, Try.ntmps3
    go_wp2_with fail
    refine (works01 w).mono ?_
    rintro e w1 ⟨rfl, h1⟩
    have H1 := Lib.hid h1; clear h1
    go_wp2_with fail
    refine (wire_Uvar u hu w1).mono ?_
    rintro e w2 ⟨Aa, ca, rfl, hown, h2⟩
    have Hown := Lib.hid hown; clear hown
    have H2 := Lib.hid (H1.out.trans (h2.mono H1.out.size)); clear h2
    have Hcap := Lib.hid (own_cap Hown.out)
    have hca : (enc u).length ≤ ca := Hcap.out.2
    have Hl10 := Lib.hid (enc_len10 u hu)
    have hl10 : (enc u).length ≤ 10 := Hl10.out
    go_wp2_with fail
    refine (law_joined A3 Aa A4 n3 (enc u).length n4 c3 ca c4 _ _ _ w2 l3 (enc u) l4 Hn3.out rfl Hn4.out (by omega) (Hr3.out.below H2.out) (Row.own Hown.out) (Hr4.out.below H2.out) H2.out.size (Nat.le_refl _) H2.out.size).mono ?_
    rintro e w3 ⟨Aj, cj, rfl, hj, h3⟩
    have HJ := Lib.hid (Row.own hj); clear hj
    have H3 := Lib.hid (H2.out.trans (h3.mono H2.out.size))
    have Hown3 := Lib.hid ((Row.own Hown.out).below h3)
    have h3size := Lib.hid h3.size; clear h3
    go_wp2_with fail
    refine (wire_ReadUvar Aj _ cj _ n3 w3 _ (by simp [Hn3.out, Hn4.out]; omega) (by omega) HJ.out).mono ?_
    rw [show (n3 : Int) = ((l3.length : Nat) : Int) from by rw [Hn3.out], uvar_enc l3 l4 u hu, ← Hn3.out]
    rintro e w' ⟨rfl, rfl⟩
    have hcast : Hid (((n3 + (enc u).length : Nat) : Int) = n3 + (enc u).length) := Lib.hid (by omega)
    generalize hel : (enc u).length = el at *
    have Hel := Lib.hid hel; clear hel
    go_wp2_with fail
    have HR4 : Hid (Row w3 w3.heap.size A4 (l4.map bv)) := Lib.hid ((Hr4.out.below H3.out).more H3.out.size)
    have HR3 : Hid (Row w3 w3.heap.size A3 (l3.map bv)) := Lib.hid ((Hr3.out.below H3.out).more H3.out.size)
    have HOa : Hid (Row w3 w3.heap.size Aa ((enc u).map bv)) := Lib.hid (Hown3.out.more h3size.out)
    go_loopw [19] (fun i wr => BackRel el w3.heap.size w3 i wr) (fun i _ => el - (intOf i).toNat)
    case atStart => exact ⟨0, by omega, rfl, Below.refl _ _⟩
    case round =>
      obtain ⟨k, hk, rfl, hbel⟩ := hrel
      obtain ⟨wo, rfl⟩ : ∃ wo : World, wo = wr := ⟨_, rfl⟩
      have Hbel := Lib.hid hbel; clear hbel
      by_cases hlt : k < el
      · have hk0 : (0 : Int) ≤ k := by omega
        have hkc : (k : Int) ≤ ca := by omega
        go_wp2_with fail
        have hlt' : k < (enc u).length := by rw [Hel.out]; exact hlt
        refine (law_joined A3 Aa none n3 k 0 c3 _ 0 _ _ 0 wo l3 ((enc u).take k) [] Hn3.out (by rw [List.length_take]; omega) rfl (by omega) (HR3.out.below Hbel.out) (by rw [List.map_take]; exact (HOa.out.below Hbel.out).cut k) (Row.nil _ _ _) Hbel.out.size Hbel.out.size (Nat.zero_le _)).mono ?_
        rintro e w4 ⟨Aj, cj, rfl, hj, h4⟩
        have HJ := Lib.hid (Row.own hj); clear hj
        have H4 := Lib.hid (Hbel.out.trans (h4.mono Hbel.out.size)); clear h4
        go_wp2_with fail
        refine (wire_ReadUvar Aj _ cj _ n3 w4 _ (by simp [Hn3.out]; omega) (by omega) HJ.out).mono ?_
        rw [show (n3 : Int) = ((l3.length : Nat) : Int) from by rw [Hn3.out], uvar_part l3 u k hu hlt', ← Hn3.out]
        rintro e w' ⟨rfl, rfl⟩
        go_wp2_with fail
        exact ⟨⟨k + 1, by omega, by go_num, H4.out⟩, by simp [intOf]; omega⟩
      · obtain rfl : k = el := by omega
        have H4 := Lib.hid (H3.out.trans (Hbel.out.mono H3.out.size))
        go_wp2_with fail
        refine (wire_Svar n0 H0.out.1 H0.out.2 wo).mono ?_
        rintro e w5 ⟨Ab, cb, rfl, hown5, h5⟩
        have Hown5 := Lib.hid hown5; clear hown5
        have H5 := Lib.hid (H4.out.trans (h5.mono H4.out.size)); clear h5
        have hl5 := enc_len10 (folded n0) (folded_lt n0 H0.out.1 H0.out.2)
        go_wp2_with fail
        refine (law_joined A3 Ab A4 n3 (enc (folded n0)).length n4 c3 cb c4 _ _ _ w5 l3 (enc (folded n0)) l4 Hn3.out rfl Hn4.out (by omega) (Hr3.out.below H5.out) (Row.own Hown5.out) (Hr4.out.below H5.out) H5.out.size (Nat.le_refl _) H5.out.size).mono ?_
        rintro e w6 ⟨Aj, cj, rfl, hj, h6⟩
        have HJ := Lib.hid (Row.own hj); clear hj
        have H6 := Lib.hid (H5.out.trans (h6.mono H5.out.size)); clear h6
        go_wp2_with fail
        refine (wire_ReadSvar Aj _ cj _ n3 w6 _ (by simp [Hn3.out, Hn4.out]; omega) (by omega) HJ.out).mono ?_
        rw [show (n3 : Int) = ((l3.length : Nat) : Int) from by rw [Hn3.out], uvar_enc l3 l4 (folded n0) (folded_lt n0 H0.out.1 H0.out.2), ← Hn3.out]
        rw [unfolded_folded n0 H0.out.1 H0.out.2]
        rintro e w' ⟨rfl, rfl⟩
        generalize hel5 : (enc (folded n0)).length = el5 at *
        clear hel5
        go_wp2_with fail
        refine (wire_Text s (by omega) w6).mono ?_
        rintro e w7 ⟨Ac, cc, rfl, hown7, h7⟩
        have Hown7 := Lib.hid hown7; clear hown7
        have H7 := Lib.hid (H6.out.trans (h7.mono H6.out.size)); clear h7
        have hl7 := enc_len10 s.size (by omega)
        go_wp2_with fail
        refine (law_joined A3 Ac A4 n3 ((enc s.size).length + s.size) n4 c3 cc c4 _ _ _ w7 l3 (enc s.size ++ s.data.toList) l4 Hn3.out (by simp) Hn4.out (by omega) (Hr3.out.below H7.out) (Row.own Hown7.out) (Hr4.out.below H7.out) H7.out.size (Nat.le_refl _) H7.out.size).mono ?_
        rintro e w8 ⟨Aj8, cj8, rfl, hj8, h8⟩
        have HJ8 := Lib.hid (Row.own hj8)
        have Hcj8 := Lib.hid (own_cap hj8); clear hj8
        have H8 := Lib.hid (H7.out.trans (h8.mono H7.out.size)); clear h8
        go_wp2_with fail
        refine (wire_ReadText Aj8 _ cj8 _ n3 s.size w8 _ (by simp [Hn3.out, Hn4.out]; omega) Hcj8.out.2 (by omega) HJ8.out (by omega)).mono ?_
        have htx := txt_enc l3 l4 s.data.toList (by simp; omega)
        rw [show s.data.toList.length = s.size from by simp] at htx
        rw [show (n3 : Int) = ((l3.length : Nat) : Int) from by rw [Hn3.out], htx, ← Hn3.out]
        rintro e w' ⟨rfl, rfl⟩
        rw [show ByteArray.mk s.data.toList.toArray = s from by cases s; simp]
        generalize hel8 : (enc s.size).length = el8 at *
        clear hel8 htx
        go_wp2_with fail
        have HR8 : Hid (Row w8 w.heap.size A4 (l4.map bv)) := Lib.hid (Hr4.out.below H8.out)
        have HC1 := Lib.hid (wire_ReadUvar A4 n4 c4 _ p w8 l4 Hn4.out h474 HR8.out)
        have HC2 := Lib.hid (fun (W : World) (hR : Row W w.heap.size A4 (l4.map bv)) => wire_ReadSvar A4 n4 c4 _ p W l4 Hn4.out h474 hR)
        have HF := Lib.hid (uvar_facts l4 p)
        have HI := Lib.hid (uvar_inv l4 p)
        generalize uvar l4 p = r at *
        obtain ⟨v, q, er⟩ := r
        simp only at HC1 HC2 HF HI
        refine HC1.out.mono ?_
        rintro e w' ⟨rfl, rfl⟩
        by_cases her : er = 0
        · subst her
          obtain ⟨a, rfl, haq, hq, henc⟩ := HI.out v q rfl
          have Henc := Lib.hid henc; clear henc
          rw [← Hn4.out] at hq
          have ha0 : (0 : Int) ≤ a := by omega
          have haq2 : (a : Int) ≤ q := by omega
          have hqc : (q : Int) ≤ c4 := by omega
          have hne : ¬ c4 = a := by omega
          have hv64 : v < 18446744073709551616 := HF.out.1
          have hlen : Hid (q - a = (enc v).length) := Lib.hid (by rw [Henc.out, List.length_take, List.length_drop, ← Hn4.out]; omega)
          go_wp2_with fail
          go_region_held3 (fun w' => Below w8.heap.size w8 w') (first | exact Below.refl _ _ | exact (Below.refl _ _).drew | assumption)
            (first
            | (go_at_call 14; refine (wire_Uvar v hv64 _).mono ?_; rintro e W1 ⟨A1, cc1, rfl, ho, hb⟩; have HO := Lib.hid (Row.own ho); have hS1 := below_of_drew hb; clear ho hb)
            | (go_at_call 21; refine (eq_bytes _ _ _ _ _ _ _ _ W1 (enc v) ((l4.drop a).take (q - a)) rfl (by rw [← Henc.out]; exact hlen.out) (by have := enc_len10 v hv64; omega) HO.out (by have := ((HR8.out.below' hS1 H8.out.size).drop a).cut (q - a); rw [List.map_take, List.map_drop]; exact this)).mono ?_; rintro e W2 ⟨⟨kk, rfl⟩, rfl⟩; rw [show decide (enc v = (l4.drop a).take (q - a)) = true from decide_eq_true Henc.out]; have hS2 := below_drewN hS1 kk))
          go_wp2_with fail
          refine (HC2.out _ (Row.drewN (HR8.out.below' hS1 H8.out.size) _)).mono ?_
          rintro e w' ⟨rfl, rfl⟩
          have hrng := unfolded_range v hv64
          have hfu := folded_unfolded v
          have Hfu := Lib.hid hfu; clear hfu
          generalize unfolded v = sv at *
          generalize hW : W1.drewN kk = W9 at *
          have H9 : Hid (Below w.heap.size w W9) := by rw [← hW]; exact Lib.hid (below_drewN (H8.out.trans (hS1.mono H8.out.size)) kk)
          clear hW hS2 hS1 HO
          go_wp2_with fail
          go_region_held3 (fun w' => Below W9.heap.size W9 w') (first | exact Below.refl _ _ | exact (Below.refl _ _).drew | assumption)
            (first
            | (go_at_call 17; refine (wire_Svar sv hrng.1 hrng.2 _).mono ?_; rintro e W10 ⟨A2, cc2, rfl, ho, hb⟩; rw [Hfu.out] at ho ⊢; have HO := Lib.hid (Row.own ho); have hS1 := below_of_drew hb; clear ho hb)
            | (go_at_call 21; refine (eq_bytes _ _ _ _ _ _ _ _ W10 (enc v) ((l4.drop a).take (q - a)) rfl (by rw [← Henc.out]; exact hlen.out) (by have := enc_len10 v hv64; omega) HO.out (by have := (((Hr4.out.below H9.out).below' hS1 H9.out.size).drop a).cut (q - a); rw [List.map_take, List.map_drop]; exact this)).mono ?_; rintro e W11 ⟨⟨k2, rfl⟩, rfl⟩; rw [show decide (enc v = (l4.drop a).take (q - a)) = true from decide_eq_true Henc.out]; have hS3 := below_drewN hS1 k2))
          go_wp2_with fail
          go_ret
          exact ⟨rfl, H9.out.trans (hS3.mono H9.out.size)⟩
        · have her0 : ((er : Int) == 0) = false := by simp; omega
          have her1 : ((er : Int) != 0) = true := by simp; omega
          go_wp2_with fail
          go_quiet (fail)
          go_wp2_with fail
          refine (HC2.out _ (Row.drewN HR8.out _)).mono ?_
          rintro e w' ⟨rfl, rfl⟩
          go_wp2_with fail
          go_quiet (fail)
          go_wp2_with fail
          go_ret
          exact ⟨rfl, below_drewN (below_drewN H8.out _) _⟩
theorem walk_WireBack' (u : Int) (n0 : Int) (s : ByteArray) (A3 A4 : Option Addr) (n3 c3 n4 c4 : Nat) (p : Int) (w : World) (l3 l4 : List UInt8) (hn3 : n3 = l3.length) (hn4 : n4 = l4.length) (hc4 : n4 ≤ c4)
    (hu : 0 ≤ u ∧ u < 18446744073709551616) (h0 : -9223372036854775808 ≤ n0 ∧ n0 < 9223372036854775808) (hs47 : s.size ≤ 140737488351232) (h473 : n3 ≤ 140737488351232) (h474 : n4 ≤ 140737488351232)
    (hr3 : Row w w.heap.size A3 (l3.map bv)) (hr4 : Row w w.heap.size A4 (l4.map bv)) :
    Calls Try.prog 3 #[.int .u64 u, .int .i64 n0, .string s, .slice A3 n3 c3, .slice A4 n4 c4, .int .i64 p] w fun e w' => e = .returned (.bool true) ∧ Below w.heap.size w w' := by
  obtain ⟨u, rfl⟩ := Int.eq_ofNat_of_zero_le hu.1
  exact walk_WireBack u n0 s A3 A4 n3 c3 n4 c4 p w l3 l4 hn3 hn4 hc4 (by omega) h0 hs47 h473 h474 hr3 hr4
end Go.Proofs.Ytndkhlafpcedbaa
