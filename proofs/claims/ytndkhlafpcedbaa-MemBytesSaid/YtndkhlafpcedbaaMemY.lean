/- The law MemBytes, walked. -/
import Derived.Test.YtndkhlafpcedbaaMemX
namespace Go.Proofs.Ytndkhlafpcedbaa
set_option linter.unusedVariables false
open Go.RowKit
theorem pow2_8 (n : Nat) : (2 : Int) ^ (8 * n) = ((256 ^ n : Nat) : Int) := by
  have e : (256 : Nat) ^ n = 2 ^ (8 * n) := by rw [Nat.pow_mul]
  rw [e]; simp
theorem and_mask (v n : Nat) (hv : v < 18446744073709551616) (hn : n < 8) :
    bits .and .u64 (v : Int) (IntKind.u64.wrap (IntKind.u64.wrap ((2 : Int) ^ (8 * n)) - 1)) = ((v % 256 ^ n : Nat) : Int) := by
  have h1 := pow256_le n (by omega)
  have h2 : 256 ^ n < 18446744073709551616 := by
    have := Nat.pow_lt_pow_right (show 1 < 256 by omega) hn
    exact Nat.lt_of_lt_of_le this (by decide)
  have h3 : 0 < 256 ^ n := Nat.pow_pos (by omega)
  have e : IntKind.u64.wrap ((2 : Int) ^ (8 * n)) = ((256 ^ n : Nat) : Int) := by rw [pow2_8, IntKind.wrap_u64]; omega
  have e3 : IntKind.u64.wrap (((256 ^ n : Nat) : Int) - 1) = ((256 ^ n - 1 : Nat) : Int) := by rw [IntKind.wrap_u64]; omega
  rw [e, e3]
  rw [u64_and_nat v _ hv (by omega)]
  have e2 : (256 : Nat) ^ n = 2 ^ (8 * n) := by rw [Nat.pow_mul]
  rw [e2, Nat.and_two_pow_sub_one_eq_mod]
theorem and_byte (v k : Nat) (hv : v < 18446744073709551616) :
    bits .and .u64 ((v : Int) / 2 ^ (8 * k)) 255 = ((v / 256 ^ k % 256 : Nat) : Int) := by
  rw [pow2_8, show ((v : Int) / ((256 ^ k : Nat) : Int)) = ((v / 256 ^ k : Nat) : Int) from by simp]
  have h : v / 256 ^ k ≤ v := Nat.div_le_self _ _
  rw [show (255 : Int) = ((255 : Nat) : Int) from rfl, u64_and_nat _ _ (by omega) (by omega)]
  have := Nat.and_two_pow_sub_one_eq_mod (v / 256 ^ k) 8
  rw [show (255 : Nat) = 2 ^ 8 - 1 from rfl, this]
theorem liesB_true {L a : Nat} {n : Int} (h : liesB L a n = true) : (n = 1 ∨ n = 2 ∨ n = 4 ∨ n = 8) ∧ n ≤ L ∧ (a : Int) ≤ L - n := by
  unfold liesB at h; exact of_decide_eq_true h
def MbRel (n : Nat) (w : World) (i : Value) (wr : World) : Prop := ∃ k : Nat, k ≤ n ∧ i = .int .i64 k ∧ wr = w
set_option maxRecDepth 100000 in
set_option maxHeartbeats 2000000 in
theorem walk_MemBytes (pages most : Int) (a : Nat) (n : Int) (v o : Nat) (w : World) (ha : a < 18446744073709551616) (hn : -9223372036854775808 ≤ n ∧ n < 9223372036854775808) (hv : v < 18446744073709551616) (ho : o < 18446744073709551616) :
    Calls Try.prog 9 #[.int .i64 pages, .int .i64 most, .int .u64 a, .int .i64 n, .int .u64 v, .int .u64 o] w fun e w' => e = .returned (.bool true) ∧ Below w.heap.size w w' := by
  by_cases hbad : newBad pages most
  · have HB := Lib.hid hbad; clear hbad
    go_enter Try.func9, Try.ntmps9
    go_wp2_with fail
    refine (works13 w).mono ?_
    rintro e w1 ⟨rfl, h1⟩
    have H1 := Lib.hid h1; clear h1
    go_wp2_with fail
    refine (mem_New_bad _ _ HB.out w1).mono ?_
    rintro e w' ⟨rfl, rfl⟩
    go_wp2_with fail
    go_ret
    exact ⟨rfl, H1.out⟩
  · obtain ⟨N, rfl⟩ := Int.eq_ofNat_of_zero_le (show 0 ≤ pages by unfold newBad at hbad; omega)
    obtain ⟨M, rfl⟩ := Int.eq_ofNat_of_zero_le (show 0 ≤ most by unfold newBad at hbad; omega)
    have HNM : Hid (N ≤ M) := Lib.hid (by unfold newBad at hbad; omega)
    have HM64 : Hid (M ≤ 64) := Lib.hid (by unfold newBad at hbad; omega)
    clear hbad
    go_enter Try.func9, Try.ntmps9
    go_wp2_with fail
    refine (works13 w).mono ?_
    rintro e w1 ⟨rfl, h1⟩
    have H1 := Lib.hid h1; clear h1
    go_wp2_with fail
    refine (mem_New N M HNM.out HM64.out w1).mono ?_
    rintro e w2 ⟨m, rfl, hmo, hbs, hB, hd, hm, hbel⟩
    have HM := Lib.hid hm; clear hm
    have H2 := Lib.hid (H1.out.trans (hbel.mono H1.out.size)); clear hbel
    have Hge := Lib.hid (fun k hk => Nat.le_trans H1.out.size (HM.out.ge k hk))
    have Hd : Hid (m.d = noD) := Lib.hid hd
    have HL : Hid (m.B.length ≤ 262144) := Lib.hid (by have := HM.out.len; have := HM.out.np; have := HM.out.most; omega)
    clear hmo hbs hB hd HNM HM64
    go_wp2_with fail
    refine (mem_Load _ m o 1 w2 HM.out ho).mono ?_
    rintro e w' ⟨rfl, rfl⟩
    obtain ⟨t, ht⟩ : ∃ t, t = liesB m.B.length o 1 := ⟨_, rfl⟩
    obtain ⟨was, hwas⟩ : ∃ x, x = (if liesB m.B.length o 1 = true then ld m.B o (1 : Int).toNat else 0 : Nat) := ⟨_, rfl⟩
    have Ht := Lib.hid ht; clear ht
    have Hwas := Lib.hid hwas; clear hwas
    rw [← Hwas.out, ← Ht.out]
    go_wp2_with fail
    refine (mem_Store _ m a v n w2 HM.out ha hv).mono ?_
    cases hb : liesB m.B.length a n with
    | false =>
      rw [if_neg (by simp)]
      rintro e w3 ⟨rfl, hm, hk⟩
      have HM3 := Lib.hid hm; clear hm
      have H3 : Hid (Below w.heap.size w w3) := Lib.hid (H2.out.trans (hk.below Hge.out H2.out.size))
      clear hk
      have Hb := Lib.hid hb; clear hb
      go_wp2_with fail
      refine (mem_Load _ m a n w3 HM3.out ha).mono ?_
      rw [Hb.out, if_neg (by simp)]
      rintro e w' ⟨rfl, rfl⟩
      go_wp2_with fail
      refine (mem_Dirty _ m w3 HM3.out).mono ?_
      unfold DirtyPost
      rw [Hd.out, dirtyL_no]
      rintro e w4 ⟨A, c, rfl, h1, h2⟩
      have H4 : Hid (Below w.heap.size w w4) := Lib.hid (H3.out.trans (h2.mono H3.out.size))
      clear h1 h2
      go_wp2_with fail
      go_ret
      exact ⟨rfl, H4.out⟩
    | true =>
      rw [if_pos rfl]
      rintro e w3 ⟨rfl, hm, hk⟩
      have HM3 := Lib.hid hm; clear hm
      have H3 : Hid (Below w.heap.size w w3) := Lib.hid (H2.out.trans (hk.below Hge.out H2.out.size))
      clear hk
      obtain ⟨h1, h2, h3⟩ := liesB_true hb
      obtain ⟨n, rfl⟩ := Int.eq_ofNat_of_zero_le (show 0 ≤ n by omega)
      rw [Int.toNat_natCast] at HM3
      have hn1 : 1 ≤ n := by omega
      have hn8 : n ≤ 8 := by omega
      have Hend : Hid (a + n ≤ m.B.length) := Lib.hid (by omega)
      have hend : a + n ≤ 262144 := by have := Hend.out; have := HL.out; omega
      have Hlen : Hid ((m.store a v n).B.length = m.B.length) := Lib.hid (st_len _ _ _ _)
      have Hall : Hid (ld (m.store a v n).B a n = v % 256 ^ n) := Lib.hid (ld_st_all _ _ _ _ Hend.out n (Nat.le_refl _))
      have Hone : Hid (∀ k, k < n → ld (m.store a v n).B (a + k) 1 = v / 256 ^ k % 256) := Lib.hid (fun k hk => ld_st_one _ _ _ _ _ Hend.out hk)
      have Hfar : Hid (o < a ∨ a + n ≤ o → ld (m.store a v n).B o 1 = ld m.B o 1) := Lib.hid (fun h => ld_st_far _ _ _ _ _ Hend.out h)
      have Hdir : Hid (dirtyL (m.store a v n).d 64 = if a / 4096 = (a + n - 1) / 4096 then [((a / 4096 : Nat) : Int)] else [((a / 4096 : Nat) : Int), (((a + n - 1) / 4096 : Nat) : Int)]) := Lib.hid (by
        show dirtyL (dt m.d a n) 64 = _
        rw [Hd.out]; exact dirty_store a n hn1 hn8 hend)
      have Hb : Hid (liesB (m.store a v n).B.length a n = true) := Lib.hid (by rw [Hlen.out]; exact hb)
      have Hb1 : Hid (∀ k, k < n → liesB (m.store a v n).B.length (a + k) 1 = true) := Lib.hid (fun k hk => by rw [Hlen.out]; unfold liesB; refine decide_eq_true ⟨.inl rfl, ?_, ?_⟩ <;> (have := Hend.out; omega))
      clear hb h1 h2 h3 hn
      rw [show m.p = (m.store a v n).p from rfl]
      generalize m.store a v n = m3 at *
      go_wp2_with fail
      refine (mem_Load _ m3 a n w3 HM3.out ha).mono ?_
      rw [Hb.out, if_pos rfl, Int.toNat_natCast, Hall.out]
      rintro e w' ⟨rfl, rfl⟩
      by_cases h8 : n < 8
      case' pos =>
        have hmask := and_mask v n hv h8
        have q8 : (n : Int) < 8 := by omega
        generalize v % 256 ^ n = X at *
        have hXX : ((X : Int) != X) = false := by simp
      case' neg =>
        have hX : v % 256 ^ n = v := by
          have : n = 8 := by omega
          subst this
          exact Nat.mod_eq_of_lt (by have := hv; simpa using this)
        have q8 : decide ((n : Int) < 8) = false := decide_eq_false (by omega)
        rw [hX]
        clear hX
        have hXX : ((v : Int) != v) = false := by simp
      all_goals
        clear h8
        have qn1 : decide ((n : Int) < 1) = false := decide_eq_false (by omega)
        have qn8 : decide ((8 : Int) < n) = false := decide_eq_false (by omega)
        go_wp2_with fail
        have q0 : (0 : Int) ≤ a := by omega
        go_loopw [23] (fun i wr => MbRel n w3 i wr) (fun i _ => n - (intOf i).toNat)
        case atStart => exact ⟨0, Nat.zero_le _, rfl, rfl⟩
        case round =>
          obtain ⟨k, hk, rfl, rfl⟩ := hrel
          by_cases hlt : k < n
          · have HLd := Lib.hid (mem_Load _ m3 (a + k) 1 _ HM3.out (by omega))
            have hq : Hid (liesB m3.B.length (a + k) 1 = true) := Lib.hid (Hb1.out k hlt)
            have hld : Hid (ld m3.B (a + k) (1 : Int).toNat = v / 256 ^ k % 256) := Lib.hid (Hone.out k hlt)
            rw [hq.out, if_pos rfl, hld.out] at HLd
            clear hq hld
            have hby := and_byte v k hv
            have hk8 : (8 : Int) * k < 64 := by omega
            have hk0 : (0 : Int) ≤ k := by omega
            have hak : (a : Int) + k < 18446744073709551616 := by omega
            have hak0 : (0 : Int) ≤ (a : Int) + k := by omega
            generalize v / 256 ^ k % 256 = Y at *
            have hYY : ((Y : Int) != Y) = false := by simp
            go_wp2_with fail
            rw [show ((a : Int) + k) = ((a + k : Nat) : Int) from by omega]
            refine HLd.out.mono ?_
            rintro e w' ⟨rfl, rfl⟩
            go_wp2_with fail
            exact ⟨⟨k + 1, by omega, by go_num, rfl⟩, by simp [intOf]; omega⟩
          · obtain rfl : k = n := by omega
            go_wp2_with fail
            refine (mem_Load _ m3 o 1 _ HM3.out ho).mono ?_
            rintro e w' ⟨rfl, rfl⟩
            rw [Hlen.out, ← Ht.out]
            have Hnow : Hid (o < a ∨ a + k ≤ o → (if t = true then ld m3.B o (1 : Int).toNat else 0) = was) := Lib.hid (fun h => by
              rw [Hwas.out, ← Ht.out]
              cases t
              · rfl
              · rw [if_pos rfl, if_pos rfl]; exact Hfar.out h)
            generalize (if t = true then ld m3.B o (1 : Int).toNat else 0) = now at *
            have htt : (t != t) = false := by cases t <;> rfl
            have hww : ((was : Int) != was) = false := by simp
            have r0 : (0 : Int) ≤ (o : Int) := by omega
            have r1 : (a : Int) + k < 18446744073709551616 := by omega
            clear hlt hk qn1 qn8 q8 hXX Hall Hone Hfar Hb Hb1 Hend Hlen HL Hd Hge HM
            by_cases hoa : o < a
            case' pos =>
              obtain rfl := Hnow.out (.inl hoa)
              have g1 : (o : Int) < a := by omega
            case' neg =>
              have g1 : a ≤ o := by omega
              have g1b : decide (o < a) = false := decide_eq_false (by omega)
              by_cases hon : a + k ≤ o
              case' pos =>
                obtain rfl := Hnow.out (.inr hon)
                obtain ⟨x, hx⟩ : ∃ x : Int, (o : Int) - a = x := ⟨_, rfl⟩
                have g0 : (0 : Int) ≤ x := by omega
                have g3 : x < 18446744073709551616 := by omega
                have g2 : (k : Int) ≤ x := by omega
              case' neg =>
                obtain ⟨x, hx⟩ : ∃ x : Int, (o : Int) - a = x := ⟨_, rfl⟩
                have g0 : (0 : Int) ≤ x := by omega
                have g3 : x < 18446744073709551616 := by omega
                have g2 : decide ((k : Int) ≤ x) = false := decide_eq_false (by omega)
            all_goals
              try clear hoa
              try clear hon
              clear Hnow
              go_wp2_with fail
              refine (mem_Dirty _ m3 _ HM3.out).mono ?_
              unfold DirtyPost
              by_cases hp : a / 4096 = (a + k - 1) / 4096
              · rw [Hdir.out, if_pos hp]
                rintro e w4 ⟨A, c, rfl, h1, h2⟩
                have H4 : Hid (Below w.heap.size w w4) := Lib.hid (H3.out.trans (h2.mono H3.out.size))
                obtain ⟨b1, o1, rfl, _, hcell⟩ := ivals_cell (Row.own h1) (k := 0) (Nat.zero_lt_succ _)
                have hc0 : w4.cell? ⟨b1, o1, none⟩ = some (.int .i64 ((a : Int) / 4096)) := hcell
                have hp' : ((a : Int) + k - 1) / 4096 = (a : Int) / 4096 := by omega
                clear h1 h2 hcell hp
                go_wp2_with fail
                go_ret
                exact ⟨rfl, H4.out⟩
              · rw [Hdir.out, if_neg hp]
                rintro e w4 ⟨A, c, rfl, h1, h2⟩
                have H4 : Hid (Below w.heap.size w w4) := Lib.hid (H3.out.trans (h2.mono H3.out.size))
                have HR := Lib.hid (Row.own h1)
                obtain ⟨b1, o1, rfl, _, hcell⟩ := ivals_cell HR.out (k := 0) (Nat.zero_lt_succ _)
                obtain ⟨b2, o2, hA2, _, hcell2⟩ := ivals_cell HR.out (k := 1) (by simp)
                injection hA2 with hA2
                injection hA2 with e1 e2
                subst e1
                subst e2
                have hc0 : w4.cell? ⟨b1, o1, none⟩ = some (.int .i64 ((a : Int) / 4096)) := hcell
                have hc1 : w4.cell? ⟨b1, o1 + 1, none⟩ = some (.int .i64 (((a : Int) + k - 1) / 4096)) := by
                  rw [show ((a : Int) + k - 1) / 4096 = (((a + k - 1) / 4096 : Nat) : Int) from by omega]
                  exact hcell2
                clear h1 h2 hcell hcell2 hp HR
                go_wp2_with fail
                go_ret
                exact ⟨rfl, H4.out⟩
theorem walk_MemBytes' (pages most a n v o : Int) (w : World) (ha : 0 ≤ a ∧ a < 18446744073709551616) (hn : -9223372036854775808 ≤ n ∧ n < 9223372036854775808) (hv : 0 ≤ v ∧ v < 18446744073709551616) (ho : 0 ≤ o ∧ o < 18446744073709551616) :
    Calls Try.prog 9 #[.int .i64 pages, .int .i64 most, .int .u64 a, .int .i64 n, .int .u64 v, .int .u64 o] w fun e w' => e = .returned (.bool true) ∧ Below w.heap.size w w' := by
  obtain ⟨a, rfl⟩ := Int.eq_ofNat_of_zero_le ha.1
  obtain ⟨v, rfl⟩ := Int.eq_ofNat_of_zero_le hv.1
  obtain ⟨o, rfl⟩ := Int.eq_ofNat_of_zero_le ho.1
  exact walk_MemBytes pages most a n v o w (by omega) hn (by omega) (by omega)
end Go.Proofs.Ytndkhlafpcedbaa
