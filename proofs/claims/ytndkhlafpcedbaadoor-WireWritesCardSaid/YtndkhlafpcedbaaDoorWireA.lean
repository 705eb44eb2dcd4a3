/- wire.ReadUvar and the reference's ReadUvar answer what 'uvar' says. -/
import Derived.Test.YtndkhlafpcedbaaDoorProg
import Derived.Test.YtndkhlafpcedbaaDoorBase
import Derived.Handy
namespace Go.Proofs.YtndkhlafpcedbaaDoor
set_option linter.unusedVariables false
open Go.RowKit
set_option maxRecDepth 100000 in
set_option maxHeartbeats 400000 in
theorem wire_ReadUvar (A : Option Addr) (n cap B : Nat) (p : Int) (w : World) (l : List UInt8) (hn : n = l.length) (h47 : n ≤ 140737488351232) (hr : Row w B A (l.map bv)) :
    Calls Tryd.prog 60 #[.slice A n cap, .int .i64 p] w fun e w' => w = w' ∧ e = .returned (.tuple #[.int .u64 (uvar l p).1, .int .i64 (uvar l p).2.1, .int .i64 (uvar l p).2.2]) := by
  have Hr := Lib.hid hr; clear hr
  have Hn := Lib.hid hn; clear hn
  by_cases h0 : 0 ≤ p
  · obtain ⟨q, rfl⟩ := Int.eq_ofNat_of_zero_le h0
    by_cases h1 : q ≤ n
    · go_enter Tryd.func60, Tryd.ntmps60
      go_wp2
      go_loop [7, 18] (fun v i => ∃ k x : Nat, k ≤ 10 ∧ x < 128 ^ k ∧ i = .int .i64 k ∧ v = .int .u64 x ∧ ruv (10 - k) k x (l.drop (q + k)) = ruv 10 0 0 (l.drop q)) (fun _ i => 10 - (intOf i).toNat)
      case atStart => exact ⟨0, 0, by omega, by omega, rfl, rfl, rfl⟩
      case round =>
        obtain ⟨k, x, hk, hx, rfl, rfl, hR⟩ := hrel
        have Hx := Lib.hid hx; clear hx
        have HR := Lib.hid hR; clear hR
        by_cases hlt : k < 10
        · have hten : 10 - k = (9 - k) + 1 := by omega
          have HR2 : Hid (ruv ((9 - k) + 1) k x (l.drop (q + k)) = ruv 10 0 0 (l.drop q)) := by rw [← hten]; exact HR
          clear hten
          by_cases hend : q + k < n
          · obtain ⟨b, o, rfl, _, hcell⟩ := Hr.out.byte (j := q + k) (by rw [← Hn.out]; exact hend)
            have HR3 : Hid (ruv ((9 - k) + 1) k x ((l[q + k]?.getD 0) :: l.drop (q + k + 1)) = ruv 10 0 0 (l.drop q)) := by
              rw [← drop_at l (q + k) (by rw [← Hn.out]; exact hend)]; exact HR2
            clear HR2 HR
            have hB : (l[q + k]?.getD 0).toNat < 256 := UInt8.toNat_lt _
            generalize l[q + k]?.getD 0 = c8 at *
            have HR4 := Lib.hid ((ruv_cons _ _ _ _ _).symm.trans HR3.out)
            generalize hc : c8.toNat = c at *
            have Hc := Lib.hid hc; clear hc HR3
            have hk0 : (0 : Int) ≤ q + k := by omega
            have hAcc : Hid (k = 9 → c ≤ 1) ∨ (k = 9 ∧ 1 < c) := by
              by_cases h : k = 9 ∧ 1 < c
              · exact .inr h
              · exact .inl (Lib.hid (by omega))
            rcases hAcc with h9c | ⟨h9, h1c⟩
            · have hnot : ¬ (k = 9 ∧ 1 < c) := by have := h9c.out; omega
              have HS : Hid ((if c < 128 then (if c = 0 ∧ 0 < k then (0, 0, 12) else (x + c % 128 * 128 ^ k, k + 1, 0)) else ruv (9 - k) (k + 1) (x + c % 128 * 128 ^ k) (l.drop (q + k + 1))) = ruv 10 0 0 (l.drop q)) := by
                have := HR4.out; rw [if_neg hnot] at this; exact this
              clear HR4 hnot
              have HA := Lib.hid (acc x c k (by omega) hB Hx.out h9c.out)
              have HL := Lib.hid (acc_lt' x c k Hx.out)
              have hnine : (k < 9 ∧ ((k:Int) == 9) = false) ∨ (((k:Int) == 9) = true ∧ c ≤ 1) := by
                by_cases h : k < 9
                · exact .inl ⟨h, by simp; omega⟩
                · exact .inr ⟨by simp; omega, h9c.out (by omega)⟩
              by_cases h128 : c < 128
              · by_cases hc0 : c = 0 ∧ 0 < k
                · obtain ⟨rfl, hk1⟩ := hc0
                  have HT : Hid ((0, 0, 12) = ruv 10 0 0 (l.drop q)) := by
                    have := HS.out; rw [if_pos (by omega), if_pos ⟨rfl, hk1⟩] at this; exact this
                  clear HS HA HL
                  rcases hnine with ⟨_, h9'⟩ | ⟨h9', _⟩ <;>
                  · go_wp2
                    go_ret3
                    rw [uvar_of l q (by rw [← Hn.out]; exact h1) HT.out.symm]
                    exact ⟨rfl, ret3 rfl rfl rfl⟩
                · have HT : Hid ((x + c % 128 * 128 ^ k, k + 1, 0) = ruv 10 0 0 (l.drop q)) := by
                    have := HS.out; rw [if_pos h128, if_neg hc0] at this; exact this
                  have hz : (((c : Int) == 0) = true ∧ ¬ (0 : Int) < k) ∨ ((c : Int) == 0) = false := by
                    by_cases h : c = 0
                    · exact .inl ⟨by simp; omega, by omega⟩
                    · exact .inr (by simp; omega)
                  clear HS
                  rcases hnine with ⟨_, h9'⟩ | ⟨h9', _⟩ <;> rcases hz with ⟨hz1, hz2⟩ | hz1 <;>
                  · go_wp2
                    go_ret3
                    rw [uvar_of l q (by rw [← Hn.out]; exact h1) HT.out.symm]
                    exact ⟨rfl, ret3 HA.out (by simp; omega) rfl⟩
              · have HT : Hid (ruv (9 - k) (k + 1) (x + c % 128 * 128 ^ k) (l.drop (q + k + 1)) = ruv 10 0 0 (l.drop q)) := by
                  have := HS.out; rw [if_neg h128] at this; exact this
                clear HS
                rcases hnine with ⟨_, h9'⟩ | ⟨h9', h⟩
                · go_wp2
                  go_round
                  case rel => exact ⟨k + 1, _, by omega, HL.out, by go_num, by rw [HA.out], by rw [← HT.out, show 10 - (k + 1) = 9 - k from by omega, show q + (k + 1) = q + k + 1 from by omega]⟩
                  case measure => simp [intOf]; omega
                · exact absurd h (by omega)
            · have HT : Hid ((0, 0, 11) = ruv 10 0 0 (l.drop q)) := by
                have := HR4.out; rw [if_pos ⟨h9, h1c⟩] at this; exact this
              clear HR4
              have h9' : ((k:Int) == 9) = true := by simp; omega
              have h1c2 : (1 : Int) < c := by omega
              clear h9 h1c
              go_wp2
              go_ret3
              rw [uvar_of l q (by rw [← Hn.out]; exact h1) HT.out.symm]
              exact ⟨rfl, ret3 rfl rfl rfl⟩
          · have HT : Hid ((0, 0, 10) = ruv 10 0 0 (l.drop q)) := by
              have := HR2.out
              rw [List.drop_of_length_le (by rw [← Hn.out]; omega), ruv_end] at this
              exact this
            go_wp2
            go_ret3
            rw [uvar_of l q (by rw [← Hn.out]; exact h1) HT.out.symm]
            exact ⟨rfl, ret3 rfl rfl rfl⟩
        · obtain rfl : k = 10 := by omega
          have HT : Hid ((0, 0, 11) = ruv 10 0 0 (l.drop q)) := HR.out
          go_wp2
          go_ret3
          rw [uvar_of l q (by rw [← Hn.out]; exact h1) HT.out.symm]
          exact ⟨rfl, ret3 rfl rfl rfl⟩
    · go_enter Tryd.func60, Tryd.ntmps60
      go_wp2
      go_ret3
      rw [uvar_bad l q (.inr (by rw [← Hn.out]; omega))]
      exact ⟨rfl, ret3 rfl rfl rfl⟩
  · go_enter Tryd.func60, Tryd.ntmps60
    go_wp2
    go_ret3
    rw [uvar_bad l p (.inl (by omega))]
    exact ⟨rfl, ret3 rfl rfl rfl⟩
end Go.Proofs.YtndkhlafpcedbaaDoor
