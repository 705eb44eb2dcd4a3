/- mem: Load. -/
import Derived.Test.YtndkhlafpcedbaaDoorMemA
import Derived.Test.YtndkhlafpcedbaaDoorMemV
namespace Go.Proofs.YtndkhlafpcedbaaDoor
set_option linter.unusedVariables false
open Go.RowKit
def LdRel (B : List UInt8) (a n : Nat) (w : World) (v i : Value) (wr : World) : Prop := ∃ k : Nat, k ≤ n ∧ i = .int .u64 k ∧ v = .int .u64 (ld B a k) ∧ wr = w
set_option maxRecDepth 100000 in
set_option maxHeartbeats 1000000 in
theorem mem_Load (base : Nat) (m : MemV) (a : Nat) (n : Int) (w : World) (hm : MAt base w m) (ha : a < 18446744073709551616) :
    Calls Tryd.prog 31 #[.pointer (some ⟨m.p, 0, none⟩), .int .u64 a, .int .i64 n] w fun e w' => w = w' ∧
      e = .returned (.tuple #[.int .u64 (if liesB m.B.length a n = true then ld m.B a n.toNat else 0 : Nat), .bool (liesB m.B.length a n)]) := by
  have HL := Lib.hid (mem_lies base m a n w hm ha)
  have HM := Lib.hid hm
  have hL := hm.len
  have hnp := hm.np
  have hmo := hm.most
  clear hm
  have HLies : Hid (liesB m.B.length a n = true → (n = 1 ∨ n = 2 ∨ n = 4 ∨ n = 8) ∧ n ≤ m.B.length ∧ (a : Int) ≤ m.B.length - n) := Lib.hid (fun h => by unfold liesB at h; exact of_decide_eq_true h)
  cases hb : liesB m.B.length a n with
  | false =>
    rw [hb] at HL
    rw [if_neg (by simp)]
    clear hb HLies
    go_enter Tryd.func31, Tryd.ntmps31
    go_wp2_with fail
    refine HL.out.mono ?_
    rintro e w' ⟨rfl, rfl⟩
    go_wp2_with fail
    go_ret2
    exact ⟨rfl, rfl⟩
  | true =>
    obtain ⟨h1, h2, h3⟩ := HLies.out hb
    rw [hb] at HL
    rw [if_pos rfl]
    obtain ⟨n, rfl⟩ := Int.eq_ofNat_of_zero_le (show 0 ≤ n by omega)
    have hn8 : n ≤ 8 := by omega
    have hend : a + n ≤ m.B.length := by omega
    have hbig : m.B.length ≤ 262144 := by omega
    clear hb HLies h1 h2 h3 hL hnp hmo
    go_enter Tryd.func31, Tryd.ntmps31
    go_wp2_with fail
    refine HL.out.mono ?_
    rintro e w' ⟨rfl, rfl⟩
    go_wp2_with fail
    go_loopw [8, 17] (fun v i wr => LdRel m.B a n w v i wr) (fun _ i _ => n - (intOf i).toNat)
    case atStart => exact ⟨0, Nat.zero_le _, rfl, rfl, rfl⟩
    case round =>
      obtain ⟨k, hk, rfl, rfl, rfl⟩ := hrel
      have HX := Lib.hid (ld_lt m.B a k)
      by_cases hlt : k < n
      · have hcell := HM.out.byte (a := a + k) (by omega)
        have hc : (m.B[a + k]?.getD 0).toNat < 256 := UInt8.toNat_lt _
        have HA := Lib.hid (acc8 _ _ k (by omega) HX.out hc)
        have HLd : Hid (ld m.B a (k + 1) = ld m.B a k + (m.B[a + k]?.getD 0).toNat * 256 ^ k) := Lib.hid rfl
        have HAt := Lib.hid (mem_at _ m (a + k) _ HM.out (by omega))
        generalize (m.B[a + k]?.getD 0).toNat = c at *
        generalize m.bs[(a + k) / 4096]?.getD 0 = b at *
        have hak : (a : Int) + k < 18446744073709551616 := by omega
        have hak0 : (0 : Int) ≤ (a : Int) + k := by omega
        have hk8 : (8 : Int) * k < 64 := by omega
        go_wp2_with fail
        rw [show ((a : Int) + k) = ((a + k : Nat) : Int) from by omega]
        refine HAt.out.mono ?_
        rintro e w' ⟨rfl, rfl⟩
        go_wp2_with fail
        exact ⟨⟨k + 1, by omega, by go_num, by rw [HLd.out, ← HA.out], rfl⟩, by simp [intOf]; omega⟩
      · obtain rfl : k = n := by omega
        go_wp2_with fail
        go_ret2
        exact ⟨rfl, rfl⟩
end Go.Proofs.YtndkhlafpcedbaaDoor
