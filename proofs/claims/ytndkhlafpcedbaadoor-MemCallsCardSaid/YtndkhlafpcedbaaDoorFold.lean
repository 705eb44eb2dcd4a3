/- Numbers with a sign, folded. No program in sight. -/
import Derived.Test.YtndkhlafpcedbaaDoorBase
namespace Go.Proofs.YtndkhlafpcedbaaDoor
set_option linter.unusedVariables false
open Go.RowKit
/-- The number as which one with a sign is written. -/
def folded (v : Int) : Nat := if v < 0 then 2 * (-(v + 1)).toNat + 1 else 2 * v.toNat
theorem xor64_0 (a : Nat) (h : a < 18446744073709551616) : bits .xor .u64 (a : Int) 0 = (a : Int) := by
  have := u64_xor_nat a 0 h (by omega)
  rw [show ((0 : Nat) : Int) = 0 from rfl] at this
  rw [this, Nat.xor_zero]
theorem xor64_m (a b : Nat) (h : a < 18446744073709551616) (hb : b = 18446744073709551615) : bits .xor .u64 (a : Int) (b : Int) = ((18446744073709551615 - a : Nat) : Int) := by
  subst hb
  show IntKind.u64.wrap ((BitVec.ofInt 64 (a : Int) ^^^ BitVec.ofInt 64 ((18446744073709551615 : Nat) : Int)).toNat : Int) = _
  have e : BitVec.ofInt 64 ((18446744073709551615 : Nat) : Int) = BitVec.allOnes 64 := by decide +kernel
  have e2 : (BitVec.ofInt 64 (a : Int)).toNat = a := by
    rw [BitVec.ofInt_natCast, BitVec.toNat_ofNat]; exact Nat.mod_eq_of_lt (by omega)
  rw [e, BitVec.xor_allOnes, BitVec.toNat_not, e2, IntKind.wrap_u64]
  omega
theorem fold_wire (v : Int) (h0 : -9223372036854775808 ≤ v) (h1 : v < 9223372036854775808) :
    bits .xor .u64 (IntKind.u64.wrap (IntKind.u64.wrap v * 2)) (IntKind.u64.wrap (v / 9223372036854775808)) = (folded v : Int) := by
  unfold folded
  rw [IntKind.wrap_u64, IntKind.wrap_u64, IntKind.wrap_u64]
  by_cases hv : v < 0
  · rw [if_pos hv]
    have e1 : (v % 18446744073709551616 * 2) % 18446744073709551616 = ((18446744073709551616 - 2 * (-v).toNat : Nat) : Int) := by omega
    have e2 : v / 9223372036854775808 % 18446744073709551616 = ((18446744073709551615 : Nat) : Int) := by omega
    rw [e1, e2, xor64_m _ _ (by omega) rfl]
    omega
  · rw [if_neg hv]
    have e1 : (v % 18446744073709551616 * 2) % 18446744073709551616 = ((2 * v.toNat : Nat) : Int) := by omega
    have e2 : v / 9223372036854775808 % 18446744073709551616 = 0 := by omega
    rw [e1, e2, xor64_0 _ (by omega)]
theorem folded_lt (v : Int) (h0 : -9223372036854775808 ≤ v) (h1 : v < 9223372036854775808) : folded v < 18446744073709551616 := by unfold folded; split <;> omega
theorem unfolded_range (v : Nat) (h : v < 18446744073709551616) : -9223372036854775808 ≤ unfolded v ∧ unfolded v < 9223372036854775808 := by
  unfold unfolded
  split <;> omega
end Go.Proofs.YtndkhlafpcedbaaDoor
