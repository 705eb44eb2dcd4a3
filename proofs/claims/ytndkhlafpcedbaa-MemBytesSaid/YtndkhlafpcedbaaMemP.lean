/- Numbers in bytes: plain laws of layer 13. No program in sight. -/
import Derived.Test.YtndkhlafpcedbaaMemV
namespace Go.Proofs.Ytndkhlafpcedbaa
set_option linter.unusedVariables false
open Go.RowKit
theorem u8_of' (x : Nat) (h : x < 256) : (UInt8.ofNat x).toNat = x := UInt8.toNat_ofNat_of_lt' (by simpa using h)
/-- The number that lies at 'a', k bytes long, the lowest first. -/
def ld (B : List UInt8) (a : Nat) : Nat → Nat
  | 0 => 0
  | k + 1 => ld B a k + (B[a + k]?.getD 0).toNat * 256 ^ k
theorem ld_lt (B : List UInt8) (a : Nat) : ∀ k, ld B a k < 256 ^ k
  | 0 => by simp [ld]
  | k + 1 => by
    have := ld_lt B a k
    have hc : (B[a + k]?.getD 0).toNat < 256 := UInt8.toNat_lt _
    have : (B[a + k]?.getD 0).toNat * 256 ^ k ≤ 255 * 256 ^ k := Nat.mul_le_mul_right _ (by omega)
    rw [ld, Nat.pow_succ]; omega
theorem pow256_le (k : Nat) (h : k ≤ 8) : 256 ^ k ≤ 18446744073709551616 := by
  have := Nat.pow_le_pow_right (show 0 < 256 by omega) h
  exact Nat.le_trans this (by decide)
theorem acc8 (x c k : Nat) (hk : k < 8) (hx : x < 256 ^ k) (hc : c < 256) :
    bits .or .u64 (x : Int) (IntKind.u64.wrap ((c : Int) * 2 ^ (8 * k))) = ((x + c * 256 ^ k : Nat) : Int) := by
  have h1 := pow256_le (k + 1) (by omega)
  have h2 : c * 256 ^ k ≤ 255 * 256 ^ k := Nat.mul_le_mul_right _ (by omega)
  rw [Nat.pow_succ] at h1
  have e2 : ((c : Int) * 2 ^ (8 * k)) = ((c * 256 ^ k : Nat) : Int) := by
    have e : (256 : Nat) ^ k = 2 ^ (8 * k) := by rw [Nat.pow_mul]
    rw [e]; simp
  rw [e2]
  have e3 : IntKind.u64.wrap ((c * 256 ^ k : Nat) : Int) = ((c * 256 ^ k : Nat) : Int) := by
    rw [IntKind.wrap_u64]; omega
  rw [e3, u64_or_nat x _ (by omega) (by omega)]
  have e : (256 : Nat) ^ k = 2 ^ (8 * k) := by rw [Nat.pow_mul]
  rw [e] at hx ⊢
  have := Nat.shiftLeft_add_eq_or_of_lt hx c
  rw [Nat.shiftLeft_eq] at this
  rw [Nat.or_comm, ← this, Nat.add_comm]
/-- Bytes stored at 'a': the lowest k bytes of v. -/
def st (B : List UInt8) (a v : Nat) : Nat → List UInt8
  | 0 => B
  | k + 1 => (st B a v k).set (a + k) (UInt8.ofNat (v / 256 ^ k % 256))
theorem st_len (B : List UInt8) (a v : Nat) : ∀ k, (st B a v k).length = B.length
  | 0 => rfl
  | k + 1 => by rw [st, List.length_set, st_len B a v k]
/-- The pages that are dirty behind it. -/
def dt (d : List Bool) (a : Nat) : Nat → List Bool
  | 0 => d
  | k + 1 => (dt d a k).set ((a + k) / 4096) true
theorem dt_len (d : List Bool) (a : Nat) : ∀ k, (dt d a k).length = d.length
  | 0 => rfl
  | k + 1 => by rw [dt, List.length_set, dt_len d a k]
end Go.Proofs.Ytndkhlafpcedbaa
