/- Numbers stored and loaded: plain laws of layer 13. No program in sight. -/
import Derived.Test.YtndkhlafpcedbaaDoorMemI
namespace Go.Proofs.YtndkhlafpcedbaaDoor
set_option linter.unusedVariables false
open Go.RowKit
theorem st_get (B : List UInt8) (a v : Nat) : ∀ (n j : Nat), a + n ≤ B.length → (st B a v n)[j]?.getD 0 = if a ≤ j ∧ j < a + n then UInt8.ofNat (v / 256 ^ (j - a) % 256) else B[j]?.getD 0
  | 0, j, _ => by rw [if_neg (by omega)]; rfl
  | n + 1, j, h => by
    have ih := st_get B a v n j (by omega)
    rw [st, List.getElem?_set]
    by_cases hj : a + n = j
    · rw [if_pos hj, if_pos (by rw [st_len]; omega), if_pos (by omega)]
      have : j - a = n := by omega
      rw [this]; rfl
    · rw [if_neg hj, ih]
      by_cases h1 : a ≤ j ∧ j < a + n
      · rw [if_pos h1, if_pos (by omega)]
      · rw [if_neg h1, if_neg (by omega)]
theorem ld_st_one (B : List UInt8) (a v n i : Nat) (h : a + n ≤ B.length) (hi : i < n) : ld (st B a v n) (a + i) 1 = v / 256 ^ i % 256 := by
  show 0 + ((st B a v n)[a + i + 0]?.getD 0).toNat * 256 ^ 0 = _
  rw [Nat.add_zero, st_get B a v n _ h, if_pos (by omega), show a + i - a = i from by omega, u8_of' _ (by omega)]
  simp
theorem ld_st_far (B : List UInt8) (a v n o : Nat) (h : a + n ≤ B.length) (ho : o < a ∨ a + n ≤ o) : ld (st B a v n) o 1 = ld B o 1 := by
  show 0 + ((st B a v n)[o + 0]?.getD 0).toNat * 256 ^ 0 = 0 + (B[o + 0]?.getD 0).toNat * 256 ^ 0
  rw [Nat.add_zero, st_get B a v n _ h, if_neg (by omega)]
theorem ld_st_all (B : List UInt8) (a v n : Nat) (h : a + n ≤ B.length) : ∀ k, k ≤ n → ld (st B a v n) a k = v % 256 ^ k
  | 0, _ => by simp [ld, Nat.mod_one]
  | k + 1, hk => by
    rw [ld, ld_st_all B a v n h k (by omega), st_get B a v n _ h, if_pos (by omega), show a + k - a = k from by omega, u8_of' _ (by omega), Nat.pow_succ, Nat.mod_mul, Nat.mul_comm]
theorem growD_len (d : List Bool) (np : Nat) : ∀ k, (growD d np k).length = d.length
  | 0 => rfl
  | k + 1 => by rw [growD, List.length_set, growD_len d np k]
theorem dt_get (d : List Bool) (a : Nat) : ∀ (n j : Nat), j < d.length → ((dt d a n)[j]?.getD false = true ↔ d[j]?.getD false = true ∨ ∃ k, k < n ∧ (a + k) / 4096 = j)
  | 0, j, _ => by simp [dt]
  | n + 1, j, hj => by
    have ih := dt_get d a n j hj
    rw [dt, List.getElem?_set]
    by_cases h : (a + n) / 4096 = j
    · rw [if_pos h, if_pos (by rw [dt_len]; omega)]
      simp only [Option.getD_some, true_iff]
      exact .inr ⟨n, by omega, h⟩
    · rw [if_neg h, ih]
      constructor
      · rintro (h1 | ⟨k, hk, he⟩)
        · exact .inl h1
        · exact .inr ⟨k, by omega, he⟩
      · rintro (h1 | ⟨k, hk, he⟩)
        · exact .inl h1
        · refine .inr ⟨k, ?_, he⟩
          by_cases hkn : k = n
          · subst hkn; exact absurd he h
          · omega
theorem range_one : ∀ p, p < 64 → (List.range 64).filter (fun i => decide (i = p)) = [p] := by decide +kernel
theorem range_two : ∀ p, p < 63 → (List.range 64).filter (fun i => decide (i = p ∨ i = p + 1)) = [p, p + 1] := by decide +kernel
theorem noD_get (j : Nat) : noD[j]?.getD false = false := by
  unfold noD
  rw [List.getElem?_replicate]
  split <;> rfl
/-- Which pages a store makes dirty, where none was. -/
theorem dirty_store (a n : Nat) (h1 : 1 ≤ n) (h8 : n ≤ 8) (h : a + n ≤ 262144) :
    dirtyL (dt noD a n) 64 = if a / 4096 = (a + n - 1) / 4096 then [((a / 4096 : Nat) : Int)] else [((a / 4096 : Nat) : Int), (((a + n - 1) / 4096 : Nat) : Int)] := by
  have hf : ∀ i, i < 64 → ((dt noD a n)[i]?.getD false = true ↔ i = a / 4096 ∨ i = (a + n - 1) / 4096) := fun i hi => by
    rw [dt_get noD a n i (by unfold noD; rw [List.length_replicate]; exact hi), noD_get]
    constructor
    · rintro (h0 | ⟨k, hk, he⟩)
      · cases h0
      · omega
    · rintro (he | he)
      · exact .inr ⟨0, by omega, he.symm⟩
      · exact .inr ⟨n - 1, by omega, by rw [show a + (n - 1) = a + n - 1 from by omega]; exact he.symm⟩
  unfold dirtyL
  by_cases hp : a / 4096 = (a + n - 1) / 4096
  · rw [if_pos hp]
    have : (List.range 64).filter (fun i => (dt noD a n)[i]?.getD false) = (List.range 64).filter (fun i => decide (i = a / 4096)) := by
      apply List.filter_congr
      intro i hi
      rw [List.mem_range] at hi
      rw [Bool.eq_iff_iff, hf i hi, decide_eq_true_iff]
      omega
    rw [this, range_one _ (by omega)]
    rfl
  · rw [if_neg hp]
    have hq : (a + n - 1) / 4096 = a / 4096 + 1 := by omega
    have : (List.range 64).filter (fun i => (dt noD a n)[i]?.getD false) = (List.range 64).filter (fun i => decide (i = a / 4096 ∨ i = a / 4096 + 1)) := by
      apply List.filter_congr
      intro i hi
      rw [List.mem_range] at hi
      rw [Bool.eq_iff_iff, hf i hi, decide_eq_true_iff, hq]
    rw [this, range_two _ (by omega), hq]
    rfl
end Go.Proofs.YtndkhlafpcedbaaDoor
