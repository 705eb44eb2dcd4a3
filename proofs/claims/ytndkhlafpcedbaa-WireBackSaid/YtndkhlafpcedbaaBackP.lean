/- What is written is read as itself, and nothing else is read so: the plain law of layer 1. No program in sight. -/
import Derived.Test.YtndkhlafpcedbaaApp
import Derived.Test.YtndkhlafpcedbaaFold
namespace Go.Proofs.Ytndkhlafpcedbaa
set_option linter.unusedVariables false
theorem u8_of (x : Nat) (h : x < 256) : (UInt8.ofNat x).toNat = x := UInt8.toNat_ofNat_of_lt' (by simpa using h)
theorem pow_mono (i : Nat) : 0 < 128 ^ i := Nat.pow_pos (by omega)

theorem ruv_enc : ∀ (k i x v : Nat) (rest : List UInt8), i + k = 10 → v * 128 ^ i < 18446744073709551616 → (0 < i → 0 < v) →
    ruv k i x (enc v ++ rest) = (x + v * 128 ^ i, i + (enc v).length, 0)
  | 0, i, x, v, rest, hk, hv, h0 => by
    have hi : i = 10 := by omega
    subst hi
    have := h0 (by omega)
    have h2 : 1 * 128 ^ 10 ≤ v * 128 ^ 10 := Nat.mul_le_mul_right _ this
    have : (128 : Nat) ^ 10 = 1180591620717411303424 := by decide
    omega
  | k + 1, i, x, v, rest, hk, hv, h0 => by
    by_cases hs : v < 128
    · rw [enc_small v hs, List.cons_append, ruv_cons, u8_of v (by omega)]
      rw [if_neg, if_pos hs, if_neg (by omega), Nat.mod_eq_of_lt hs]
      · rfl
      · rintro ⟨rfl, h1⟩
        have h2 : 2 * 128 ^ 9 ≤ v * 128 ^ 9 := Nat.mul_le_mul_right _ h1
        have : (128 : Nat) ^ 9 = 9223372036854775808 := by decide
        omega
    · rw [enc_great v hs, List.cons_append, ruv_cons, u8_of _ (by omega)]
      have hp := pow_mono i
      rw [if_neg, if_neg (by omega)]
      · have hle : v / 128 * 128 ^ (i + 1) ≤ v * 128 ^ i := by
          rw [Nat.pow_succ, Nat.mul_comm (128 ^ i) 128, ← Nat.mul_assoc]
          exact Nat.mul_le_mul_right _ (Nat.div_mul_le_self v 128)
        rw [ruv_enc k (i + 1) _ (v / 128) rest (by omega) (by omega) (by omega)]
        have hm : (v % 128 + 128) % 128 = v % 128 := by omega
        rw [hm, List.length_cons]
        have he : v % 128 * 128 ^ i + v / 128 * 128 ^ (i + 1) = v * 128 ^ i := by
          rw [Nat.pow_succ, Nat.mul_comm (128 ^ i) 128, ← Nat.mul_assoc, ← Nat.add_mul]
          congr 1; omega
        rw [show x + v % 128 * 128 ^ i + v / 128 * 128 ^ (i + 1) = x + v * 128 ^ i from by omega, show i + 1 + (enc (v / 128)).length = i + ((enc (v / 128)).length + 1) from by omega]
      · rintro ⟨rfl, _⟩
        have h2 : 128 * 128 ^ 9 ≤ v * 128 ^ 9 := Nat.mul_le_mul_right _ (by omega)
        have : (128 : Nat) ^ 9 = 9223372036854775808 := by decide
        omega

theorem ruv_part : ∀ (k i x v j : Nat), i + k = 10 → v * 128 ^ i < 18446744073709551616 → (0 < i → 0 < v) → j < (enc v).length →
    ruv k i x ((enc v).take j) = (0, 0, 10)
  | 0, i, x, v, j, hk, hv, h0, hj => by
    have hi : i = 10 := by omega
    subst hi
    have := h0 (by omega)
    have h2 : 1 * 128 ^ 10 ≤ v * 128 ^ 10 := Nat.mul_le_mul_right _ this
    have : (128 : Nat) ^ 10 = 1180591620717411303424 := by decide
    omega
  | k + 1, i, x, v, 0, hk, hv, h0, hj => by rw [List.take_zero, ruv_end]
  | k + 1, i, x, v, j + 1, hk, hv, h0, hj => by
    by_cases hs : v < 128
    · rw [enc_small v hs] at hj; simp at hj
    · rw [enc_great v hs] at hj ⊢
      rw [List.take_succ_cons, ruv_cons, u8_of _ (by omega)]
      have hp := pow_mono i
      rw [if_neg, if_neg (by omega)]
      · have hle : v / 128 * 128 ^ (i + 1) ≤ v * 128 ^ i := by
          rw [Nat.pow_succ, Nat.mul_comm (128 ^ i) 128, ← Nat.mul_assoc]
          exact Nat.mul_le_mul_right _ (Nat.div_mul_le_self v 128)
        exact ruv_part k (i + 1) _ (v / 128) j (by omega) (by omega) (by omega) (by simpa using hj)
      · rintro ⟨rfl, _⟩
        have h2 : 128 * 128 ^ 9 ≤ v * 128 ^ 9 := Nat.mul_le_mul_right _ (by omega)
        have : (128 : Nat) ^ 9 = 9223372036854775808 := by decide
        omega

theorem ruv_inv : ∀ (k i x : Nat) (l : List UInt8) (v n : Nat), ruv k i x l = (v, n, 0) →
    ∃ y, v = x + y * 128 ^ i ∧ (0 < i → 0 < y) ∧ i < n ∧ enc y = l.take (n - i)
  | 0, i, x, l, v, n, h => by simp [ruv] at h
  | k + 1, i, x, [], v, n, h => by simp [ruv] at h
  | k + 1, i, x, c :: r, v, n, h => by
    rw [ruv_cons] at h
    have hc := UInt8.toNat_lt c
    by_cases h1 : i = 9 ∧ 1 < c.toNat
    · rw [if_pos h1] at h; simp at h
    · rw [if_neg h1] at h
      by_cases h2 : c.toNat < 128
      · rw [if_pos h2] at h
        by_cases h3 : c.toNat = 0 ∧ 0 < i
        · rw [if_pos h3] at h; simp at h
        · rw [if_neg h3] at h
          simp only [Prod.mk.injEq, and_true] at h
          obtain ⟨rfl, rfl⟩ := h
          refine ⟨c.toNat, by rw [Nat.mod_eq_of_lt h2], by omega, by omega, ?_⟩
          rw [enc_small _ h2, show i + 1 - i = 1 from by omega]
          simp
      · rw [if_neg h2] at h
        obtain ⟨y, hv, hy, hn, he⟩ := ruv_inv k (i + 1) _ r v n h
        have := hy (by omega)
        refine ⟨c.toNat % 128 + 128 * y, ?_, by omega, by omega, ?_⟩
        · rw [hv, Nat.pow_succ, Nat.add_mul, Nat.mul_comm (128 ^ i) 128, ← Nat.mul_assoc, Nat.mul_comm y 128]; omega
        · rw [enc_great _ (by omega), show n - i = (n - (i + 1)) + 1 from by omega, List.take_succ_cons, ← he]
          congr 1
          · rw [show (c.toNat % 128 + 128 * y) % 128 + 128 = c.toNat from by omega]
            exact UInt8.ofNat_toNat
          · congr 1
            omega

theorem uvar_enc (l1 l3 : List UInt8) (u : Nat) (hu : u < 18446744073709551616) : uvar (l1 ++ enc u ++ l3) l1.length = (u, l1.length + (enc u).length, 0) := by
  have h := ruv_enc 10 0 0 u l3 rfl (by omega) (by omega)
  rw [uvar_of (l1 ++ enc u ++ l3) l1.length (by simp) (v := u) (n := (enc u).length) (e := 0)]
  · rfl
  · rw [List.append_assoc, List.drop_left' rfl, h]; simp
theorem uvar_part (l1 : List UInt8) (u j : Nat) (hu : u < 18446744073709551616) (hj : j < (enc u).length) : uvar (l1 ++ (enc u).take j ++ []) l1.length = (0, 0, 10) := by
  have h := ruv_part 10 0 0 u j rfl (by omega) (by omega) hj
  rw [uvar_of _ l1.length (by simp) (v := 0) (n := 0) (e := 10)]
  · rfl
  · rw [List.append_nil, List.drop_left' rfl, h]
theorem uvar_inv (l : List UInt8) (p : Int) (v q : Nat) (h : uvar l p = (v, q, 0)) : ∃ a : Nat, p = a ∧ a < q ∧ q ≤ l.length ∧ enc v = (l.drop a).take (q - a) := by
  have hf := uvar_facts l p
  rw [h] at hf
  simp only at hf
  have hp : ¬ (p < 0 ∨ (l.length : Int) < p) := fun hc => by have := hf.2.2.2.1.2 hc; omega
  obtain ⟨a, rfl⟩ := Int.eq_ofNat_of_zero_le (show 0 ≤ p by omega)
  have hr : ruv 10 0 0 (l.drop a) = ((ruv 10 0 0 (l.drop a)).1, (ruv 10 0 0 (l.drop a)).2.1, (ruv 10 0 0 (l.drop a)).2.2) := rfl
  rw [uvar_of l a (by omega) hr] at h
  simp only [Prod.mk.injEq] at h
  obtain ⟨h1, h2, h3⟩ := h
  rw [h3] at h2 hr
  rw [if_pos rfl] at h2
  obtain ⟨y, e1, _, e3, e4⟩ := ruv_inv 10 0 0 _ _ _ hr
  refine ⟨a, rfl, by omega, hf.2.1, ?_⟩
  rw [← h1, e1, show q - a = (ruv 10 0 0 (l.drop a)).2.1 - 0 from by omega, ← e4]
  congr 1; omega
theorem unfolded_folded (n : Int) (h0 : -9223372036854775808 ≤ n) (h1 : n < 9223372036854775808) : unfolded (folded n) = n := by
  unfold unfolded folded
  by_cases h : n < 0
  · rw [if_pos h, if_pos (by omega)]; omega
  · rw [if_neg h, if_neg (by omega)]; omega
theorem folded_unfolded (u : Nat) : folded (unfolded u) = u := by
  unfold unfolded folded
  by_cases h : u % 2 = 1
  · rw [if_pos h, if_pos (by omega)]; omega
  · rw [if_neg h, if_neg (by omega)]; omega
theorem txt_enc (l1 l3 bs : List UInt8) (hb : bs.length < 18446744073709551616) : txt (l1 ++ (enc bs.length ++ bs) ++ l3) l1.length bs.length = (bs, l1.length + ((enc bs.length).length + bs.length), 0) := by
  have hu := uvar_enc l1 (bs ++ l3) bs.length hb
  rw [show l1 ++ enc bs.length ++ (bs ++ l3) = l1 ++ (enc bs.length ++ bs) ++ l3 from by simp] at hu
  have hc : cnt (l1 ++ (enc bs.length ++ bs) ++ l3) l1.length bs.length 13 = (bs.length, l1.length + (enc bs.length).length, 0) := by
    unfold cnt
    rw [hu]
    rw [if_neg (by simp), if_neg (by simp), if_neg (by simp)]
  unfold txt
  rw [hc]
  simp only
  rw [if_neg (by simp), if_neg (by simp; omega)]
  refine Prod.ext ?_ (Prod.ext ?_ rfl)
  · show List.take bs.length (List.drop (l1.length + (enc bs.length).length) (l1 ++ (enc bs.length ++ bs) ++ l3)) = bs
    rw [show l1 ++ (enc bs.length ++ bs) ++ l3 = (l1 ++ enc bs.length) ++ (bs ++ l3) from by simp, List.drop_left' (by simp), List.take_left' rfl]
  · show l1.length + (enc bs.length).length + bs.length = l1.length + ((enc bs.length).length + bs.length)
    omega
end Go.Proofs.Ytndkhlafpcedbaa
