/- What is pushed is popped again, what a branch keeps stays kept: the plain law of layer 8. No program in sight. -/
import Derived.Test.YtndkhlafpcedbaaDoorStrP
namespace Go.Proofs.YtndkhlafpcedbaaDoor
set_option linter.unusedVariables false
def bl (s : ByteArray) : List UInt8 := s.data.toList
theorem bl_len (s : ByteArray) : (bl s).length = s.size := by simp [bl]
theorem bl_inj {a b : ByteArray} (h : bl a = bl b) : a = b := by
  cases a; cases b
  unfold bl at h
  simpa using h
theorem bl_ext (s : ByteArray) (i j : Nat) : bl (s.extract i j) = ((bl s).take j).drop i := by
  unfold bl
  rw [ByteArray.data_extract, Array.toList_extract, List.extract_eq_take_drop, List.drop_take]
theorem bl_app (s t : ByteArray) : bl (s ++ t) = bl s ++ bl t := by
  unfold bl
  rw [ByteArray.data_append, Array.toList_append]
theorem letS_eq (s : ByteArray) : letS s = letB 256 (bl s) := rfl
theorem letB_iff (m : Nat) (l : List UInt8) : letB m l = true ↔ l.length ≤ m ∧ ∀ c ∈ l, isL c = true := by
  unfold letB; simp
theorem ends_iff (s t : ByteArray) : ends s t = true ↔ ∃ r, bl s = r ++ bl t := by
  unfold ends
  rw [Bool.and_eq_true, decide_eq_true_eq, beq_iff_eq, ByteArray.toList_eq, ByteArray.toList_eq]
  show t.size ≤ s.size ∧ bl _ = bl t ↔ _
  rw [bl_ext, ← bl_len, ← bl_len, List.take_of_length_le (Nat.le_refl _)]
  constructor
  · rintro ⟨h1, h2⟩
    exact ⟨(bl s).take ((bl s).length - (bl t).length), by
      have := List.take_append_drop ((bl s).length - (bl t).length) (bl s)
      rw [h2] at this
      exact this.symm⟩
  · rintro ⟨r, hr⟩
    rw [hr]
    refine ⟨by simp, ?_⟩
    rw [List.drop_left' (by simp)]
theorem not_and {a b : Bool} (h : ¬ (a && b) = false) : a = true ∧ b = true := by cases a <;> cases b <;> simp_all
theorem pushS_ok {s t a : ByteArray} (h : pushS s t = (a, 0)) : letS s = true ∧ letS t = true ∧ s.size + t.size ≤ 256 ∧ a = s ++ t := by
  unfold pushS at h
  by_cases h1 : (letS s && letS t) = false
  · rw [if_pos h1] at h; cases h
  · rw [if_neg h1] at h
    by_cases h2 : 256 < s.size + t.size
    · rw [if_pos h2] at h; cases h
    · rw [if_neg h2] at h
      injection h with h
      exact ⟨(not_and h1).1, (not_and h1).2, by omega, h.symm⟩
theorem popS_ok' {s t a : ByteArray} (h : popS s t = (a, 0)) : letS s = true ∧ letS t = true ∧ ends s t = true ∧ a = s.extract 0 (s.size - t.size) := by
  unfold popS at h
  by_cases h1 : (letS s && letS t) = false
  · rw [if_pos h1] at h; cases h
  · rw [if_neg h1] at h
    by_cases h2 : ends s t = false
    · rw [if_pos h2] at h; cases h
    · rw [if_neg h2] at h
      injection h with h
      exact ⟨(not_and h1).1, (not_and h1).2, by simpa using h2, h.symm⟩
theorem keepS_ok {s t a : ByteArray} {f : Int} (h : keepS s f t = (a, 0)) : letS s = true ∧ letS t = true ∧ 0 ≤ f ∧ ends s t = true ∧ f ≤ (s.size : Int) - t.size ∧ a = s.extract 0 f.toNat ++ t := by
  unfold keepS at h
  by_cases h1 : (letS s && letS t) = false
  · rw [if_pos h1] at h; cases h
  · rw [if_neg h1] at h
    by_cases h2 : f < 0 ∨ ends s t = false ∨ (s.size : Int) - t.size < f
    · rw [if_pos h2] at h; cases h
    · rw [if_neg h2] at h
      injection h with h
      refine ⟨(not_and h1).1, (not_and h1).2, by omega, ?_, by omega, h.symm⟩
      cases he : ends s t with
      | true => rfl
      | false => exact absurd (.inr (.inl he)) h2
theorem letS_app {s t : ByteArray} (hs : letS s = true) (ht : letS t = true) (h : s.size + t.size ≤ 256) : letS (s ++ t) = true := by
  rw [letS_eq, letB_iff] at *
  rw [bl_app, List.length_append, bl_len, bl_len]
  refine ⟨h, fun c hc => ?_⟩
  rcases List.mem_append.1 hc with hc | hc
  · exact hs.2 c hc
  · exact ht.2 c hc
theorem letS_pre {s : ByteArray} (k : Nat) (hs : letS s = true) : letS (s.extract 0 k) = true := by
  rw [letS_eq, letB_iff] at *
  rw [bl_ext, List.drop_zero]
  exact ⟨Nat.le_trans (List.length_take_le' _ _) hs.1, fun c hc => hs.2 c (List.mem_of_mem_take hc)⟩
theorem ends_app (s t : ByteArray) : ends (s ++ t) t = true := (ends_iff _ _).2 ⟨bl s, bl_app s t⟩
theorem ext_app (s t : ByteArray) (k : Nat) (hk : k = s.size) : (s ++ t).extract 0 k = s := by
  apply bl_inj
  rw [bl_ext, bl_app, List.drop_zero, List.take_left' (by rw [bl_len, hk])]
theorem size_app (s t : ByteArray) : (s ++ t).size = s.size + t.size := by rw [← bl_len, bl_app, List.length_append, bl_len, bl_len]
theorem size_pre (s : ByteArray) (k : Nat) (h : k ≤ s.size) : (s.extract 0 k).size = k := by
  rw [← bl_len, bl_ext, List.drop_zero, List.length_take, bl_len]; omega
theorem push_back {s t a : ByteArray} (h : pushS s t = (a, 0)) : popS a t = (s, 0) ∧ topS a t = true ∧ keepS a s.size t = (a, 0) := by
  obtain ⟨h1, h2, h3, rfl⟩ := pushS_ok h
  have ha := letS_app h1 h2 h3
  have he := ends_app s t
  refine ⟨?_, ?_, ?_⟩
  · unfold popS
    rw [ha, h2, he, if_neg (by simp), if_neg (by simp), ext_app s t _ (by rw [size_app]; omega)]
  · unfold topS; rw [ha, h2, he]; rfl
  · unfold keepS
    rw [ha, h2, he, if_neg (by simp), if_neg (by rw [size_app]; simp), Int.toNat_natCast, ext_app s t _ rfl]
theorem pop_back {s t a : ByteArray} (h : popS s t = (a, 0)) : pushS a t = (s, 0) := by
  obtain ⟨h1, h2, h3, rfl⟩ := popS_ok' h
  have ha := letS_pre (s.size - t.size) h1
  have hle := ends_le s t h3
  have hsz := size_pre s (s.size - t.size) (by omega)
  have hs256 : s.size ≤ 256 := by rw [letS_eq, letB_iff, bl_len] at h1; exact h1.1
  unfold pushS
  rw [ha, h2, if_neg (by simp), if_neg (by rw [hsz]; omega)]
  refine Prod.ext (bl_inj ?_) rfl
  show bl (s.extract 0 (s.size - t.size) ++ t) = bl s
  obtain ⟨r, hr⟩ := (ends_iff s t).1 h3
  rw [bl_app, bl_ext, List.drop_zero, hr, List.take_left' (by have := congrArg List.length hr; rw [List.length_append, bl_len, bl_len] at this; omega)]
theorem keep_back {s t a : ByteArray} {f : Int} (h : keepS s f t = (a, 0)) : keepS a f t = (a, 0) ∧ topS a t = true ∧ (a.size : Int) = f + t.size := by
  obtain ⟨h1, h2, h3, h4, h5, rfl⟩ := keepS_ok h
  obtain ⟨k, rfl⟩ := Int.eq_ofNat_of_zero_le h3
  have hle := ends_le s t h4
  have hs256 : s.size ≤ 256 := by rw [letS_eq, letB_iff, bl_len] at h1; exact h1.1
  rw [Int.toNat_natCast]
  have hk := size_pre s k (by omega)
  have ha := letS_app (letS_pre k h1) h2 (by rw [hk]; omega)
  have he := ends_app (s.extract 0 k) t
  have hz := size_app (s.extract 0 k) t
  refine ⟨?_, ?_, ?_⟩
  · unfold keepS
    rw [ha, h2, he, if_neg (by simp), if_neg (by rw [hz, hk]; simp), Int.toNat_natCast, ext_app _ t k hk.symm]
  · unfold topS; rw [ha, h2, he]; rfl
  · rw [hz, hk]; omega
theorem sizes (s t : ByteArray) (f : Int) (hs : s.size ≤ 1048576) (ht : t.size ≤ 1048576) : (pushS s t).1.size ≤ 2097152 ∧ (popS s t).1.size ≤ 2097152 ∧ (keepS s f t).1.size ≤ 2097152 := by
  refine ⟨?_, ?_, ?_⟩
  · unfold pushS
    split
    · simp
    · split
      · simp
      · rw [size_app]; omega
  · unfold popS
    split
    · simp
    · split
      · simp
      · simp; omega
  · unfold keepS
    split
    · simp
    · split
      · simp
      · show (s.extract 0 f.toNat ++ t).size ≤ _
        rw [size_app]; simp; omega
theorem errs (s t : ByteArray) (f : Int) : (pushS s t).2 ≤ 100 ∧ (popS s t).2 ≤ 100 ∧ (keepS s f t).2 ≤ 100 := by
  refine ⟨?_, ?_, ?_⟩
  · unfold pushS; repeat' split
    all_goals simp
  · unfold popS; repeat' split
    all_goals simp
  · unfold keepS; repeat' split
    all_goals simp
end Go.Proofs.YtndkhlafpcedbaaDoor
