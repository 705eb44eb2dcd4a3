/- wire's and the reference's ReadSvar, ReadCount, ReadText. -/
import Derived.Test.YtndkhlafpcedbaaWireA
import Derived.Test.YtndkhlafpcedbaaWireB
import Derived.Lib.Hide
namespace Go.Proofs.Ytndkhlafpcedbaa
set_option linter.unusedVariables false
open Go.RowKit
set_option maxRecDepth 100000 in
set_option maxHeartbeats 400000 in
theorem wire_counted (A : Option Addr) (n cap B : Nat) (p most : Int) (great : Nat) (w : World) (l : List UInt8) (hn : n = l.length) (h47 : n ≤ 140737488351232) (hr : Row w B A (l.map bv)) (hm : most < 9223372036854775808) :
    Calls Try.prog 68 #[.slice A n cap, .int .i64 p, .int .i64 most, .int .i64 great] w fun e w' => w = w' ∧ e = .returned (.tuple #[.int .i64 (cnt l p most great).1, .int .i64 (cnt l p most great).2.1, .int .i64 (cnt l p most great).2.2]) := by
  have HC := Lib.hid (wire_ReadUvar A n cap B p w l hn h47 hr)
  obtain ⟨f1, f2, f3, f4, f5⟩ := uvar_facts l p
  clear hn hr f4
  unfold cnt
  generalize uvar l p = r at *
  obtain ⟨v, nx, e⟩ := r
  simp only at HC f1 f2 f3 f5 ⊢
  have F3 := Lib.hid f3; clear f3
  by_cases he1 : e = 1
  · subst he1
    rw [if_pos (.inl rfl)]
    go_enter Try.func68, Try.ntmps68
    go_wp2_with (go_at_call 15; refine HC.out.mono ?_; rintro e w' ⟨rfl, rfl⟩)
    go_ret3
    exact ⟨rfl, ret3 rfl rfl rfl⟩
  · have e1 : ((e : Int) == 1) = false := by simp; omega
    by_cases hm0 : most < 0
    · rw [if_pos (.inr hm0)]
      go_enter Try.func68, Try.ntmps68
      go_wp2_with (go_at_call 15; refine HC.out.mono ?_; rintro e w' ⟨rfl, rfl⟩)
      go_ret3
      exact ⟨rfl, ret3 rfl rfl rfl⟩
    · rw [if_neg (by omega)]
      by_cases he : e = 0
      · subst he
        rw [if_neg (by omega)]
        by_cases hg : most < v
        · rw [if_pos hg]
          go_enter Try.func68, Try.ntmps68
          go_wp2_with (go_at_call 15; refine HC.out.mono ?_; rintro e w' ⟨rfl, rfl⟩)
          go_ret3
          exact ⟨rfl, ret3 rfl rfl rfl⟩
        · rw [if_neg hg]
          go_enter Try.func68, Try.ntmps68
          go_wp2_with (go_at_call 15; refine HC.out.mono ?_; rintro e w' ⟨rfl, rfl⟩)
          go_ret3
          exact ⟨rfl, ret3 rfl rfl rfl⟩
      · have e0 : ((e : Int) != 0) = true := by simp; omega
        rw [if_pos he]
        go_enter Try.func68, Try.ntmps68
        go_wp2_with (go_at_call 15; refine HC.out.mono ?_; rintro e w' ⟨rfl, rfl⟩)
        go_ret3
        exact ⟨rfl, ret3 rfl rfl rfl⟩

set_option maxRecDepth 100000 in
theorem wire_ReadCount (A : Option Addr) (n cap B : Nat) (p most : Int) (w : World) (l : List UInt8) (hn : n = l.length) (h47 : n ≤ 140737488351232) (hr : Row w B A (l.map bv)) (hm : most < 9223372036854775808) :
    Calls Try.prog 25 #[.slice A n cap, .int .i64 p, .int .i64 most] w fun e w' => w = w' ∧ e = .returned (.tuple #[.int .i64 (cnt l p most 20).1, .int .i64 (cnt l p most 20).2.1, .int .i64 (cnt l p most 20).2.2]) := by
  have HC := Lib.hid (wire_counted A n cap B p most 20 w l hn h47 hr hm)
  clear hn hr
  generalize cnt l p most 20 = r at *
  obtain ⟨v, nx, e⟩ := r
  simp only at HC ⊢
  go_enter Try.func25, Try.ntmps25
  go_wp2_with (go_at_call 68; refine HC.out.mono ?_; rintro e w' ⟨rfl, rfl⟩)
  go_ret3
  exact ⟨rfl, ret3 rfl rfl rfl⟩

set_option maxRecDepth 100000 in
set_option maxHeartbeats 400000 in
theorem ref_ReadCount (A : Option Addr) (n cap B : Nat) (p most : Int) (w : World) (l : List UInt8) (hn : n = l.length) (h47 : n ≤ 140737488351232) (hr : Row w B A (l.map bv)) (hm : most < 9223372036854775808) :
    Calls Try.prog 26 #[.slice A n cap, .int .i64 p, .int .i64 most] w fun e w' => w = w' ∧ e = .returned (.tuple #[.int .i64 (cnt l p most 20).1, .int .i64 (cnt l p most 20).2.1, .int .i64 (cnt l p most 20).2.2]) := by
  have HC := Lib.hid (ref_ReadUvar A n cap B p w l hn h47 hr)
  obtain ⟨f1, f2, f3, f4, f5⟩ := uvar_facts l p
  clear hr
  rw [← hn] at f4
  unfold cnt
  clear hn
  generalize uvar l p = r at *
  obtain ⟨v, nx, e⟩ := r
  simp only at HC f1 f2 f3 f4 f5 ⊢
  have F3 := Lib.hid f3; clear f3
  have F4 := Lib.hid f4; clear f4
  by_cases hp : p < 0
  · rw [if_pos (.inl (F4.out.2 (.inl hp)))]
    go_enter Try.func26, Try.ntmps26
    go_wp2_with fail
    go_ret3
    exact ⟨rfl, ret3 rfl rfl rfl⟩
  · by_cases hp2 : (n : Int) < p
    · rw [if_pos (.inl (F4.out.2 (.inr hp2)))]
      go_enter Try.func26, Try.ntmps26
      go_wp2_with fail
      go_ret3
      exact ⟨rfl, ret3 rfl rfl rfl⟩
    · by_cases hm0 : most < 0
      · rw [if_pos (.inr hm0)]
        go_enter Try.func26, Try.ntmps26
        go_wp2_with fail
        go_ret3
        exact ⟨rfl, ret3 rfl rfl rfl⟩
      · rw [if_neg (by have := F4.out; omega)]
        by_cases he : e = 0
        · subst he
          rw [if_neg (by omega)]
          by_cases hg : most < v
          · rw [if_pos hg]
            go_enter Try.func26, Try.ntmps26
            go_wp2_with (go_at_call 23; refine HC.out.mono ?_; rintro e w' ⟨rfl, rfl⟩)
            go_ret3
            exact ⟨rfl, ret3 rfl rfl rfl⟩
          · rw [if_neg hg]
            go_enter Try.func26, Try.ntmps26
            go_wp2_with (go_at_call 23; refine HC.out.mono ?_; rintro e w' ⟨rfl, rfl⟩)
            go_ret3
            exact ⟨rfl, ret3 rfl rfl rfl⟩
        · have e0 : ((e : Int) != 0) = true := by simp; omega
          rw [if_pos he]
          go_enter Try.func26, Try.ntmps26
          go_wp2_with (go_at_call 23; refine HC.out.mono ?_; rintro e w' ⟨rfl, rfl⟩)
          go_ret3
          exact ⟨rfl, ret3 rfl rfl rfl⟩

set_option maxRecDepth 100000 in
theorem wire_ReadSvar (A : Option Addr) (n cap B : Nat) (p : Int) (w : World) (l : List UInt8) (hn : n = l.length) (h47 : n ≤ 140737488351232) (hr : Row w B A (l.map bv)) :
    Calls Try.prog 18 #[.slice A n cap, .int .i64 p] w fun e w' => w = w' ∧ e = .returned (.tuple #[.int .i64 (unfolded (uvar l p).1), .int .i64 (uvar l p).2.1, .int .i64 (uvar l p).2.2]) := by
  have HC := Lib.hid (wire_ReadUvar A n cap B p w l hn h47 hr)
  obtain ⟨f1, f2, f3, f4, f5⟩ := uvar_facts l p
  clear hn hr f4 f3
  generalize uvar l p = r at *
  obtain ⟨v, nx, e⟩ := r
  simp only at HC f1 f2 f5 ⊢
  go_enter Try.func18, Try.ntmps18
  go_wp2_with (go_at_call 15; refine HC.out.mono ?_; rintro e w' ⟨rfl, rfl⟩)
  go_ret3
  exact ⟨rfl, ret3 (unfold_wire v f1) rfl rfl⟩
set_option maxRecDepth 100000 in
theorem ref_ReadSvar (A : Option Addr) (n cap B : Nat) (p : Int) (w : World) (l : List UInt8) (hn : n = l.length) (h47 : n ≤ 140737488351232) (hr : Row w B A (l.map bv)) :
    Calls Try.prog 24 #[.slice A n cap, .int .i64 p] w fun e w' => w = w' ∧ e = .returned (.tuple #[.int .i64 (unfolded (uvar l p).1), .int .i64 (uvar l p).2.1, .int .i64 (uvar l p).2.2]) := by
  have HC := Lib.hid (ref_ReadUvar A n cap B p w l hn h47 hr)
  obtain ⟨f1, f2, f3, f4, f5⟩ := uvar_facts l p
  clear hn hr f4 f3
  generalize uvar l p = r at *
  obtain ⟨v, nx, e⟩ := r
  simp only at HC f1 f2 f5 ⊢
  rcases Nat.mod_two_eq_zero_or_one v with h | h
  · have h' : ((v : Int) % 2 == 1) = false := by simp; omega
    rw [show unfolded v = ((v / 2 : Nat) : Int) from by unfold unfolded; rw [if_neg (by omega)]]
    clear h
    go_enter Try.func24, Try.ntmps24
    go_wp2_with (go_at_call 23; refine HC.out.mono ?_; rintro e w' ⟨rfl, rfl⟩)
    go_ret3
    exact ⟨rfl, ret3 (by simp) rfl rfl⟩
  · have h' : ((v : Int) % 2 == 1) = true := by simp; omega
    rw [show unfolded v = -((v / 2 : Nat) : Int) - 1 from by unfold unfolded; rw [if_pos (by omega)]]
    clear h
    go_enter Try.func24, Try.ntmps24
    go_wp2_with (go_at_call 23; refine HC.out.mono ?_; rintro e w' ⟨rfl, rfl⟩)
    go_ret3
    exact ⟨rfl, ret3 (by simp) rfl rfl⟩
end Go.Proofs.Ytndkhlafpcedbaa
