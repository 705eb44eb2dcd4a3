/- mem: ok, lies, at, Load. -/
import Derived.Test.YtndkhlafpcedbaaDoorProg
import Derived.Test.YtndkhlafpcedbaaDoorMemV
import Derived.Handy
namespace Go.Proofs.YtndkhlafpcedbaaDoor
set_option linter.unusedVariables false
open Go.RowKit
/-- A memory in the world, at this program's types. -/
abbrev MAt (base : Nat) (w : World) (m : MemV) : Prop := MemAt 105 106 108 base w m
def ptrM (m : MemV) : Value := .pointer (some ⟨m.p, 0, none⟩)
set_option maxRecDepth 100000 in
set_option maxHeartbeats 400000 in
theorem mem_ok (base : Nat) (m : MemV) (w : World) (hm : MAt base w m) :
    Calls Tryd.prog 84 #[.pointer (some ⟨m.p, 0, none⟩)] w fun e w' => w = w' ∧ e = .returned (.bool true) := by
  have hc := hm.cell0
  clear hm
  go_enter Tryd.func84, Tryd.ntmps84
  go_wp2_with fail
  go_ret
  exact ⟨rfl, rfl⟩
def liesB (L a : Nat) (n : Int) : Bool := decide ((n = 1 ∨ n = 2 ∨ n = 4 ∨ n = 8) ∧ n ≤ L ∧ (a : Int) ≤ L - n)
set_option maxRecDepth 100000 in
set_option maxHeartbeats 1000000 in
theorem mem_lies (base : Nat) (m : MemV) (a : Nat) (n : Int) (w : World) (hm : MAt base w m) (ha : a < 18446744073709551616) :
    Calls Tryd.prog 85 #[.pointer (some ⟨m.p, 0, none⟩), .int .u64 a, .int .i64 n] w fun e w' => w = w' ∧ e = .returned (.bool (liesB m.B.length a n)) := by
  have HO := Lib.hid (mem_ok base m w hm)
  have hc := hm.cell1
  have hL := hm.len
  have hnp := hm.np
  have hmo := hm.most
  rw [hL]
  clear hL
  generalize m.bs.length = np at *
  generalize m.p = p at *
  generalize m.A = A at *
  generalize m.c = c at *
  have hnp64 : np ≤ 64 := by omega
  clear hm hnp hmo
  by_cases hn : n = 1 ∨ n = 2 ∨ n = 4 ∨ n = 8
  · have Hn := Lib.hid hn
    have hn8 : 0 ≤ n ∧ n ≤ 8 := by omega
    have hq : Hid (((n != 1) = false ∧ True) ∨ ((n != 1) = true ∧ (n != 2) = false) ∨ ((n != 1) = true ∧ (n != 2) = true ∧ (n != 4) = false) ∨ ((n != 1) = true ∧ (n != 2) = true ∧ (n != 4) = true ∧ (n != 8) = false)) := by
      refine Lib.hid ?_
      rcases hn with rfl | rfl | rfl | rfl <;> simp
    by_cases h1 : n ≤ (4096 * np : Nat)
    · have h1' : n ≤ (np : Int) * 4096 := by omega
      by_cases h2 : (a : Int) ≤ (4096 * np : Nat) - n
      · have h2' : (a : Int) ≤ (np : Int) * 4096 - n := by omega
        have HF : Hid (liesB (4096 * np) a n = true) := Lib.hid (by unfold liesB; exact decide_eq_true ⟨Hn.out, h1, h2⟩)
        clear h1 h2 hn
        rcases hq.out with ⟨q1, _⟩ | ⟨q1, q2⟩ | ⟨q1, q2, q4⟩ | ⟨q1, q2, q4, q8⟩ <;>
        · go_enter Tryd.func85, Tryd.ntmps85
          go_wp2_with fail
          refine HO.out.mono ?_
          rintro e w' ⟨rfl, rfl⟩
          go_wp2_with fail
          go_ret
          exact ⟨rfl, by rw [HF.out]; rfl⟩
      · have h2' : ¬ (a : Int) ≤ (np : Int) * 4096 - n := by omega
        have h2b : decide ((a : Int) ≤ (np : Int) * 4096 - n) = false := decide_eq_false h2'
        have HF : Hid (liesB (4096 * np) a n = false) := Lib.hid (by unfold liesB; exact decide_eq_false fun h => h2 h.2.2)
        clear h1 h2 hn
        rcases hq.out with ⟨q1, _⟩ | ⟨q1, q2⟩ | ⟨q1, q2, q4⟩ | ⟨q1, q2, q4, q8⟩ <;>
        · go_enter Tryd.func85, Tryd.ntmps85
          go_wp2_with fail
          refine HO.out.mono ?_
          rintro e w' ⟨rfl, rfl⟩
          go_wp2_with fail
          go_ret
          exact ⟨rfl, by rw [HF.out]; rfl⟩
    · have h1' : ¬ n ≤ (np : Int) * 4096 := by omega
      have h1b : decide (n ≤ (np : Int) * 4096) = false := decide_eq_false h1'
      have HF : Hid (liesB (4096 * np) a n = false) := Lib.hid (by unfold liesB; exact decide_eq_false fun h => h1 h.2.1)
      clear h1 hn
      rcases hq.out with ⟨q1, _⟩ | ⟨q1, q2⟩ | ⟨q1, q2, q4⟩ | ⟨q1, q2, q4, q8⟩ <;>
      · go_enter Tryd.func85, Tryd.ntmps85
        go_wp2_with fail
        refine HO.out.mono ?_
        rintro e w' ⟨rfl, rfl⟩
        go_wp2_with fail
        go_ret
        exact ⟨rfl, by rw [HF.out]; rfl⟩
  · have HF : Hid (liesB (4096 * np) a n = false) := Lib.hid (by unfold liesB; simp [hn])
    have q1 : (n != 1) = true := by simp; omega
    have q2 : (n != 2) = true := by simp; omega
    have q4 : (n != 4) = true := by simp; omega
    have q8 : (n != 8) = true := by simp; omega
    clear hn
    go_enter Tryd.func85, Tryd.ntmps85
    go_wp2_with fail
    refine HO.out.mono ?_
    rintro e w' ⟨rfl, rfl⟩
    go_wp2_with fail
    go_ret
    exact ⟨rfl, by rw [HF.out]; rfl⟩
set_option maxRecDepth 100000 in
set_option maxHeartbeats 400000 in
theorem mem_at (base : Nat) (m : MemV) (a : Nat) (w : World) (hm : MAt base w m) (ha : a < m.B.length) :
    Calls Tryd.prog 86 #[.pointer (some ⟨m.p, 0, none⟩), .int .u64 a] w fun e w' => w = w' ∧ e = .returned (.pointer (some ⟨m.bs[a / 4096]?.getD 0, a % 4096, none⟩)) := by
  have hc := hm.cell1
  have hL := hm.len
  have hnp := hm.np
  have hmo := hm.most
  have hi : a / 4096 < m.bs.length := by omega
  obtain ⟨g, hA, hcell⟩ := hm.pg hi
  rw [hA] at hc
  unfold ptrV at hcell
  have hlt : a < 262144 := by omega
  clear hL ha
  generalize m.bs[a / 4096]?.getD 0 = b at *
  generalize m.bs.length = np at *
  generalize m.p = p at *
  generalize m.c = c at *
  clear hm hA hnp hmo
  have hi2 : (a : Int) / 4096 < np := by omega
  have hi3 : (0 : Int) ≤ (a : Int) / 4096 := by omega
  have hi4 : (0 : Int) ≤ (a : Int) % 4096 := by omega
  have hi5 : (a : Int) % 4096 < 4096 := by omega
  go_enter Tryd.func86, Tryd.ntmps86
  go_wp2_with fail
  go_ret
  exact ⟨rfl, rfl⟩
end Go.Proofs.YtndkhlafpcedbaaDoor
