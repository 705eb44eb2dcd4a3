/- mem: what is not made; Size; a bad New. -/
import Derived.Test.YtndkhlafpcedbaaMemD
namespace Go.Proofs.Ytndkhlafpcedbaa
set_option linter.unusedVariables false
open Go.RowKit
/-- No memory: nil, or a plain one. -/
def NoMem (p : Value) (w : World) : Prop := p = .pointer none ∨ ∃ b, p = .pointer (some ⟨b, 0, none⟩) ∧ w.cell? ⟨b, 0, none⟩ = some (.bool false)
set_option maxRecDepth 100000 in
set_option maxHeartbeats 400000 in
theorem nm_ok (p : Value) (w : World) (hp : NoMem p w) :
    Calls Try.prog 82 #[p] w fun e w' => w = w' ∧ e = .returned (.bool false) := by
  rcases hp with rfl | ⟨b, rfl, hc⟩
  · go_enter Try.func82, Try.ntmps82
    go_wp2_with fail
    go_ret
    exact ⟨rfl, rfl⟩
  · go_enter Try.func82, Try.ntmps82
    go_wp2_with fail
    go_ret
    exact ⟨rfl, rfl⟩
set_option maxRecDepth 100000 in
set_option maxHeartbeats 400000 in
theorem nm_lies (p : Value) (a : Nat) (n : Int) (w : World) (hp : NoMem p w) :
    Calls Try.prog 80 #[p, .int .u64 a, .int .i64 n] w fun e w' => w = w' ∧ e = .returned (.bool false) := by
  have HO := Lib.hid (nm_ok p w hp)
  clear hp
  go_enter Try.func80, Try.ntmps80
  go_wp2_with fail
  refine HO.out.mono ?_
  rintro e w' ⟨rfl, rfl⟩
  go_wp2_with fail
  go_ret
  exact ⟨rfl, rfl⟩
set_option maxRecDepth 100000 in
set_option maxHeartbeats 400000 in
theorem nm_Load (p : Value) (a : Nat) (n : Int) (w : World) (hp : NoMem p w) :
    Calls Try.prog 52 #[p, .int .u64 a, .int .i64 n] w fun e w' => w = w' ∧ e = .returned (.tuple #[.int .u64 0, .bool false]) := by
  have HO := Lib.hid (nm_lies p a n w hp)
  clear hp
  go_enter Try.func52, Try.ntmps52
  go_wp2_with fail
  refine HO.out.mono ?_
  rintro e w' ⟨rfl, rfl⟩
  go_wp2_with fail
  go_ret2
  exact ⟨rfl, rfl⟩
set_option maxRecDepth 100000 in
set_option maxHeartbeats 400000 in
theorem nm_Store (p : Value) (a v : Nat) (n : Int) (w : World) (hp : NoMem p w) :
    Calls Try.prog 53 #[p, .int .u64 a, .int .i64 n, .int .u64 v] w fun e w' => w = w' ∧ e = .returned (.bool false) := by
  have HO := Lib.hid (nm_lies p a n w hp)
  clear hp
  go_enter Try.func53, Try.ntmps53
  go_wp2_with fail
  refine HO.out.mono ?_
  rintro e w' ⟨rfl, rfl⟩
  go_wp2_with fail
  go_ret
  exact ⟨rfl, rfl⟩
set_option maxRecDepth 100000 in
set_option maxHeartbeats 400000 in
theorem nm_Size (p : Value) (w : World) (hp : NoMem p w) :
    Calls Try.prog 55 #[p] w fun e w' => w = w' ∧ e = .returned (.int .i64 0) := by
  have HO := Lib.hid (nm_ok p w hp)
  clear hp
  go_enter Try.func55, Try.ntmps55
  go_wp2_with fail
  refine HO.out.mono ?_
  rintro e w' ⟨rfl, rfl⟩
  go_wp2_with fail
  go_ret
  exact ⟨rfl, rfl⟩
set_option maxRecDepth 100000 in
set_option maxHeartbeats 400000 in
theorem nm_Grow (p : Value) (n : Nat) (w : World) (hp : NoMem p w) :
    Calls Try.prog 56 #[p, .int .u64 n] w fun e w' => w = w' ∧ e = .returned (.int .i64 0) := by
  have HO := Lib.hid (nm_ok p w hp)
  clear hp
  go_enter Try.func56, Try.ntmps56
  go_wp2_with fail
  refine HO.out.mono ?_
  rintro e w' ⟨rfl, rfl⟩
  go_wp2_with fail
  go_ret
  exact ⟨rfl, rfl⟩
set_option maxRecDepth 100000 in
set_option maxHeartbeats 400000 in
theorem nm_Pages (p : Value) (w : World) (hp : NoMem p w) :
    Calls Try.prog 57 #[p] w fun e w' => w = w' ∧ e = .returned (.slice none 0 0) := by
  have HO := Lib.hid (nm_ok p w hp)
  clear hp
  go_enter Try.func57, Try.ntmps57
  go_wp2_with fail
  refine HO.out.mono ?_
  rintro e w' ⟨rfl, rfl⟩
  go_wp2_with fail
  go_ret
  exact ⟨rfl, rfl⟩
set_option maxRecDepth 100000 in
set_option maxHeartbeats 400000 in
theorem nm_Dirty (p : Value) (w : World) (hp : NoMem p w) :
    Calls Try.prog 54 #[p] w fun e w' => w = w' ∧ e = .returned (.slice none 0 0) := by
  have HO := Lib.hid (nm_ok p w hp)
  clear hp
  go_enter Try.func54, Try.ntmps54
  go_wp2_with fail
  refine HO.out.mono ?_
  rintro e w' ⟨rfl, rfl⟩
  go_wp2_with fail
  go_ret
  exact ⟨rfl, rfl⟩
set_option maxRecDepth 100000 in
set_option maxHeartbeats 400000 in
theorem nm_Clean (p : Value) (w : World) (hp : NoMem p w) :
    Calls Try.prog 58 #[p] w fun e w' => w = w' ∧ e = .returned (.bool false) := by
  have HO := Lib.hid (nm_ok p w hp)
  clear hp
  go_enter Try.func58, Try.ntmps58
  go_wp2_with fail
  refine HO.out.mono ?_
  rintro e w' ⟨rfl, rfl⟩
  go_wp2_with fail
  go_ret
  exact ⟨rfl, rfl⟩
set_option maxRecDepth 100000 in
set_option maxHeartbeats 400000 in
theorem mem_Size (base : Nat) (m : MemV) (w : World) (hm : MAt base w m) :
    Calls Try.prog 55 #[.pointer (some ⟨m.p, 0, none⟩)] w fun e w' => w = w' ∧ e = .returned (.int .i64 m.bs.length) := by
  have HO := Lib.hid (mem_ok base m w hm)
  have hc := hm.cell1
  clear hm
  go_enter Try.func55, Try.ntmps55
  go_wp2_with fail
  refine HO.out.mono ?_
  rintro e w' ⟨rfl, rfl⟩
  go_wp2_with fail
  go_ret
  exact ⟨rfl, rfl⟩
/-- A New that is refused. -/
def newBad (n most : Int) : Prop := n < 0 ∨ most < n ∨ 64 < most
set_option maxRecDepth 100000 in
set_option maxHeartbeats 400000 in
theorem mem_New_bad (n most : Int) (h : newBad n most) (w : World) :
    Calls Try.prog 51 #[.int .i64 n, .int .i64 most] w fun e w' => w = w' ∧ e = .returned (.tuple #[.pointer none, .int .i64 1]) := by
  unfold newBad at h
  by_cases h1 : n < 0
  · clear h
    go_enter Try.func51, Try.ntmps51
    go_wp2_with fail
    go_ret2
    exact ⟨rfl, rfl⟩
  · have q1 : decide (n < 0) = false := decide_eq_false h1
    by_cases h2 : most < n
    · clear h h1
      go_enter Try.func51, Try.ntmps51
      go_wp2_with fail
      go_ret2
      exact ⟨rfl, rfl⟩
    · have q2 : decide (most < n) = false := decide_eq_false h2
      have h3 : 64 < most := by omega
      clear h h1 h2
      go_enter Try.func51, Try.ntmps51
      go_wp2_with fail
      go_ret2
      exact ⟨rfl, rfl⟩
end Go.Proofs.Ytndkhlafpcedbaa
