/- mem.From, flagonref13.From: where the sizes are refused. -/
import Derived.Test.YtndkhlafpcedbaaDoorRefmA
namespace Go.Proofs.YtndkhlafpcedbaaDoor
set_option linter.unusedVariables false
open Go.RowKit
set_option maxRecDepth 100000 in
set_option maxHeartbeats 400000 in
theorem mem_From_bad (A : Option Addr) (n c : Nat) (most : Int) (h : newBad n most) (w : World) :
    Calls Tryd.prog 22 #[.slice A n c, .int .i64 most] w fun e w' => w = w' ∧ e = .returned (.tuple #[.pointer none, .int .i64 1]) := by
  have HN := Lib.hid (mem_New_bad n most h w); clear h
  go_enter Tryd.func22, Tryd.ntmps22
  go_wp2_with fail
  refine HN.out.mono ?_
  rintro e w' ⟨rfl, rfl⟩
  go_wp2_with fail
  go_ret2
  exact ⟨rfl, rfl⟩
set_option maxRecDepth 100000 in
set_option maxHeartbeats 400000 in
theorem ref13_From_bad (A : Option Addr) (n c : Nat) (most : Int) (h : newBad n most) (w : World) :
    Calls Tryd.prog 23 #[.slice A n c, .int .i64 most] w fun e w' => w = w' ∧ e = .returned (.tuple #[.pointer none, .int .i64 1]) := by
  unfold newBad at h
  by_cases h1 : most < n
  · clear h
    go_enter Tryd.func23, Tryd.ntmps23
    go_wp2_with fail
    go_ret2
    exact ⟨rfl, rfl⟩
  · have q1 : decide (most < n) = false := decide_eq_false h1
    have h2 : 64 < most := by omega
    clear h h1
    go_enter Tryd.func23, Tryd.ntmps23
    go_wp2_with fail
    go_ret2
    exact ⟨rfl, rfl⟩
/-- The pages of lists of 4096 bytes each, one behind the other. -/
theorem page_flat : ∀ (L : List (List UInt8)) (i : Nat), (∀ l ∈ L, l.length = 4096) → i < L.length → L[i]? = some (pageOf L.flatten i)
  | [], i, _, h => by simp at h
  | l :: L, 0, h, _ => by
    have hl := h l (List.mem_cons_self ..)
    unfold pageOf
    rw [Nat.mul_zero, List.drop_zero, List.flatten_cons, List.take_append_of_le_length (by omega), List.take_of_length_le (by omega)]
    rfl
  | l :: L, i + 1, h, hi => by
    have hl := h l (List.mem_cons_self ..)
    have ih := page_flat L i (fun x hx => h x (List.mem_cons_of_mem _ hx)) (by simpa using hi)
    rw [List.getElem?_cons_succ, ih]
    unfold pageOf
    rw [List.flatten_cons, show 4096 * (i + 1) = l.length + 4096 * i from by omega, List.drop_append, show l.drop (l.length + 4096 * i) = [] from List.drop_of_length_le (by omega), List.nil_append, Nat.add_sub_cancel_left]
end Go.Proofs.YtndkhlafpcedbaaDoor
