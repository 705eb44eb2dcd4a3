/- The law TypesJoin, walked. -/
import Derived.Test.YtndkhlafpcedbaaDoorTypesW
import Derived.Test.YtndkhlafpcedbaaDoorTypesZ
import Derived.Test.YtndkhlafpcedbaaDoorShapeQ
import Derived.Test.YtndkhlafpcedbaaDoorOpen
namespace Go.Proofs.YtndkhlafpcedbaaDoor
set_option linter.unusedVariables false
open Go.RowKit
theorem allB_app : ∀ (la lb : List Nat) (s t : List UInt8), la.length = s.length → allB (la ++ lb) (s ++ t) = (allB la s && allB lb t)
  | [], lb, [], t, _ => by show allB lb t = (allB [] [] && allB lb t); rw [show allB [] [] = true from rfl, Bool.true_and]
  | a :: la, lb, c :: s, t, h => by
    show (fitB a c && allB (la ++ lb) (s ++ t)) = ((fitB a c && allB la s) && allB lb t)
    rw [allB_app la lb s t (by simpa using h), Bool.and_assoc]
  | [], lb, c :: s, t, h => by simp at h
  | a :: la, lb, [], t, h => by simp at h
theorem allB_zero : ∀ (l : List UInt8), l.all isL = true → allB (List.replicate l.length 0) l = true
  | [], _ => rfl
  | c :: l, h => by
    rw [List.all_cons, Bool.and_eq_true] at h
    show (fitB 0 c && allB (List.replicate l.length 0) l) = true
    rw [allB_zero l h.2, Bool.and_true]
    have h1 := h.1
    unfold isL isN at h1
    unfold fitB fitN
    simp only [Bool.or_eq_true] at h1 ⊢
    rcases h1 with h1 | h1
    · right; rw [h1]; rfl
    · left; exact h1
theorem uv_one (l : List Nat) : ∀ u ∈ l.map uv, u.oneCell' = true := by
  intro u hu
  obtain ⟨_, _, rfl⟩ := List.mem_map.1 hu
  rfl
theorem words_nat (xs : List Int) (h : ∀ n ∈ xs, (Lit.int .u64 n).wf = true) : xs.map (Value.int .u64) = (xs.map Int.toNat).map uv := by
  rw [List.map_map]
  refine List.map_congr_left fun n hn => ?_
  have := (bd_u64 (h n hn)).1
  show Value.int .u64 n = .int .u64 ((n.toNat : Nat) : Int)
  rw [Int.toNat_of_nonneg this]
theorem cell_pos {w : World} {v : Value} (h : w.cell? ⟨0, 0, none⟩ = some v) : 0 < w.heap.size := by
  rcases Nat.eq_zero_or_pos w.heap.size with h0 | h0
  · exfalso
    have : w.heap[0]? = none := Array.getElem?_eq_none (by omega)
    simp [World.cell?, this] at h
  · exact h0
end Go.Proofs.YtndkhlafpcedbaaDoor
