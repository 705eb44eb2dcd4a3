/- Literal slices; lists of ints. No program in sight. -/
import Derived.Test.YtndkhlafpcedbaaDoorMem
namespace Go.Proofs.YtndkhlafpcedbaaDoor
set_option linter.unusedVariables false
open Go.RowKit
theorem row_lit (w : World) (cs : List Value) (e : TypeId) : Row (w.alloc (.cells cs.toArray e)) (w.heap.size + 1) (some ⟨w.heap.size, 0, none⟩) cs := by
  have := (Blk.new w e cs).row 0 cs.length
  simpa using this
theorem getD_mem_range (ps : List Int) (h : ∀ x ∈ ps, -9223372036854775808 ≤ x ∧ x < 9223372036854775808) (k : Nat) (hk : k < ps.length) : -9223372036854775808 ≤ ps[k]?.getD 0 ∧ ps[k]?.getD 0 < 9223372036854775808 := by
  rw [List.getElem?_eq_getElem hk]
  exact h _ (List.getElem_mem hk)
def ivals (ps : List Int) : List Value := ps.map (Value.int .i64)
theorem ivals_cell {w : World} {B : Nat} {A : Option Addr} {ps : List Int} (h : Row w B A (ivals ps)) {k : Nat} (hk : k < ps.length) :
    ∃ b o, A = some ⟨b, o, none⟩ ∧ b < B ∧ w.cell? ⟨b, o + k, none⟩ = some (.int .i64 (ps[k]?.getD 0)) := by
  refine h.at ?_
  unfold ivals
  rw [List.getElem?_map, List.getElem?_eq_getElem hk]
  rfl
end Go.Proofs.YtndkhlafpcedbaaDoor
