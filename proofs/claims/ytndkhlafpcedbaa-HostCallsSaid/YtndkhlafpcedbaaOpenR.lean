/- Arguments opened: replies, lists of strings. -/
import Derived.Test.YtndkhlafpcedbaaHostP
import Derived.Test.YtndkhlafpcedbaaProg
import Derived.KernelRfl
namespace Go.Proofs.Ytndkhlafpcedbaa
set_option linter.unusedVariables false
open Go.RowKit
theorem Try.opens_words : Opens Try.prog 52 (Rd.u64.sl false) (fun xs => xs.length * 8 ≤ 140737488351232 ∧ ∀ x ∈ xs, Rd.B64 x) :=
  opens_sl Try.underlying52 (by kernel_rfl) (opens_u64 Try.underlying22 (by kernel_rfl)) (by kernel_rfl) (of_decide_eq_true (by kernel_rfl))
def repOk (r : List Nat × (Bool × Unit)) : Prop := (r.1.length * 8 ≤ 140737488351232 ∧ ∀ x ∈ r.1, Rd.B64 x) ∧ True ∧ True
set_option maxRecDepth 100000 in
theorem Try.opens_rep0 : Opens Try.prog 54 ((Rd.u64.sl false).pair (Rd.bool.pair Rd.unit)) repOk := by
  refine opens_struct Try.underlying54 (by kernel_rfl) ?_
  refine opensF_cons (ok := fun l : List Nat => l.length * 8 ≤ 140737488351232 ∧ ∀ x ∈ l, Rd.B64 x) (ok2 := fun _ => True ∧ True) ?_ ?_ ?_
  · rfl
  · exact Try.opens_words
  refine opensF_cons (ok := fun _ => True) (ok2 := fun _ => True) ?_ ?_ opensF_nil
  · rfl
  · exact opens_bool Try.underlying4 (by kernel_rfl)
theorem Try.opens_rep : Opens Try.prog 54 (rRep false) (fun r => repOk (r.1, r.2, ())) :=
  opens_via Try.opens_rep0 (fun r : Rep => (r.1, r.2, ())) (fun a => (a.1, a.2.1)) (fun _ => rfl)
theorem Try.opens_reps : Opens Try.prog 44 (rScr false) (fun rs => rs.length * 32 ≤ 140737488351232 ∧ ∀ r ∈ rs, repOk (r.1, r.2, ())) :=
  opens_sl Try.underlying44 (by kernel_rfl) Try.opens_rep (by kernel_rfl) (of_decide_eq_true (by kernel_rfl))
theorem Try.opens_strs : Opens Try.prog 45 (Rd.str.sl false) (fun cs => cs.length * 16 ≤ 140737488351232 ∧ ∀ s ∈ cs, Rd.SOk s) :=
  opens_sl Try.underlying45 (by kernel_rfl) (opens_str Try.underlying9 (by kernel_rfl)) (by kernel_rfl) (of_decide_eq_true (by kernel_rfl))
end Go.Proofs.Ytndkhlafpcedbaa
