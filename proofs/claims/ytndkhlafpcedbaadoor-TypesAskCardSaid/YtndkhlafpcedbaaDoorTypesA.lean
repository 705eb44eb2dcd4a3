/- types.Letter, types.each at two closures. -/
import Derived.Test.YtndkhlafpcedbaaDoorProg
import Derived.Test.YtndkhlafpcedbaaDoorIter
import Derived.Handy
namespace Go.Proofs.YtndkhlafpcedbaaDoor
set_option linter.unusedVariables false
open Go.RowKit
set_option maxHeartbeats 400000 in
theorem types_Letter (c : Nat) (hc : c < 256) (w : World) : Calls Tryd.prog 45 #[.int .u8 c] w fun e w' => w = w' ∧ e = .returned (.bool (isN c)) := by
  by_cases h1 : c = 119
  · subst h1
    go_enter Tryd.func45, Tryd.ntmps45
    go_wp2
    go_ret
    exact ⟨rfl, rfl⟩
  · have h1' : ((c : Int) == 119) = false := by simp; omega
    by_cases h2 : c = 108
    · subst h2
      go_enter Tryd.func45, Tryd.ntmps45
      go_wp2
      go_ret
      exact ⟨rfl, rfl⟩
    · have h2' : ((c : Int) == 108) = false := by simp; omega
      have HF := Lib.hid (show isN c = false by simp [isN, h1, h2])
      clear h1 h2
      go_enter Tryd.func45, Tryd.ntmps45
      go_wp2
      go_ret
      exact ⟨rfl, by rw [HF.out]; rfl⟩
end Go.Proofs.YtndkhlafpcedbaaDoor
