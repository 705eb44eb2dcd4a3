/- The law HostNil, walked. -/
import Derived.Test.YtndkhlafpcedbaaHostG
namespace Go.Proofs.Ytndkhlafpcedbaa
set_option linter.unusedVariables false
open Go.RowKit
def HnlRel (w : World) (h i : Value) (wr : World) : Prop :=
  ∃ k : Nat, k ≤ 2 ∧ i = .int .i64 k ∧ Below w.heap.size w wr ∧ (h = .pointer none ∨ ∃ g, h = .pointer (some ⟨g, 0, none⟩) ∧ Blk wr g 64 [.bool false, .slice none 0 0, .int .i64 0])
set_option maxRecDepth 100000 in
set_option maxHeartbeats 1000000 in
theorem walk_HostNil (s : ByteArray) (w : World) (h47 : s.size ≤ 140737488351232) :
    Calls Try.prog 6 #[.string s] w fun e w' => e = .returned (.bool true) ∧ Below w.heap.size w w' := by
  go_enter Try.func6, Try.ntmps6
  go_wp2_with fail
  go_loopw [3, 4] (fun h i wr => HnlRel w h i wr) (fun _ i _ => 2 - (intOf i).toNat)
  case atStart => exact ⟨0, by omega, rfl, Below.refl _ _, .inl rfl⟩
  case round =>
    obtain ⟨k, hk, rfl, hbel, hh⟩ := hrel
    have Hbel := Lib.hid hbel; clear hbel
    by_cases hlt : k < 2
    · rcases hh with rfl | ⟨g, rfl, hg⟩
      · go_wp2_with fail
        refine (host_Call_no none s wr (fun a e => by cases e)).mono ?_
        rintro e w1 ⟨rfl, h1⟩
        have H1 := Lib.hid (Hbel.out.trans (h1.mono Hbel.out.size)); clear h1
        go_wp2_with (first | (go_at_call 35; refine (host_Taken_nil _).mono ?_; rintro e w' ⟨rfl, rfl⟩) | (go_at_call 36; refine (host_Left_nil _).mono ?_; rintro e w' ⟨rfl, rfl⟩))
        exact ⟨⟨k + 1, by omega, by go_num, H1.out.alloc H1.out.size _, .inr ⟨_, rfl, Blk.new _ 64 [.bool false, .slice none 0 0, .int .i64 0]⟩⟩, by simp [intOf]; omega⟩
      · have Hg := Lib.hid hg; clear hg
        go_wp2_with fail
        refine (host_Call_no (some ⟨g, 0, none⟩) s wr (fun a e => by injection e with e; subst e; exact ⟨g, rfl, Hg.out.lt, Hg.out.cell 0⟩)).mono ?_
        rintro e w1 ⟨rfl, h1⟩
        have H1 := Lib.hid (Hbel.out.trans (h1.mono Hbel.out.size))
        have Hg1 := Lib.hid (Hg.out.below h1 Hg.out.lt); clear h1
        go_wp2_with (first | (go_at_call 35; refine (host_Taken g false _ 0 _ Hg1.out).mono ?_; rintro e w' ⟨rfl, rfl⟩) | (go_at_call 36; refine (host_Left g false none 0 0 0 _ Hg1.out (by omega) (by omega)).mono ?_; rintro e w' ⟨⟨j, rfl⟩, rfl⟩))
        exact ⟨⟨k + 1, by omega, by go_num, (below_drewN H1.out j).alloc (below_drewN H1.out j).size _, .inr ⟨_, rfl, Blk.new _ 64 [.bool false, .slice none 0 0, .int .i64 0]⟩⟩, by simp [intOf]; omega⟩
    · obtain rfl : k = 2 := by omega
      go_wp2_with fail
      refine (works15 wr).mono ?_
      rintro e w1 ⟨rfl, h1⟩
      have H1 := Lib.hid (Hbel.out.trans (h1.mono Hbel.out.size)); clear h1
      go_wp2_with fail
      go_ret
      exact ⟨rfl, H1.out⟩
end Go.Proofs.Ytndkhlafpcedbaa
