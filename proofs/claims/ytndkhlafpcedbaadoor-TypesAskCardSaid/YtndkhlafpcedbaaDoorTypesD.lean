/- types.All. -/
import Derived.Test.YtndkhlafpcedbaaDoorTypesB
namespace Go.Proofs.YtndkhlafpcedbaaDoor
set_option linter.unusedVariables false
open Go.RowKit
set_option maxRecDepth 100000 in
set_option maxHeartbeats 400000 in
theorem all_one (b B n c : Nat) (A : Option Addr) (vs : List Nat) (i ch : Nat) (w : World) (hc : w.cell? ⟨b, 0, none⟩ = some (.slice A n c)) (hn : n = vs.length) (hr : Row w B A (vs.map uv)) (hi : i < n) (hch : ch < 256) :
    Calls Tryd.prog 94 #[.int .i64 i, .int .u8 ch, .pointer (some ⟨b, 0, none⟩)] w fun e w' => w = w' ∧ e = .returned (.bool (fitN (vs[i]?.getD 0) ch)) := by
  obtain ⟨g, o, rfl, _, hcell⟩ := hr.word (j := i) (by rw [← hn]; exact hi)
  have HF := Lib.hid (fun W => types_Fits (vs[i]?.getD 0) ch hch W)
  generalize vs[i]?.getD 0 = v at *
  have hi0 : (0 : Int) ≤ i := by omega
  clear hr hn
  go_enter Tryd.func94, Tryd.ntmps94
  go_wp2_with fail
  refine (HF.out _).mono ?_
  rintro e w' ⟨rfl, rfl⟩
  go_wp2_with fail
  go_ret
  exact ⟨rfl, rfl⟩
set_option maxRecDepth 100000 in
set_option maxHeartbeats 400000 in
theorem types_All (A : Option Addr) (n c B : Nat) (vs : List Nat) (s : ByteArray) (w : World) (hn : n = vs.length) (hr : Row w B A (vs.map uv)) (hB : B ≤ w.heap.size) (h47 : s.size ≤ 140737488351232) :
    Calls Tryd.prog 51 #[.slice A n c, .string s] w fun e w' => Below w.heap.size w w' ∧ e = .returned (.bool (allB vs s.data.toList)) := by
  have hsz : s.data.toList.length = s.size := by simp
  by_cases h : n = s.size
  · have HE : Hid (eachB (fun i c => fitB (vs[i]?.getD 0) c) 0 s.data.toList = allB vs s.data.toList) := Lib.hid (by
      rw [eachB_fit vs 0 s.data.toList (by rw [hsz]; omega)]; rfl)
    have hone : ∀ (w1 : World), w1.cell? ⟨w.heap.size, 0, none⟩ = some (.slice A n c) → Row w1 B A (vs.map uv) → w.heap.size + 1 = w1.heap.size → Calls Tryd.prog 93 #[.string s, .func (.func 94) #[] #[.pointer (some ⟨w.heap.size, 0, none⟩)]] w1 fun e w' => Below w1.heap.size w1 w' ∧ e = .returned (.bool (allB vs s.data.toList)) := fun w1 hc1 hr1 hs1 => by
      rw [← HE.out]
      refine each_all s h47 [.pointer (some ⟨w.heap.size, 0, none⟩)] w1 (fun i c => fitB (vs[i]?.getD 0) c) (fun i W hi _ hW => ?_)
      have hc2 : W.cell? ⟨w.heap.size, 0, none⟩ = some (.slice A n c) := by rw [hW.cell (show w.heap.size < w1.heap.size by omega)]; exact hc1
      exact all_one w.heap.size B n c A vs i _ W hc2 hn (hr1.below (hW.mono (show B ≤ w1.heap.size by omega))) (by omega) (UInt8.toNat_lt _)
    have Hone := Lib.hid hone; clear hone HE
    have Hr := Lib.hid hr; clear hr
    have Hn := Lib.hid hn; clear hn hsz
    go_enter Tryd.func51, Tryd.ntmps51
    go_wp2_with fail
    rw [show s.size = n from h.symm]
    refine (Hone.out _ (by exact (Blk.new w 82 [_]).cell 0) (Hr.out.below' ((Below.refl _ _).alloc (Nat.le_refl _) _) hB) (by simp)).mono ?_
    rintro e w1 ⟨h1, rfl⟩
    go_wp2_with fail
    go_ret
    exact ⟨(Below.refl _ _).trans (((Below.refl _ _).alloc (Nat.le_refl _) _).trans (h1.mono (by simp))), rfl⟩
  · have HF : Hid (allB vs s.data.toList = false) := Lib.hid (allB_ne _ _ (by rw [hsz]; omega))
    have hne : ((n : Int) == s.size) = false := by simp; omega
    clear hr hn hsz
    go_enter Tryd.func51, Tryd.ntmps51
    go_wp2_with fail
    go_ret
    exact ⟨(Below.refl _ _).alloc (Nat.le_refl _) _, by rw [HF.out]; rfl⟩
end Go.Proofs.YtndkhlafpcedbaaDoor
