/- The law TypesWords, walked. -/
import Derived.Test.YtndkhlafpcedbaaTypesR
import Derived.Test.YtndkhlafpcedbaaTypesW
namespace Go.Proofs.Ytndkhlafpcedbaa
set_option linter.unusedVariables false
open Go.RowKit
theorem cell_gt {w : World} {v : Value} (h : w.cell? ⟨0, 0, none⟩ = some v) : 0 < w.heap.size := by
  rcases Nat.eq_zero_or_pos w.heap.size with h0 | h0
  · exfalso
    have : w.heap[0]? = none := Array.getElem?_eq_none (by omega)
    simp [World.cell?, this] at h
  · exact h0
theorem wordS_le (p r : ByteArray) : (wordS p r).1.size ≤ p.size + r.size + 6 := by
  unfold wordS sideS
  split
  · rw [size_app, size_app]
    have h4 : arrow.size = 4 := rfl
    have h1 : dash.size = 1 := rfl
    split <;> split <;> omega
  · show (0 : Nat) ≤ _
    omega
theorem wordS_err (p r : ByteArray) : (wordS p r).2 = 0 ∨ (wordS p r).2 = 15 := by
  unfold wordS
  split
  · left; rfl
  · right; rfl
theorem readS_le (s : ByteArray) : (readS s).1.size ≤ s.size ∧ (readS s).2.1.size ≤ s.size := by
  have h1 := cut_size s
  have h2 := meant_size (cutA s)
  have h3 := meant_size (cutB s)
  unfold readS
  split
  · show (meantS (cutA s)).1.size ≤ _ ∧ (meantS (cutB s)).1.size ≤ _
    omega
  · exact ⟨Nat.zero_le _, Nat.zero_le _⟩
theorem readS_err (s : ByteArray) : (readS s).2.2 = 0 ∨ (readS s).2.2 = 15 := by
  unfold readS
  split
  · left; rfl
  · right; rfl
set_option maxRecDepth 100000 in
set_option maxHeartbeats 2000000 in
theorem walk_TypesWords (p r s : ByteArray) (m : Int) (w : World) (h0 : 0 < w.heap.size) (hm : w.cell? ⟨0, 0, none⟩ = some (.int .i64 m))
    (hp : p.size ≤ 140737488351232) (hr : r.size ≤ 140737488351232) (hs : s.size ≤ 140737488351232) :
    Calls Try.prog 11 #[.agg #[.string p, .string r], .string s] w fun e w' => e = .returned (.bool true) ∧ Below w.heap.size w w' := by
  have Hm := Lib.hid hm; clear hm
  have HCell : Hid (∀ W, Below w.heap.size w W → W.cell? ⟨0, 0, none⟩ = some (.int .i64 m) ∧ 0 < W.heap.size) := Lib.hid fun W hW =>
    ⟨by rw [hW.cell (p := ⟨0, 0, none⟩) h0]; exact Hm.out, Nat.lt_of_lt_of_le h0 hW.size⟩
  by_cases hbig : 1048576 < s.size + p.size + r.size
  case' neg => have q1 : decide ((1048576 : Int) < (s.size : Int) + p.size + r.size) = false := decide_eq_false (by omega)
  all_goals
    go_enter Try.func11, Try.ntmps11
    go_wp2_with fail
    generalize hw : w.alloc (.cells #[.string p, .string r] 88) = w1
    have Hx : Hid (Blk w1 w.heap.size 88 [.string p, .string r]) := by rw [← hw]; exact Lib.hid (Blk.new w 88 [.string p, .string r])
    have H1 : Hid (Below w.heap.size w w1) := by rw [← hw]; exact Lib.hid ((Below.refl _ _).alloc (Nat.le_refl _) _)
    clear hw
    refine (works02 m w1 (HCell.out w1 H1.out).2 (HCell.out w1 H1.out).1).mono ?_
    rintro e w2 ⟨rfl, h2⟩
    have H2 := Lib.hid (H1.out.trans (h2.mono H1.out.size))
    have Hx2 := Lib.hid (Hx.out.below h2 Hx.out.lt); clear h2 Hx H1
    have hx0 : w2.cell? ⟨w.heap.size, 0, none⟩ = some (.string p) := Hx2.out.cell 0
    have hx1 : w2.cell? ⟨w.heap.size, 1, none⟩ = some (.string r) := Hx2.out.cell 1
    go_wp2_with fail
  rotate_left
  · go_ret
    exact ⟨rfl, H2.out⟩
  · have HWle := wordS_le p r
    have HWerr := Lib.hid (wordS_err p r)
    have HRle := readS_le s
    have HRerr := Lib.hid (readS_err s)
    have HBack : Hid ((wordS p r).2 = 0 → readS (wordS p r).1 = (p, r, 0)) := Lib.hid (fun h => word_read (by rw [← h]))
    have HBack2 : Hid ((readS s).2.2 = 0 → wordS (readS s).1 (readS s).2.1 = (s, 0)) := Lib.hid (fun h => (read_word h).1)
    have HW1 := Lib.hid (fun W => types_Word p r hp hr W)
    have HW2 := Lib.hid (fun W => ref_Word p r hp hr W)
    have HR1 := Lib.hid (fun W hW => types_ReadSig s (by omega) m W hW)
    have HR2 := Lib.hid (fun W => ref_ReadSig s hs W)
    generalize wordS p r = wd at *
    obtain ⟨wt, we⟩ := wd
    generalize readS s = rd at *
    obtain ⟨ra, rb, re⟩ := rd
    simp only at HWle HWerr HRle HRerr HBack HBack2 HW1 HW2 HR1 HR2
    refine (HW1.out _).mono ?_
    rintro e w3 ⟨h3, rfl⟩
    have H3 := Lib.hid (H2.out.trans (h3.mono H2.out.size))
    have Hx3 := Lib.hid (Hx2.out.below h3 Hx2.out.lt); clear h3 Hx2 H2 hx0 hx1
    have hx0 : w3.cell? ⟨w.heap.size, 0, none⟩ = some (.string p) := Hx3.out.cell 0
    have hx1 : w3.cell? ⟨w.heap.size, 1, none⟩ = some (.string r) := Hx3.out.cell 1
    go_wp2_with fail
    refine (HW2.out _).mono ?_
    rintro e w4 ⟨h4, rfl⟩
    have H4 := Lib.hid (H3.out.trans (h4.mono H3.out.size))
    have Hx4 := Lib.hid (Hx3.out.below h4 Hx3.out.lt); clear h4 Hx3 H3 hx0 hx1
    go_wp2_with fail
    refine (HR1.out _ (HCell.out _ H4.out).1).mono ?_
    rintro e w5 ⟨h5, rfl⟩
    have H5 := Lib.hid (H4.out.trans (h5.mono H4.out.size))
    have Hx5 := Lib.hid (Hx4.out.below h5 Hx4.out.lt); clear h5 Hx4 H4
    go_wp2_with fail
    generalize hw : w5.alloc (.cells #[.string ra, .string rb] 88) = v5
    have Hy : Hid (Blk v5 w5.heap.size 88 [.string ra, .string rb]) := by rw [← hw]; exact Lib.hid (Blk.new w5 88 [.string ra, .string rb])
    have Hv5 : Hid (Below w.heap.size w v5) := by rw [← hw]; exact Lib.hid (H5.out.alloc H5.out.size _)
    have Hxv : Hid (Blk v5 w.heap.size 88 [.string p, .string r]) := by rw [← hw]; exact Lib.hid (Hx5.out.alloc _)
    clear hw Hx5
    refine (HR2.out _).mono ?_
    rintro e w6 ⟨h6, rfl⟩
    have H6 := Lib.hid (Hv5.out.trans (h6.mono Hv5.out.size))
    have Hy6 := Lib.hid (Hy.out.below h6 Hy.out.lt)
    have Hx6 := Lib.hid (Hxv.out.below h6 Hxv.out.lt); clear h6 Hxv H5 Hy Hv5
    have H7 : Hid (Below w.heap.size w (w6.alloc (.cells #[.string ra, .string rb] 88))) := Lib.hid (H6.out.alloc H6.out.size _)
    have Hx7 : Hid (Blk (w6.alloc (.cells #[.string ra, .string rb] 88)) w.heap.size 88 [.string p, .string r]) := Lib.hid (Hx6.out.alloc _)
    have Hy7 : Hid (Blk (w6.alloc (.cells #[.string ra, .string rb] 88)) w5.heap.size 88 [.string ra, .string rb]) := Lib.hid (Hy6.out.alloc _)
    have hx0 : (w6.alloc (.cells #[.string ra, .string rb] 88)).cell? ⟨w.heap.size, 0, none⟩ = some (.string p) := Hx7.out.cell 0
    have hx1 : (w6.alloc (.cells #[.string ra, .string rb] 88)).cell? ⟨w.heap.size, 1, none⟩ = some (.string r) := Hx7.out.cell 1
    have hy0 : (w6.alloc (.cells #[.string ra, .string rb] 88)).cell? ⟨w5.heap.size, 0, none⟩ = some (.string ra) := Hy7.out.cell 0
    have hy1 : (w6.alloc (.cells #[.string ra, .string rb] 88)).cell? ⟨w5.heap.size, 1, none⟩ = some (.string rb) := Hy7.out.cell 1
    clear Hx6 Hy6 H6 HW1 HR2
    rcases HRerr.out with hg | hg <;> subst hg <;> clear HRerr <;> rcases HWerr.out with he | he <;> subst he <;> clear HWerr
    case' inl.inl | inr.inl =>
      go_wp2_with fail
      refine (types_ReadSig wt (by omega) m _ (HCell.out _ H7.out).1).mono ?_
      rw [HBack.out (by trivial)]
      rintro e w8 ⟨h8, rfl⟩
      have H8 := Lib.hid (H7.out.trans (h8.mono H7.out.size))
      have Hx8 := Lib.hid (Hx7.out.below h8 Hx7.out.lt)
      have Hy8 := Lib.hid (Hy7.out.below h8 Hy7.out.lt); clear h8 Hx7 Hy7 H7 hx0 hx1 hy0 hy1
      have H9 : Hid (Below w.heap.size w (w8.alloc (.cells #[.string p, .string r] 88))) := Lib.hid (H8.out.alloc H8.out.size _)
      have hx0 : (w8.alloc (.cells #[.string p, .string r] 88)).cell? ⟨w.heap.size, 0, none⟩ = some (.string p) := (Hx8.out.alloc _).cell 0
      have hx1 : (w8.alloc (.cells #[.string p, .string r] 88)).cell? ⟨w.heap.size, 1, none⟩ = some (.string r) := (Hx8.out.alloc _).cell 1
      have hy0 : (w8.alloc (.cells #[.string p, .string r] 88)).cell? ⟨w5.heap.size, 0, none⟩ = some (.string ra) := (Hy8.out.alloc _).cell 0
      have hy1 : (w8.alloc (.cells #[.string p, .string r] 88)).cell? ⟨w5.heap.size, 1, none⟩ = some (.string rb) := (Hy8.out.alloc _).cell 1
    case' inl.inr | inr.inr => have H9 := H7
    all_goals go_wp2_with fail
    all_goals first
      | (go_ret
         exact ⟨rfl, H9.out⟩)
      | (refine (types_Word ra rb (by omega) (by omega) _).mono ?_
         rw [HBack2.out (by trivial)]
         rintro e w10 ⟨h10, rfl⟩
         have H10 := Lib.hid (H9.out.trans (h10.mono H9.out.size)); clear h10
         go_wp2_with fail
         go_ret
         exact ⟨rfl, H10.out⟩)
end Go.Proofs.Ytndkhlafpcedbaa
