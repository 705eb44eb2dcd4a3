/- types and the references of layers 2 and 14: letters, shapes, values that fit. -/
import Derived.Test.YtndkhlafpcedbaaDoorEachL
import Derived.Test.YtndkhlafpcedbaaDoorEachA
import Derived.Test.YtndkhlafpcedbaaDoorShapeP
import Derived.Deep.QuietTactic
import Derived.BigQuiet
namespace Go.Proofs.YtndkhlafpcedbaaDoor
set_option linter.unusedVariables false
open Go.RowKit
theorem letters_one (i c : Int) (w : World) : Calls Tryd.prog 100 #[.int .i64 i, .int .u8 c] w fun e w' => w = w' ∧ e = .returned (.bool true) := by
  go_enter Tryd.func100, Tryd.ntmps100
  go_wp2
  go_ret
  exact ⟨rfl, rfl⟩
set_option maxHeartbeats 400000 in
theorem types_letters (s : ByteArray) (m : Nat) (h47 : s.size ≤ 140737488351232) (hm : m ≤ 1000) (w : World) :
    Calls Tryd.prog 91 #[.string s, .int .i64 m] w fun e w' => Below w.heap.size w w' ∧ e = .returned (.bool (letB m s.data.toList)) := by
  have hsz : s.data.toList.length = s.size := by simp
  by_cases h : s.size ≤ m
  · have HC := Lib.hid (each_letters s h47 [] w (fun _ _ => true) (fun i W _ _ _ => letters_one _ _ W))
    have HR : Hid (letB m s.data.toList = eachB (fun _ _ => true) 0 s.data.toList) := Lib.hid (by unfold letB; rw [eachB_true, hsz]; simp [h])
    clear hsz
    go_enter Tryd.func91, Tryd.ntmps91
    go_wp2_with fail
    refine HC.out.mono ?_
    rintro e w1 ⟨h1, rfl⟩
    go_wp2_with fail
    go_ret
    exact ⟨h1, by rw [HR.out]; rfl⟩
  · have HR : Hid (letB m s.data.toList = false) := Lib.hid (by unfold letB; rw [hsz]; simp [h])
    clear hsz
    go_enter Tryd.func91, Tryd.ntmps91
    go_wp2_with fail
    go_ret
    exact ⟨Below.refl _ _, by rw [HR.out]; rfl⟩
theorem types_Shape (s : ByteArray) (h47 : s.size ≤ 140737488351232) (w : World) :
    Calls Tryd.prog 47 #[.string s] w fun e w' => Below w.heap.size w w' ∧ e = .returned (.bool (letB 256 s.data.toList)) := by
  have HC := Lib.hid (types_letters s 256 h47 (by omega) w)
  generalize letB 256 s.data.toList = b at *
  go_enter Tryd.func47, Tryd.ntmps47
  go_wp2_with fail
  refine HC.out.mono ?_
  rintro e w1 ⟨h1, rfl⟩
  go_wp2_with fail
  go_ret
  exact ⟨h1, rfl⟩
set_option maxHeartbeats 400000 in
theorem ref_Letter (c : Nat) (hc : c < 256) (w : World) : Calls Tryd.prog 46 #[.int .u8 c] w fun e w' => w = w' ∧ e = .returned (.bool (isN c)) := by
  by_cases h1 : c = 119
  · subst h1
    go_enter Tryd.func46, Tryd.ntmps46
    go_wp2
    go_ret
    exact ⟨rfl, rfl⟩
  · have h1' : ((c : Int) == 119) = false := by simp; omega
    by_cases h2 : c = 108
    · subst h2
      go_enter Tryd.func46, Tryd.ntmps46
      go_wp2
      go_ret
      exact ⟨rfl, rfl⟩
    · have h2' : ((c : Int) == 108) = false := by simp; omega
      have HF := Lib.hid (show isN c = false by simp [isN, h1, h2])
      clear h1 h2
      go_enter Tryd.func46, Tryd.ntmps46
      go_wp2
      go_ret
      exact ⟨rfl, by rw [HF.out]; rfl⟩
def RLRel (l : List UInt8) (w : World) (i : Value) (wr : World) : Prop := ∃ k : Nat, k ≤ l.length ∧ i = .int .i64 k ∧ wr = w ∧ (l.drop k).all isL = l.all isL
set_option maxRecDepth 100000 in
set_option maxHeartbeats 400000 in
theorem ref_Letters (s : ByteArray) (m : Nat) (h47 : s.size ≤ 140737488351232) (w : World) :
    Calls Tryd.prog 92 #[.string s, .int .i64 m] w fun e w' => w = w' ∧ e = .returned (.bool (letB m s.data.toList)) := by
  have hsz : s.data.toList.length = s.size := by simp
  have Hsz := Lib.hid hsz; clear hsz
  by_cases h : s.size ≤ m
  · have HR : Hid (letB m s.data.toList = s.data.toList.all isL) := Lib.hid (by unfold letB; rw [Hsz.out]; simp [h])
    have hdec : decide (m < s.size) = false := by simp; omega
    go_enter Tryd.func92, Tryd.ntmps92
    go_wp2_with fail
    go_loopw [5] (fun i wr => RLRel s.data.toList w i wr) (fun i _ => s.size - (intOf i).toNat)
    case atStart => exact ⟨0, Nat.zero_le _, rfl, rfl, rfl⟩
    case round =>
      obtain ⟨k, hk, rfl, hw, hR⟩ := hrel
      subst hw
      have HR2 := Lib.hid hR; clear hR
      rw [Hsz.out] at hk
      by_cases hlt : k < s.size
      · have Hd := Lib.hid (drop_at s.data.toList k (by rw [Hsz.out]; exact hlt))
        have hb := byte_at s k hlt
        have Hb := Lib.hid hb; clear hb
        have hk0 : (0 : Int) ≤ k := by omega
        have hu8 : (s.data.toList[k]?.getD 0).toNat < 256 := UInt8.toNat_lt _
        have HE : Hid (isL (s.data.toList[k]?.getD 0) = isN (s.data.toList[k]?.getD 0).toNat) := Lib.hid rfl
        have HR3 : Hid ((isL (s.data.toList[k]?.getD 0) && (s.data.toList.drop (k + 1)).all isL) = s.data.toList.all isL) := Lib.hid (by rw [← HR2.out, Hd.out]; rfl)
        clear Hd HR2
        go_wp2_with fail
        rw [Hb.out]
        refine (ref_Letter _ hu8 _).mono ?_
        rintro e w' ⟨rfl, rfl⟩
        rw [HE.out] at HR3
        cases hN : isN (s.data.toList[k]?.getD 0).toNat with
        | false =>
          rw [hN] at HR3
          clear hN
          go_wp2_with fail
          go_ret
          exact ⟨rfl, by rw [HR.out, ← HR3.out]; rfl⟩
        | true =>
          rw [hN] at HR3
          clear hN
          go_wp2_with fail
          exact ⟨⟨k + 1, by rw [Hsz.out]; omega, by go_num, rfl, HR3.out⟩, by simp [intOf]; omega⟩
      · have hge : ¬ (k : Int) < s.size := by omega
        have HT : Hid (s.data.toList.all isL = true) := Lib.hid (by rw [← HR2.out, List.drop_of_length_le (by rw [Hsz.out]; omega)]; rfl)
        go_wp2_with fail
        go_ret
        exact ⟨rfl, by rw [HR.out, HT.out]; rfl⟩
  · have HR : Hid (letB m s.data.toList = false) := Lib.hid (by unfold letB; rw [Hsz.out]; simp [h])
    go_enter Tryd.func92, Tryd.ntmps92
    go_wp2_with fail
    go_ret
    exact ⟨rfl, by rw [HR.out]; rfl⟩
theorem ref_Shape (s : ByteArray) (h47 : s.size ≤ 140737488351232) (w : World) :
    Calls Tryd.prog 48 #[.string s] w fun e w' => w = w' ∧ e = .returned (.bool (letB 256 s.data.toList)) := by
  have HC := Lib.hid (ref_Letters s 256 h47 w)
  generalize letB 256 s.data.toList = b at *
  go_enter Tryd.func48, Tryd.ntmps48
  go_wp2_with fail
  refine HC.out.mono ?_
  rintro e w1 ⟨rfl, rfl⟩
  go_wp2_with fail
  go_ret
  exact ⟨rfl, rfl⟩

set_option maxHeartbeats 400000 in
theorem types_Fits (v c : Nat) (hc : c < 256) (w : World) : Calls Tryd.prog 53 #[.int .u64 v, .int .u8 c] w fun e w' => w = w' ∧ e = .returned (.bool (fitN v c)) := by
  by_cases h1 : c = 108
  · subst h1
    go_enter Tryd.func53, Tryd.ntmps53
    go_wp2
    go_ret
    exact ⟨rfl, rfl⟩
  · have h1' : ((c : Int) == 108) = false := by simp; omega
    by_cases h2 : c = 119
    · subst h2
      by_cases hv : v < 4294967296
      · have hq : ((v : Int) / 4294967296 == 0) = true := by simp; omega
        have HF := Lib.hid (show fitN v 119 = true by simp [fitN, hv])
        clear h1 h1'
        go_enter Tryd.func53, Tryd.ntmps53
        go_wp2
        go_ret
        exact ⟨rfl, by rw [HF.out]; rfl⟩
      · have hq : ((v : Int) / 4294967296 == 0) = false := by simp; omega
        have HF := Lib.hid (show fitN v 119 = false by simp [fitN, hv])
        clear h1 h1'
        go_enter Tryd.func53, Tryd.ntmps53
        go_wp2
        go_ret
        exact ⟨rfl, by rw [HF.out]; rfl⟩
    · have h2' : ((c : Int) == 119) = false := by simp; omega
      have HF := Lib.hid (show fitN v c = false by simp [fitN, h1, h2])
      clear h1 h2
      go_enter Tryd.func53, Tryd.ntmps53
      go_wp2
      go_ret
      exact ⟨rfl, by rw [HF.out]; rfl⟩
end Go.Proofs.YtndkhlafpcedbaaDoor
