/- flagonref02.Fits, All, Zero; types.Zero, told whole. -/
import Derived.Test.YtndkhlafpcedbaaDoorTypesZ
import Derived.Test.YtndkhlafpcedbaaDoorTypesB
import Derived.Deep.QuietTactic
import Derived.BigQuiet
namespace Go.Proofs.YtndkhlafpcedbaaDoor
set_option linter.unusedVariables false
open Go.RowKit
def zn (s : ByteArray) : Nat := if allL s = true then s.size else 0
set_option maxRecDepth 100000 in
set_option maxHeartbeats 400000 in
theorem types_ZeroN (s : ByteArray) (h47 : s.size ≤ 2000000) (w : World) :
    Calls Tryd.prog 55 #[.string s] w fun e w' => Below w.heap.size w w' ∧ ∃ A c, e = .returned (.slice A (zn s) c) ∧ w'.ownsRow w.heap.size 22 1 (.slice A (zn s) c) (zn s) (zs (zn s)) := by
  have HEach : Hid (∀ W : World, W.heap.size = w.heap.size + 1 → ZInv w.heap.size w 0 (W.iter s 0) → Calls Tryd.prog 93 #[.string s, .func (.func 95) #[] #[.pointer (some ⟨w.heap.size, 0, none⟩)]] W fun e w' => e = .returned (.bool (allL s)) ∧ ∃ k, ZInv w.heap.size w k w' ∧ k ≤ s.size ∧ (allL s = true → k = s.size)) :=
    Lib.hid (fun W hW h0 => each_zero s (by omega) [.pointer (some ⟨w.heap.size, 0, none⟩)] W (ZInv w.heap.size w) h0
      (fun i V pos _ hi => by rw [hW]; exact hi.iter pos)
      (fun i ch V hi hinv _ => by
        have := zero_one w.heap.size i i ch w V hinv (by omega)
        rw [hW]
        exact this))
  go_enter Tryd.func55, Tryd.ntmps55
  go_wp2_with fail
  refine (HEach.out _ (by simp) ⟨none, 0, ?_, World.ownsRow_nil _ _ _ _, ?_, ?_⟩).mono ?_
  · exact (Blk.new w 82 [.slice none 0 0]).alloc _
  · exact ((Below.refl _ _).alloc (Nat.le_refl _) _).alloc (by simp) _
  · simp [World.iter]
  rintro e w1 ⟨rfl, k, ⟨A, c, h1, h2, h3, h4⟩, hk, hall⟩
  have Hown := Lib.hid h2; clear h2
  have Hbel := Lib.hid h3; clear h3
  have Hall := Lib.hid hall; clear hall
  have hc0 : w1.cell? ⟨w.heap.size, 0, none⟩ = some (.slice A k c) := h1.cell 0
  clear h1 h4
  cases hb : allL s with
  | false =>
    go_wp2_with fail
    go_ret
    have hz : zn s = 0 := by unfold zn; rw [hb]; rfl
    rw [hz]
    exact ⟨Hbel.out, none, 0, rfl, World.ownsRow_nil _ _ _ _⟩
  | true =>
    go_wp2_with fail
    go_ret
    have hz : zn s = k := by unfold zn; rw [hb, Hall.out hb]; rfl
    rw [hz]
    exact ⟨Hbel.out, A, c, rfl, World.ownsRow.mono Hown.out (by omega)⟩

set_option maxHeartbeats 400000 in
theorem ref2_Fits (v c : Nat) (hc : c < 256) (w : World) : Calls Tryd.prog 54 #[.int .u64 v, .int .u8 c] w fun e w' => w = w' ∧ e = .returned (.bool (fitN v c)) := by
  by_cases h1 : c = 119
  · subst h1
    have HF := Lib.hid (show fitN v 119 = decide ((v : Int) < 4294967296) by unfold fitN; simp; omega)
    go_enter Tryd.func54, Tryd.ntmps54
    go_wp2
    go_ret
    exact ⟨rfl, by rw [HF.out]; rfl⟩
  · have h1' : ((c : Int) == 119) = false := by simp; omega
    have HF := Lib.hid (show fitN v c = ((c : Int) == 108) by
      have h2 : (c == 119) = false := by simp [h1]
      unfold fitN
      rw [h2, Bool.false_and, Bool.or_false]
      by_cases h3 : c = 108
      · subst h3; rfl
      · have h4 : (c == 108) = false := by simp [h3]
        have h5 : ((c : Int) == 108) = false := by simp; omega
        rw [h4, h5])
    clear h1
    go_enter Tryd.func54, Tryd.ntmps54
    go_wp2
    go_ret
    exact ⟨rfl, by rw [HF.out]; rfl⟩
def AllRel2 (vs : List Nat) (l : List UInt8) (w : World) (i : Value) (wr : World) : Prop := ∃ k m : Nat, k ≤ l.length ∧ i = .int .i64 k ∧ wr = w.drewN m ∧ allB (vs.drop k) (l.drop k) = allB vs l
set_option maxRecDepth 100000 in
set_option maxHeartbeats 400000 in
theorem ref2_All (A : Option Addr) (n c B : Nat) (s : ByteArray) (w : World) (vs : List Nat) (hn : n = vs.length) (h47 : s.size ≤ 140737488351232) (hn47 : n ≤ 140737488351232) (hr : Row w B A (vs.map uv)) :
    Calls Tryd.prog 52 #[.slice A n c, .string s] w fun e w' => (∃ k, w' = w.drewN k) ∧ e = .returned (.bool (allB vs s.data.toList)) := by
  have hsz : s.data.toList.length = s.size := by simp
  have Hsz := Lib.hid hsz; clear hsz
  have Hn := Lib.hid hn; clear hn
  have Hr := Lib.hid hr; clear hr
  by_cases hnn : n = s.size
  · subst hnn
    go_enter Tryd.func52, Tryd.ntmps52
    go_wp2_with fail
    go_loopw [5] (fun i wr => AllRel2 vs s.data.toList w i wr) (fun i _ => s.size - (intOf i).toNat)
    case atStart => exact ⟨0, 0, Nat.zero_le _, rfl, rfl, rfl⟩
    case round =>
      obtain ⟨k, m, hk, rfl, rfl, hR⟩ := hrel
      have HR2 := Lib.hid hR; clear hR
      rw [Hsz.out] at hk
      by_cases hlt : k < s.size
      · obtain ⟨b, o, rfl, _, hcell⟩ := Hr.out.word (j := k) (by rw [← Hn.out]; exact hlt)
        have Hd := Lib.hid (drop_at s.data.toList k (by rw [Hsz.out]; exact hlt))
        have Hdv := Lib.hid (show vs.drop k = vs[k]?.getD 0 :: vs.drop (k + 1) from by rw [List.drop_eq_getElem_cons (by rw [← Hn.out]; exact hlt), List.getElem?_eq_getElem (by rw [← Hn.out]; exact hlt)]; rfl)
        have hb := byte_at s k hlt
        have Hb := Lib.hid hb; clear hb
        have hk0 : (0 : Int) ≤ k := by omega
        have hu8 : (s.data.toList[k]?.getD 0).toNat < 256 := UInt8.toNat_lt _
        have HE : Hid (fitB (vs[k]?.getD 0) (s.data.toList[k]?.getD 0) = fitN (vs[k]?.getD 0) (s.data.toList[k]?.getD 0).toNat) := Lib.hid rfl
        have HR3 : Hid ((fitB (vs[k]?.getD 0) (s.data.toList[k]?.getD 0) && allB (vs.drop (k + 1)) (s.data.toList.drop (k + 1))) = allB vs s.data.toList) := Lib.hid (by rw [← HR2.out, Hd.out, Hdv.out]; rfl)
        clear Hd HR2 Hdv
        generalize vs[k]?.getD 0 = v at *
        go_wp2_with fail
        cases hN : fitN v (s.data.toList[k]?.getD 0).toNat with
        | false =>
          rw [HE.out, hN] at HR3
          go_quiet ((go_at_call 54; rw [Hb.out]; have hq := ref2_Fits v _ hu8; rw [hN] at hq; exact quiet_at (hq _)))
          clear hN
          go_wp2_with fail
          go_ret
          exact ⟨⟨_, World.drewN_drewN _ _ _⟩, by rw [← HR3.out]; rfl⟩
        | true =>
          rw [HE.out, hN] at HR3
          go_quiet ((go_at_call 54; rw [Hb.out]; have hq := ref2_Fits v _ hu8; rw [hN] at hq; exact quiet_at (hq _)))
          clear hN
          go_wp2_with fail
          exact ⟨⟨k + 1, m + nq, by rw [Hsz.out]; omega, by go_num, rfl, HR3.out⟩, by simp [intOf]; omega⟩
      · have hge : ¬ (k : Int) < s.size := by omega
        have HT : Hid (allB vs s.data.toList = true) := Lib.hid (by rw [← HR2.out, List.drop_of_length_le (by rw [← Hn.out]; omega), List.drop_of_length_le (by rw [Hsz.out]; omega)]; rfl)
        go_wp2_with fail
        go_ret
        exact ⟨⟨_, rfl⟩, by rw [HT.out]; rfl⟩
  · have HR : Hid (allB vs s.data.toList = false) := Lib.hid (allB_ne _ _ (by rw [Hsz.out, ← Hn.out]; exact hnn))
    have hne : ((n : Int) != s.size) = true := by simp; omega
    go_enter Tryd.func52, Tryd.ntmps52
    go_wp2_with fail
    go_ret
    exact ⟨⟨0, rfl⟩, by rw [HR.out]; rfl⟩

set_option maxRecDepth 100000 in
set_option maxHeartbeats 400000 in
theorem ref2_Zero (s : ByteArray) (h47 : s.size ≤ 2000000) (w : World) :
    Calls Tryd.prog 58 #[.string s] w fun e w' => Below w.heap.size w w' ∧ ∃ A c, e = .returned (.slice A (zn s) c) ∧ w'.ownsRow w.heap.size 22 1 (.slice A (zn s) c) (zn s) (zs (zn s)) := by
  have HL : Hid (∀ W, Calls Tryd.prog 92 #[.string s, .int .i64 s.size] W fun e w' => W = w' ∧ e = .returned (.bool (allL s))) := Lib.hid (fun W => by
    have h := ref_Letters s s.size (by omega) W
    rwa [show letB s.size s.data.toList = allL s from by unfold letB allL; simp] at h)
  obtain ⟨i0, hi, hz, hs', hb⟩ := info_parts Tryd.info_u64
  have hmk := fun W => run_make_zeros (P := Tryd.prog) 82 22 i0 (.int .u64 0) 8 Tryd.underlying82 hi hz rfl hs' hb (s.size : Int) s.size (by omega) (by omega) (by omega) W
  clear hi hz hs' hb
  go_enter Tryd.func58, Tryd.ntmps58
  go_wp2_with fail
  refine (HL.out _).mono ?_
  rintro e w1 ⟨rfl, rfl⟩
  cases hb : allL s with
  | false =>
    go_wp2_with fail
    go_ret
    have hz : zn s = 0 := by unfold zn; rw [hb]; rfl
    rw [hz]
    exact ⟨Below.refl _ _, none, 0, rfl, World.ownsRow_nil _ _ _ _⟩
  | true =>
    go_wp2_with fail
    go_ret
    have hz : zn s = s.size := by unfold zn; rw [hb]; rfl
    rw [hz]
    refine ⟨(Below.refl _ _).alloc (Nat.le_refl _) _, some ⟨w.heap.size, 0, none⟩, s.size, rfl, ?_⟩
    have hb2 := Blk.new w 22 (zrow (.int .u64 0) s.size).toList
    unfold Blk at hb2
    refine ⟨by simp [zs], .inr ⟨w.heap.size, s.size, zrow (.int .u64 0) s.size, rfl, Nat.le_refl _, by simpa using hb2, Nat.le_refl _, by unfold maxLen; omega, ?_, ?_⟩⟩ <;> simp [zrow, zs]
end Go.Proofs.YtndkhlafpcedbaaDoor
