/- The reference of layer 14: values that fit. -/
import Derived.Test.YtndkhlafpcedbaaTypesB
namespace Go.Proofs.Ytndkhlafpcedbaa
set_option linter.unusedVariables false
open Go.RowKit

set_option maxHeartbeats 400000 in
theorem ref_Fits (v c : Nat) (hc : c < 256) (w : World) : Calls Try.prog 96 #[.int .u64 v, .int .u8 c] w fun e w' => w = w' ∧ e = .returned (.bool (fitN v c)) := by
  by_cases h1 : c = 108
  · subst h1
    go_enter Try.func96, Try.ntmps96
    go_wp2
    go_ret
    exact ⟨rfl, rfl⟩
  · have h1' : ((c : Int) == 108) = false := by simp; omega
    by_cases h2 : c = 119
    · subst h2
      by_cases hv : v < 4294967296
      · have hq : ((v : Int) / 4294967296 == 0) = true := by simp; omega
        have HF := Lib.hid (show fitN v 119 = true by simp [fitN, hv])
        clear h1 h1'
        go_enter Try.func96, Try.ntmps96
        go_wp2
        go_ret
        exact ⟨rfl, by rw [HF.out]; rfl⟩
      · have hq : ((v : Int) / 4294967296 == 0) = false := by simp; omega
        have HF := Lib.hid (show fitN v 119 = false by simp [fitN, hv])
        clear h1 h1'
        go_enter Try.func96, Try.ntmps96
        go_wp2
        go_ret
        exact ⟨rfl, by rw [HF.out]; rfl⟩
    · have h2' : ((c : Int) == 119) = false := by simp; omega
      have HF := Lib.hid (show fitN v c = false by simp [fitN, h1, h2])
      clear h1 h2
      go_enter Try.func96, Try.ntmps96
      go_wp2
      go_ret
      exact ⟨rfl, by rw [HF.out]; rfl⟩

def LiesRel (vs : List Nat) (l : List UInt8) (w : World) (i : Value) (wr : World) : Prop := ∃ k m : Nat, k ≤ l.length ∧ i = .int .i64 k ∧ wr = w.drewN m ∧ allB (vs.drop k) (l.drop k) = allB vs l
set_option maxRecDepth 100000 in
set_option maxHeartbeats 400000 in
theorem ref_Lies (A : Option Addr) (n c B : Nat) (s : ByteArray) (w : World) (vs : List Nat) (hn : n = vs.length) (h47 : s.size ≤ 140737488351232) (hn47 : n ≤ 140737488351232) (hr : Row w B A (vs.map uv)) :
    Calls Try.prog 73 #[.slice A n c, .string s] w fun e w' => (∃ k, w' = w.drewN k) ∧ e = .returned (.bool (allB vs s.data.toList)) := by
  have hsz : s.data.toList.length = s.size := by simp
  have Hsz := Lib.hid hsz; clear hsz
  have Hn := Lib.hid hn; clear hn
  have Hr := Lib.hid hr; clear hr
  by_cases hnn : n = s.size
  · subst hnn
    go_enter Try.func73, Try.ntmps73
    go_wp2_with fail
    go_loopw [5] (fun i wr => LiesRel vs s.data.toList w i wr) (fun i _ => s.size - (intOf i).toNat)
    case atStart => exact ⟨0, 0, Nat.zero_le _, rfl, rfl, rfl⟩
    case round =>
      obtain ⟨k, m, hk, rfl, rfl, hR⟩ := hrel
      have HR2 := Lib.hid hR; clear hR
      rw [Hsz.out] at hk
      by_cases hlt : k < s.size
      · obtain ⟨b, o, rfl, _, hcell⟩ := Hr.out.word (j := k) (by rw [← Hn.out]; exact hlt)
        have Hd := Lib.hid (drop_at s.data.toList k (by rw [Hsz.out]; exact hlt))
        have Hdv := Lib.hid (show vs.drop k = vs[k]?.getD 0 :: vs.drop (k + 1) from by rw [List.drop_eq_getElem_cons (by rw [← Hn.out]; exact hlt), List.getElem?_eq_getElem (by rw [← Hn.out]; exact hlt)]; rfl)
        have hb := byte_at s k hlt
        have Hb := Lib.hid hb; clear hb
        have hk0 : (0 : Int) ≤ k := by omega
        have hu8 : (s.data.toList[k]?.getD 0).toNat < 256 := UInt8.toNat_lt _
        have HE : Hid (fitB (vs[k]?.getD 0) (s.data.toList[k]?.getD 0) = fitN (vs[k]?.getD 0) (s.data.toList[k]?.getD 0).toNat) := Lib.hid rfl
        have HR3 : Hid ((fitB (vs[k]?.getD 0) (s.data.toList[k]?.getD 0) && allB (vs.drop (k + 1)) (s.data.toList.drop (k + 1))) = allB vs s.data.toList) := Lib.hid (by rw [← HR2.out, Hd.out, Hdv.out]; rfl)
        clear Hd HR2 Hdv
        generalize vs[k]?.getD 0 = v at *
        go_wp2_with fail
        cases hN : fitN v (s.data.toList[k]?.getD 0).toNat with
        | false =>
          rw [HE.out, hN] at HR3
          go_quiet ((go_at_call 96; rw [Hb.out]; have hq := ref_Fits v _ hu8; rw [hN] at hq; exact quiet_at (hq _)))
          clear hN
          go_wp2_with fail
          go_ret
          exact ⟨⟨_, World.drewN_drewN _ _ _⟩, by rw [← HR3.out]; rfl⟩
        | true =>
          rw [HE.out, hN] at HR3
          go_quiet ((go_at_call 96; rw [Hb.out]; have hq := ref_Fits v _ hu8; rw [hN] at hq; exact quiet_at (hq _)))
          clear hN
          go_wp2_with fail
          exact ⟨⟨k + 1, m + nq, by rw [Hsz.out]; omega, by go_num, rfl, HR3.out⟩, by simp [intOf]; omega⟩
      · have hge : ¬ (k : Int) < s.size := by omega
        have HT : Hid (allB vs s.data.toList = true) := Lib.hid (by rw [← HR2.out, List.drop_of_length_le (by rw [← Hn.out]; omega), List.drop_of_length_le (by rw [Hsz.out]; omega)]; rfl)
        go_wp2_with fail
        go_ret
        exact ⟨⟨_, rfl⟩, by rw [HT.out]; rfl⟩
  · have HR : Hid (allB vs s.data.toList = false) := Lib.hid (allB_ne _ _ (by rw [Hsz.out, ← Hn.out]; exact hnn))
    have hne : ((n : Int) != s.size) = true := by simp; omega
    go_enter Try.func73, Try.ntmps73
    go_wp2_with fail
    go_ret
    exact ⟨⟨0, rfl⟩, by rw [HR.out]; rfl⟩
end Go.Proofs.Ytndkhlafpcedbaa
