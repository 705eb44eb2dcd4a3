/- types.each with the closure of types.all. -/
import Derived.Test.YtndkhlafpcedbaaDoorTypesA
namespace Go.Proofs.YtndkhlafpcedbaaDoor
set_option linter.unusedVariables false
open Go.RowKit
def EachRelAll (s : ByteArray) (gd : Nat → UInt8 → Bool) (w : World) (wr : World) : Prop :=
  ∃ k : Nat, IterAt wr w.heap.size s k ∧ Below w.heap.size w wr ∧ eachB gd k (s.data.toList.drop k) = eachB gd 0 s.data.toList
set_option maxRecDepth 100000 in
set_option maxHeartbeats 400000 in
theorem each_all (s : ByteArray) (h47 : s.size ≤ 140737488351232) (caps : List Value) (w : World) (gd : Nat → UInt8 → Bool)
    (hg : ∀ (i : Nat) (W : World), i < s.size → isL (s.data.toList[i]?.getD 0) = true → Below w.heap.size w W → Calls Tryd.prog 94 (Value.int .i64 i :: Value.int .u8 ((s.data.toList[i]?.getD 0).toNat : Int) :: caps).toArray W fun e w' => W = w' ∧ e = .returned (.bool (gd i (s.data.toList[i]?.getD 0)))) :
    Calls Tryd.prog 93 #[.string s, .func (.func 94) #[] caps.toArray] w fun e w' => Below w.heap.size w w' ∧ e = .returned (.bool (eachB gd 0 s.data.toList)) := by
  have Hg := Lib.hid hg; clear hg
  go_enter Tryd.func93, Tryd.ntmps93
  go_wp2_with fail
  go_loopw [] (fun wr => EachRelAll s gd w wr) (fun wr => s.size - iterPos' wr w.heap.size)
  case atStart => exact ⟨0, IterAt.new w s 0, below_iter w s 0, rfl⟩
  case round =>
    obtain ⟨k, hit, hbel, hR⟩ := hrel
    have Hit := Lib.hid hit; clear hit
    have Hbel := Lib.hid hbel; clear hbel
    have HR := Lib.hid hR; clear hR
    by_cases hlt : k < s.size
    · have hdrop := drop_at s.data.toList k (by simpa using hlt)
      have Hd := Lib.hid hdrop; clear hdrop
      have hnx := fun ty => next_at (P := Tryd.prog) Hit.out hlt ty
      by_cases hlow : (s.data.toList[k]?.getD 0).toNat < 128
      · rw [decode_low s k hlt hlow] at hnx
        have Hg2 := Lib.hid (Hg.out k)
        have hu8 : (s.data.toList[k]?.getD 0).toNat < 256 := by omega
        have HE : Hid (isL (s.data.toList[k]?.getD 0) = isN (s.data.toList[k]?.getD 0).toNat) := Lib.hid rfl
        generalize s.data.toList[k]?.getD 0 = c8 at *
        generalize c8.toNat = c at *
        have HL := Lib.hid (types_Letter c (by omega) (setIter wr w.heap.size s (k + 1)))
        have Hbel2 : Hid (Below w.heap.size w (setIter wr w.heap.size s (k + 1))) := Lib.hid (Hbel.out.trans (below_setIter _ (Nat.le_refl _)))
        have Hit2 := Lib.hid (Hit.out.set (k + 1))
        have HR2 : Hid ((isN c && (gd k c8 && eachB gd (k + 1) (s.data.toList.drop (k + 1)))) = eachB gd 0 s.data.toList) := Lib.hid (by rw [← HR.out, Hd.out, ← HE.out]; rfl)
        have HG : Hid (isN c = true → _) := Lib.hid (fun h => Hg2.out (setIter wr w.heap.size s (k + 1)) hlt (by rw [HE.out, h]) Hbel2.out)
        clear Hg2 HE Hd HR
        cases hb : isN c with
        | false =>
          rw [hb] at HL HR2
          clear HG hb
          go_wp2_with (go_at_call 45; refine HL.out.mono ?_; rintro e w' ⟨rfl, rfl⟩)
          go_ret
          exact ⟨Hbel2.out, by rw [← HR2.out]; rfl⟩
        | true =>
          have HG2 := Lib.hid (HG.out hb)
          rw [hb] at HL HR2
          clear HG hb
          cases hgd : gd k c8 with
          | false =>
            rw [hgd] at HG2 HR2
            clear hgd
            go_wp2_with (first | (go_at_call 45; refine HL.out.mono ?_; rintro e w' ⟨rfl, rfl⟩) | (go_at_call 94; refine HG2.out.mono ?_; rintro e w' ⟨rfl, rfl⟩))
            go_ret
            exact ⟨Hbel2.out, by rw [← HR2.out]; rfl⟩
          | true =>
            rw [hgd] at HG2 HR2
            clear hgd
            go_wp2_with (first | (go_at_call 45; refine HL.out.mono ?_; rintro e w' ⟨rfl, rfl⟩) | (go_at_call 94; refine HG2.out.mono ?_; rintro e w' ⟨rfl, rfl⟩))
            exact ⟨⟨k + 1, Hit2.out, Hbel2.out, HR2.out⟩, by rw [Hit.out.pos, Hit2.out.pos]; omega⟩
      · have hhi := decode_hi s k hlt hlow
        have HF : Hid (eachB gd 0 s.data.toList = false) := Lib.hid (by
          rw [← HR.out, Hd.out]
          have h0 : isL (s.data.toList[k]?.getD 0) = false := isN_hi _ hlow
          rw [eachB_cons, h0]
          rfl)
        have hle := decode_le s k
        generalize Utf8.decode s k = d at *
        obtain ⟨r, wd⟩ := d
        simp only at hhi hle hnx
        have Hbel2 : Hid (Below w.heap.size w (setIter wr w.heap.size s (k + wd))) := Lib.hid (Hbel.out.trans (below_setIter _ (Nat.le_refl _)))
        clear Hd hlow
        go_wp2_with fail
        go_ret
        exact ⟨Hbel2.out, by rw [HF.out]; rfl⟩
    · have hnx := fun ty => next_end (P := Tryd.prog) Hit.out hlt ty
      have HT : Hid (eachB gd 0 s.data.toList = true) := Lib.hid (by rw [← HR.out, List.drop_of_length_le (by simp; omega)]; rfl)
      go_wp2_with fail
      go_ret
      exact ⟨Hbel.out, by rw [HT.out]; rfl⟩
end Go.Proofs.YtndkhlafpcedbaaDoor
