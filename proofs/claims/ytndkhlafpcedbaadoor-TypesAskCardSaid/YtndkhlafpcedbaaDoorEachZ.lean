/- types.each with the closure of types.Zero (it writes memory): an invariant goes along. -/
import Derived.Test.YtndkhlafpcedbaaDoorTypesB
namespace Go.Proofs.YtndkhlafpcedbaaDoor
set_option linter.unusedVariables false
open Go.RowKit
/-- Letters alone? -/
def allL (s : ByteArray) : Bool := s.data.toList.all isL
def EachRelZ (s : ByteArray) (Inv : Nat → World → Prop) (g : Nat) (wr : World) : Prop :=
  ∃ k : Nat, IterAt wr g s k ∧ Inv k wr ∧ k ≤ s.size ∧ (s.data.toList.drop k).all isL = allL s
set_option maxRecDepth 100000 in
set_option maxHeartbeats 400000 in
theorem each_zero (s : ByteArray) (h47 : s.size ≤ 140737488351232) (caps : List Value) (w : World) (Inv : Nat → World → Prop)
    (hs0 : Inv 0 (w.iter s 0)) (hst : ∀ i W pos, IterAt W w.heap.size s i → Inv i W → Inv i (setIter W w.heap.size s pos))
    (hg : ∀ (i : Nat) (ch : Int) (W : World), i < s.size → Inv i W → w.heap.size < W.heap.size → Calls Tryd.prog 95 (Value.int .i64 i :: Value.int .u8 ch :: caps).toArray W fun e w' => e = .returned (.bool true) ∧ Inv (i + 1) w' ∧ w'.heap[w.heap.size]? = W.heap[w.heap.size]?) :
    Calls Tryd.prog 93 #[.string s, .func (.func 95) #[] caps.toArray] w fun e w' => e = .returned (.bool (allL s)) ∧ ∃ k, Inv k w' ∧ k ≤ s.size ∧ (allL s = true → k = s.size) := by
  have Hg := Lib.hid hg; clear hg
  have Hst := Lib.hid hst; clear hst
  have Hs0 := Lib.hid hs0; clear hs0
  have Hsz : Hid (s.data.toList.length = s.size) := Lib.hid (by simp)
  go_enter Tryd.func93, Tryd.ntmps93
  go_wp2_with fail
  go_loopw [] (fun wr => EachRelZ s Inv w.heap.size wr) (fun wr => s.size - iterPos' wr w.heap.size)
  case atStart => exact ⟨0, IterAt.new w s 0, Hs0.out, Nat.zero_le _, rfl⟩
  case round =>
    obtain ⟨k, hit, hinv, hks, hR⟩ := hrel
    have Hit := Lib.hid hit; clear hit
    have Hinv := Lib.hid hinv; clear hinv
    have HR := Lib.hid hR; clear hR
    by_cases hlt : k < s.size
    · have hdrop := drop_at s.data.toList k (by simpa using hlt)
      have Hd := Lib.hid hdrop; clear hdrop
      have hnx := fun ty => next_at (P := Tryd.prog) Hit.out hlt ty
      by_cases hlow : (s.data.toList[k]?.getD 0).toNat < 128
      · rw [decode_low s k hlt hlow] at hnx
        have hu8 : (s.data.toList[k]?.getD 0).toNat < 256 := by omega
        have HE : Hid (isL (s.data.toList[k]?.getD 0) = isN (s.data.toList[k]?.getD 0).toNat) := Lib.hid rfl
        have HR1 : Hid ((isL (s.data.toList[k]?.getD 0) && (s.data.toList.drop (k + 1)).all isL) = allL s) := Lib.hid (by rw [← HR.out, Hd.out]; rfl)
        rw [HE.out] at HR1
        clear HE Hd HR
        generalize (s.data.toList[k]?.getD 0).toNat = c at *
        have HL := Lib.hid (types_Letter c (by omega) (setIter wr w.heap.size s (k + 1)))
        have Hit2 := Lib.hid (Hit.out.set (k + 1))
        have Hinv2 := Lib.hid (Hst.out k wr (k + 1) Hit.out Hinv.out)
        have HG := Lib.hid (Hg.out k c _ hlt Hinv2.out Hit2.out.lt)
        cases hb : isN c with
        | false =>
          rw [hb] at HL HR1
          clear HG hb
          go_wp2_with (go_at_call 45; refine HL.out.mono ?_; rintro e w' ⟨rfl, rfl⟩)
          go_ret
          exact ⟨by rw [← HR1.out]; rfl, k, Hinv2.out, hks, fun h => by rw [← HR1.out] at h; cases h⟩
        | true =>
          rw [hb] at HL HR1
          clear hb
          go_wp2_with (first | (go_at_call 45; refine HL.out.mono ?_; rintro e w' ⟨rfl, rfl⟩) | (go_at_call 95; refine HG.out.mono ?_; rintro e w2 ⟨rfl, hi2, hit2⟩; have Hi2 := Lib.hid hi2; have Ht2 := Lib.hid hit2; clear hi2 hit2))
          have hit3 : IterAt w2 w.heap.size s (k + 1) := Ht2.out.trans Hit2.out
          exact ⟨⟨k + 1, hit3, Hi2.out, by omega, HR1.out⟩, by rw [Hit.out.pos, hit3.pos]; omega⟩
      · have hhi := decode_hi s k hlt hlow
        have HF : Hid (allL s = false) := Lib.hid (by
          rw [← HR.out, Hd.out]
          have h0 : isL (s.data.toList[k]?.getD 0) = false := isN_hi _ hlow
          rw [List.all_cons, h0]
          rfl)
        have hle := decode_le s k
        generalize Utf8.decode s k = d at *
        obtain ⟨r, wd⟩ := d
        simp only at hhi hle hnx
        have Hinv2 := Lib.hid (Hst.out k wr (k + wd) Hit.out Hinv.out)
        clear Hd hlow
        go_wp2_with fail
        go_ret
        exact ⟨by rw [HF.out]; rfl, k, Hinv2.out, hks, fun h => by rw [HF.out] at h; cases h⟩
    · have hnx := fun ty => next_end (P := Tryd.prog) Hit.out hlt ty
      have HT : Hid (allL s = true) := Lib.hid (by rw [← HR.out, List.drop_of_length_le (by rw [Hsz.out]; omega)]; rfl)
      go_wp2_with fail
      go_ret
      exact ⟨by rw [HT.out]; rfl, k, Hinv.out, hks, fun _ => by omega⟩
end Go.Proofs.YtndkhlafpcedbaaDoor
