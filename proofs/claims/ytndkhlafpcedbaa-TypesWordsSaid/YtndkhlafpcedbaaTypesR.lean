/- The document's ReadSig, walked. -/
import Derived.Test.YtndkhlafpcedbaaTypesQ
namespace Go.Proofs.Ytndkhlafpcedbaa
set_option linter.unusedVariables false
open Go.RowKit
def hitS (s : ByteArray) (i k : Nat) : Prop := wordS (ppS s i) (rrS s k) = (s, 0)
structure RsKept (s : ByteArray) (w wr : World) : Prop where
  bel : Below w.heap.size w wr
  blk : Blk wr w.heap.size 88 [.string ⟨#[]⟩, .string ⟨#[]⟩]
def RsOut (s : ByteArray) (w : World) (i : Value) (wr : World) : Prop := ∃ a : Nat, i = .int .i64 a ∧ a ≤ 9 ∧ RsKept s w wr ∧ ∀ x k, x < a → k ≤ 8 → ¬ hitS s x k
def RsIn (s : ByteArray) (a : Nat) (w : World) (j : Value) (wr : World) : Prop := ∃ b : Nat, j = .int .i64 b ∧ b ≤ 9 ∧ RsKept s w wr ∧ ∀ k, k < b → ¬ hitS s a k
theorem fin_sigR {W : World} {tmps : Array Value} {g : Nat} {x : Value} {a b : ByteArray} {Q : Ending → World → Prop} (h : Blk W g 88 [.string a, .string b])
    (h2 : tmps.getD 2 undef = .pointer (some ⟨g, 0, none⟩)) (h3 : tmps.getD 3 undef = x) (hq : Q (.returned (.tuple #[.agg #[.string a, .string b], x])) W) :
    bodyPost Try.prog Try.f63 Q Exit.ret ⟨tmps, []⟩ W := by
  refine bodyPost_ret (v := .tuple #[.agg #[.string a, .string b], x]) ?_ rfl hq
  rw [results_cell_tmp rfl]
  simp only [h2, h3, asAddr, Sem.run_pure, Result.andThen, load_sig h]
set_option maxRecDepth 100000 in
set_option maxHeartbeats 4000000 in
theorem ref_ReadSig (s : ByteArray) (hs : s.size ≤ 140737488351232) (w : World) :
    Calls Try.prog 63 #[.string s] w fun e w' => Below w.heap.size w w' ∧ e = .returned (.tuple #[.agg #[.string (readS s).1, .string (readS s).2.1], .int .i64 (readS s).2.2]) := by
  go_enter Try.func63, Try.ntmps63
  go_wp2_with fail
  go_loopw [4] (fun i wr => RsOut s w i wr) (fun i _ => 9 - (intOf i).toNat)
  case atStart => exact ⟨0, rfl, by omega, ⟨(Below.refl _ _).alloc (Nat.le_refl _) _, Blk.new w _ _⟩, fun x k h => by omega⟩
  case round =>
    obtain ⟨a, rfl, ha, hkept, hno⟩ := hrel
    have HK := Lib.hid hkept; clear hkept
    have Hno := Lib.hid hno; clear hno
    have ha0 : (0 : Int) ≤ a := by omega
    by_cases h1 : a < s.size
    · by_cases h2 : a ≤ 8
      · go_wp2_with fail
        obtain ⟨wo, hwo⟩ : ∃ wo : World, wo = wr := ⟨_, rfl⟩
        subst hwo
        go_loopw [5] (fun j wr => RsIn s a w j wr) (fun j _ => 9 - (intOf j).toNat)
        case atStart => exact ⟨0, rfl, by omega, HK.out, fun k h => by omega⟩
        case round =>
          obtain ⟨b, rfl, hb, hkept, hno2⟩ := hrel
          have HK2 := Lib.hid hkept; clear hkept
          have Hno2 := Lib.hid hno2; clear hno2
          have hb0 : (0 : Int) ≤ b := by omega
          have hfr0 := HK2.out.blk.frozen 0
          have hfr1 := HK2.out.blk.frozen 1
          by_cases h3 : b ≤ 8
          · have HW := Lib.hid (fun (p r : ByteArray) (hp : p.size ≤ s.size) (hr : r.size ≤ s.size) W => ref_Word p r (by omega) (by omega) W)
            by_cases hp : s.extract 0 a = dash
            case' pos =>
              have hpe : ((s.extract 0 a).toList == [45]) = true := by rw [hp]; decide +kernel
              have HP : Hid (ppS s a = (⟨#[]⟩ : ByteArray)) := Lib.hid (by unfold ppS undash; rw [if_pos hp]; rfl)
            case' neg =>
              have hpe := dash_no hp
              have HP : Hid (ppS s a = s.extract 0 a) := Lib.hid (by unfold ppS undash; rw [if_neg hp])
            all_goals
              clear hp
              by_cases hk : b ≤ s.size
              case' neg =>
                have hkd : decide (b ≤ s.size) = false := decide_eq_false hk
                have hre : ((none_ : ByteArray).toList == [45]) = false := by decide +kernel
                have hr : True := trivial
                have HR : Hid (rrS s b = (⟨#[]⟩ : ByteArray)) := Lib.hid (by unfold rrS; rw [if_neg hk]; rfl)
              case' pos =>
                by_cases hr : s.extract (s.size - b) s.size = dash
                case' pos =>
                  have hre : ((s.extract (s.size - b) s.size).toList == [45]) = true := by rw [hr]; decide +kernel
                  have HR : Hid (rrS s b = (⟨#[]⟩ : ByteArray)) := Lib.hid (by unfold rrS undash; rw [if_pos hk, if_pos hr]; rfl)
                case' neg =>
                  have hre := dash_no hr
                  have HR : Hid (rrS s b = s.extract (s.size - b) s.size) := Lib.hid (by unfold rrS undash; rw [if_pos hk, if_neg hr])
              all_goals
                clear hr
                go_wp2_with fail
                refine (ref_Word _ _ ?hsp ?hsr _).mono ?_
                case hsp => first | (show (0 : Nat) ≤ _; omega) | (rw [ByteArray.size_extract]; omega)
                case hsr => first | (show (0 : Nat) ≤ _; omega) | (rw [ByteArray.size_extract]; omega)
                generalize hW : wr.alloc _ = W1
                have HX1 : Hid (Blk W1 wr.heap.size 88 [.string (ppS s a), .string (rrS s b)]) := Lib.hid (by rw [← hW, HP.out, HR.out]; exact Blk.new wr _ _)
                have HB1 : Hid (Blk W1 w.heap.size 88 [.string ⟨#[]⟩, .string ⟨#[]⟩]) := Lib.hid (by rw [← hW]; exact HK2.out.blk.alloc _)
                have HE1 : Hid (Below w.heap.size w W1) := Lib.hid (by rw [← hW]; exact HK2.out.bel.alloc HK2.out.bel.size _)
                clear hW
                rintro e w2 ⟨h2, rfl⟩
                have HX2 := Lib.hid (HX1.out.below h2 HX1.out.lt)
                have HB2 := Lib.hid (HB1.out.below h2 HB1.out.lt)
                have HE2 := Lib.hid (HE1.out.trans (h2.mono HE1.out.size))
                clear h2 HX1 HB1 HE1 hfr0 hfr1
                have hx0 : w2.cell? ⟨wr.heap.size, 0, none⟩ = some (.string (ppS s a)) := HX2.out.cell 0
                have hx1 : w2.cell? ⟨wr.heap.size, 1, none⟩ = some (.string (rrS s b)) := HX2.out.cell 1
                have hq0 : w2.cell? ⟨w.heap.size, 0, none⟩ = some (.string ⟨#[]⟩) := HB2.out.cell 0
                have hq1 : w2.cell? ⟨w.heap.size, 1, none⟩ = some (.string ⟨#[]⟩) := HB2.out.cell 1
                have hfr0 := HB2.out.frozen 0
                have hfr1 := HB2.out.frozen 1
                have HH : Hid (hitS s a b ↔ wordS (ppS s a) (rrS s b) = (s, 0)) := Lib.hid Iff.rfl
                rw [HP.out, HR.out] at HH
                generalize hwd : wordS _ _ = wd at *
                obtain ⟨wt, we⟩ := wd
                have HQ : Hid (wt = s → we = 0 → readS s = (ppS s a, rrS s b, 0)) := Lib.hid (fun h1 h2 => word_read (show wordS (ppS s a) (rrS s b) = (s, 0) from HH.out.2 (by rw [h1, h2])))
                have HN : Hid (¬ (wt = s ∧ we = 0) → ∀ k, k < b + 1 → ¬ hitS s a k) := Lib.hid (fun h k hk hh => by
                  rcases Nat.lt_or_ge k b with h' | h'
                  · exact Hno2.out k h' hh
                  · obtain rfl : k = b := by omega
                    have := HH.out.1 hh
                    injection this with e1 e2
                    exact h ⟨e1, e2⟩)
                clear HH
                simp only
                by_cases he : we = 0
                · subst he
                  by_cases ht : wt = s
                  · have htl : (wt.toList == s.toList) = true := by rw [ht]; simp
                    have HF := Lib.hid (HQ.out ht rfl)
                    clear ht HN HQ
                    go_wp2_with fail
                    (try simp only [Exit.inBlock, Exit.then])
                    exact fin_sigR ((HB2.out.set 0 (.string (ppS s a))).set 1 (.string (rrS s b))) rfl rfl ⟨(HE2.out.setCell (p := ⟨w.heap.size, 0, none⟩) (Nat.le_refl _) _).setCell (p := ⟨w.heap.size, 1, none⟩) (Nat.le_refl _) _, by rw [HF.out]; rfl⟩
                  · have htl : (wt.toList == s.toList) = false := by
                      rw [ByteArray.toList_eq, ByteArray.toList_eq]
                      exact beq_eq_false_iff_ne.2 fun h => ht (bl_inj h)
                    have HF := Lib.hid (HN.out (fun h => ht h.1))
                    clear ht HN HQ
                    go_wp2_with fail
                    exact ⟨⟨b + 1, by go_num, by omega, ⟨HE2.out, HB2.out⟩, HF.out⟩, by simp [intOf]; omega⟩
                · have hee : ((we : Int) == 0) = false := by simp; omega
                  have HF := Lib.hid (HN.out (fun h => he h.2))
                  clear he HN HQ
                  go_wp2_with fail
                  exact ⟨⟨b + 1, by go_num, by omega, ⟨HE2.out, HB2.out⟩, HF.out⟩, by simp [intOf]; omega⟩
          · obtain rfl : b = 9 := by omega
            go_wp2_with fail
            refine ⟨⟨a + 1, by go_num, by omega, HK2.out, fun x k hx hk => ?_⟩, by simp [intOf]; omega⟩
            rcases Nat.lt_or_ge x a with h' | h'
            · exact Hno.out x k h' hk
            · obtain rfl : x = a := by omega
              exact Hno2.out k (by omega)
      · have hfr0 := HK.out.blk.frozen 0
        have hfr1 := HK.out.blk.frozen 1
        have hq0 : wr.cell? ⟨w.heap.size, 0, none⟩ = some (.string ⟨#[]⟩) := HK.out.blk.cell 0
        have hq1 : wr.cell? ⟨w.heap.size, 1, none⟩ = some (.string ⟨#[]⟩) := HK.out.blk.cell 1
        have HF : Hid (readS s = (none_, none_, 15)) := Lib.hid (read_bad fun h => by
          obtain ⟨x, k, hx, hx8, hk8, hit⟩ := read_met h
          exact Hno.out x k (by omega) hk8 hit)
        go_wp2_with fail
        (try simp only [Exit.inBlock, Exit.then])
        exact fin_sigR ((HK.out.blk.set 0 (.string ⟨#[]⟩)).set 1 (.string ⟨#[]⟩)) rfl rfl ⟨(HK.out.bel.setCell (p := ⟨w.heap.size, 0, none⟩) (Nat.le_refl _) _).setCell (p := ⟨w.heap.size, 1, none⟩) (Nat.le_refl _) _, by rw [HF.out]; rfl⟩
    · have hfr0 := HK.out.blk.frozen 0
      have hfr1 := HK.out.blk.frozen 1
      have hq0 : wr.cell? ⟨w.heap.size, 0, none⟩ = some (.string ⟨#[]⟩) := HK.out.blk.cell 0
      have hq1 : wr.cell? ⟨w.heap.size, 1, none⟩ = some (.string ⟨#[]⟩) := HK.out.blk.cell 1
      have h1d : decide (a < s.size) = false := decide_eq_false h1
      have HF : Hid (readS s = (none_, none_, 15)) := Lib.hid (read_bad fun h => by
        obtain ⟨x, k, hx, hx8, hk8, hit⟩ := read_met h
        exact Hno.out x k (by omega) hk8 hit)
      go_wp2_with fail
      (try simp only [Exit.inBlock, Exit.then])
      exact fin_sigR ((HK.out.blk.set 0 (.string ⟨#[]⟩)).set 1 (.string ⟨#[]⟩)) rfl rfl ⟨(HK.out.bel.setCell (p := ⟨w.heap.size, 0, none⟩) (Nat.le_refl _) _).setCell (p := ⟨w.heap.size, 1, none⟩) (Nat.le_refl _) _, by rw [HF.out]; rfl⟩
end Go.Proofs.Ytndkhlafpcedbaa
