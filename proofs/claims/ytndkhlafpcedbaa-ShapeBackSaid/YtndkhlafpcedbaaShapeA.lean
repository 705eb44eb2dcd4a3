/- shape: all, Top, Push, Pop, Keep; strings.HasSuffix, CutSuffix. -/
import Derived.Test.YtndkhlafpcedbaaTypesB
import Derived.Test.YtndkhlafpcedbaaStrP
namespace Go.Proofs.Ytndkhlafpcedbaa
set_option linter.unusedVariables false
open Go.RowKit
def AllRel (ss : List ByteArray) (w : World) (i : Value) (wr : World) : Prop := ∃ k : Nat, k ≤ ss.length ∧ i = .int .i64 k ∧ Below w.heap.size w wr ∧ (ss.drop k).all letS = ss.all letS
theorem Row.text {w : World} {B : Nat} {A : Option Addr} {l : List ByteArray} (h : Row w B A (l.map sv)) {j : Nat} (hj : j < l.length) :
    ∃ b o, A = some ⟨b, o, none⟩ ∧ b < B ∧ w.cell? ⟨b, o + j, none⟩ = some (.string (l[j]?.getD ByteArray.empty)) := by
  refine h.at ?_
  rw [List.getElem?_map, List.getElem?_eq_getElem hj]
  rfl
set_option maxRecDepth 100000 in
set_option maxHeartbeats 400000 in
theorem shape_all (A : Option Addr) (n c : Nat) (w : World) (ss : List ByteArray) (hn : n = ss.length) (hn47 : n ≤ 1000) (h47 : ∀ s ∈ ss, s.size ≤ 140737488351232) (hr : Row w w.heap.size A (ss.map sv)) :
    Calls Try.prog 74 #[.slice A n c] w fun e w' => Below w.heap.size w w' ∧ e = .returned (.bool (ss.all letS)) := by
  have Hn := Lib.hid hn; clear hn
  have Hr := Lib.hid hr; clear hr
  have H47 := Lib.hid h47; clear h47
  go_enter Try.func74, Try.ntmps74
  go_wp2_with fail
  go_loopw [7] (fun i wr => AllRel ss w i wr) (fun i _ => n - (intOf i).toNat)
  case atStart => exact ⟨0, Nat.zero_le _, rfl, Below.refl _ _, rfl⟩
  case round =>
    obtain ⟨k, hk, rfl, hbel, hR⟩ := hrel
    have HR := Lib.hid hR; clear hR
    have Hbel := Lib.hid hbel; clear hbel
    rw [← Hn.out] at hk
    by_cases hlt : k < n
    · obtain ⟨b, o, rfl, hb, hcell0⟩ := Hr.out.text (j := k) (by rw [← Hn.out]; exact hlt)
      have hcell := (Hbel.out.cell (p := ⟨b, o + k, none⟩) hb).trans hcell0
      clear hcell0
      have hsz : (ss[k]?.getD ByteArray.empty).size ≤ 140737488351232 := by
        rw [List.getElem?_eq_getElem (by rw [← Hn.out]; exact hlt)]
        exact H47.out _ (List.getElem_mem _)
      have HR2 : Hid ((letS (ss[k]?.getD ByteArray.empty) && (ss.drop (k + 1)).all letS) = ss.all letS) := Lib.hid (by
        have hd : ss.drop k = ss[k]?.getD ByteArray.empty :: ss.drop (k + 1) := by
          rw [List.drop_eq_getElem_cons (by rw [← Hn.out]; exact hlt), List.getElem?_eq_getElem (by rw [← Hn.out]; exact hlt)]
          rfl
        rw [← HR.out, hd]
        rfl)
      generalize ss[k]?.getD ByteArray.empty = s at *
      have hk0 : (0 : Int) ≤ k := by omega
      go_wp2_with fail
      refine (types_Shape s hsz wr).mono ?_
      rintro e w1 ⟨h1, rfl⟩
      have H1 := Lib.hid (Hbel.out.trans (h1.mono Hbel.out.size)); clear h1
      rw [show letB 256 s.data.toList = letS s from rfl]
      cases hl : letS s with
      | false =>
        rw [hl] at HR2
        go_wp2_with fail
        go_ret
        exact ⟨H1.out, by rw [← HR2.out]; rfl⟩
      | true =>
        rw [hl] at HR2
        go_wp2_with fail
        go_roundw
        case rel => exact ⟨k + 1, by rw [← Hn.out]; omega, by go_num, H1.out, HR2.out⟩
        case measure => simp [intOf]; omega
    · have hge : ¬ (k : Int) < n := by omega
      have HT : Hid (ss.all letS = true) := Lib.hid (by rw [← HR.out, List.drop_of_length_le (by rw [← Hn.out]; omega)]; rfl)
      go_wp2_with fail
      go_ret
      exact ⟨Hbel.out, by rw [HT.out]; rfl⟩
theorem shape_all2 (s t : ByteArray) (hs : s.size ≤ 140737488351232) (ht : t.size ≤ 140737488351232) (w : World) :
    Calls Try.prog 74 #[.slice (some ⟨w.heap.size, 0, none⟩) 2 2] (w.alloc (.cells #[.string s, .string t] 9)) fun e w' => Below w.heap.size w w' ∧ e = .returned (.bool (letS s && letS t)) := by
  have hrow : Row (w.alloc (.cells #[.string s, .string t] 9)) (w.alloc (.cells #[.string s, .string t] 9)).heap.size (some ⟨w.heap.size, 0, none⟩) ([s, t].map sv) := by
    have := (Blk.new w 9 [.string s, .string t]).row 0 2
    exact this.more (by simp)
  refine (shape_all _ 2 2 _ [s, t] rfl (by omega) (by simp [hs, ht]) hrow).mono fun e w' ⟨h1, h2⟩ => ⟨?_, ?_⟩
  · exact ((Below.refl _ _).alloc (Nat.le_refl _) _).trans (h1.mono (by simp))
  · rw [h2]; simp
set_option maxHeartbeats 400000 in
theorem lite_HasSuffix (s t : ByteArray) (hs : s.size ≤ 140737488351232) (ht : t.size ≤ 140737488351232) (w : World) :
    Calls Try.prog 99 #[.string s, .string t] w fun e w' => w = w' ∧ e = .returned (.bool (ends s t)) := by
  by_cases h : t.size ≤ s.size
  · have HR : Hid (ends s t = ((s.extract (s.size - t.size) s.size).toList == t.toList)) := Lib.hid (by unfold ends; simp [h])
    go_enter Try.func99, Try.ntmps99
    go_wp2_with fail
    go_ret
    exact ⟨rfl, by rw [HR.out]; rfl⟩
  · have HR : Hid (ends s t = false) := Lib.hid (by unfold ends; simp [h])
    go_enter Try.func99, Try.ntmps99
    go_wp2_with fail
    go_ret
    exact ⟨rfl, by rw [HR.out]; rfl⟩
set_option maxHeartbeats 400000 in
theorem ref_Ends (s t : ByteArray) (hs : s.size ≤ 140737488351232) (ht : t.size ≤ 140737488351232) (w : World) :
    Calls Try.prog 77 #[.string s, .string t] w fun e w' => w = w' ∧ e = .returned (.bool (ends s t)) := by
  by_cases h : t.size ≤ s.size
  · have HR : Hid (ends s t = ((s.extract (s.size - t.size) s.size).toList == t.toList)) := Lib.hid (by unfold ends; simp [h])
    go_enter Try.func77, Try.ntmps77
    go_wp2_with fail
    go_ret
    exact ⟨rfl, by rw [HR.out]; rfl⟩
  · have HR : Hid (ends s t = false) := Lib.hid (by unfold ends; simp [h])
    go_enter Try.func77, Try.ntmps77
    go_wp2_with fail
    go_ret
    exact ⟨rfl, by rw [HR.out]; rfl⟩
theorem str_HasSuffix (s t : ByteArray) (hs : s.size ≤ 140737488351232) (ht : t.size ≤ 140737488351232) (w : World) :
    Calls Try.prog 78 #[.string s, .string t] w fun e w' => w = w' ∧ e = .returned (.bool (ends s t)) := by
  have HC := Lib.hid (lite_HasSuffix s t hs ht w)
  generalize ends s t = b at *
  go_enter Try.func78, Try.ntmps78
  go_wp2_with fail
  refine HC.out.mono ?_
  rintro e w' ⟨rfl, rfl⟩
  go_wp2_with fail
  go_ret
  exact ⟨rfl, rfl⟩
theorem lite_CutSuffix (s t : ByteArray) (hs : s.size ≤ 140737488351232) (ht : t.size ≤ 140737488351232) (w : World) :
    Calls Try.prog 98 #[.string s, .string t] w fun e w' => w = w' ∧ e = .returned (.tuple #[.string (if ends s t = true then s.extract 0 (s.size - t.size) else s), .bool (ends s t)]) := by
  have HC := Lib.hid (lite_HasSuffix s t hs ht w)
  have HL := Lib.hid (ends_le s t)
  cases hb : ends s t with
  | true =>
    have hle := HL.out hb
    rw [hb] at HC
    rw [if_pos rfl]
    clear hb HL
    go_enter Try.func98, Try.ntmps98
    go_wp2_with fail
    refine HC.out.mono ?_
    rintro e w' ⟨rfl, rfl⟩
    go_wp2_with fail
    go_ret2
    exact ⟨rfl, by simp⟩
  | false =>
    rw [hb] at HC
    rw [if_neg (by simp)]
    clear hb HL
    go_enter Try.func98, Try.ntmps98
    go_wp2_with fail
    refine HC.out.mono ?_
    rintro e w' ⟨rfl, rfl⟩
    go_wp2_with fail
    go_ret2
    exact ⟨rfl, rfl⟩
theorem str_CutSuffix (s t : ByteArray) (hs : s.size ≤ 140737488351232) (ht : t.size ≤ 140737488351232) (w : World) :
    Calls Try.prog 76 #[.string s, .string t] w fun e w' => w = w' ∧ e = .returned (.tuple #[.string (if ends s t = true then s.extract 0 (s.size - t.size) else s), .bool (ends s t)]) := by
  have HC := Lib.hid (lite_CutSuffix s t hs ht w)
  generalize (if ends s t = true then s.extract 0 (s.size - t.size) else s) = r at *
  generalize ends s t = b at *
  go_enter Try.func76, Try.ntmps76
  go_wp2_with fail
  refine HC.out.mono ?_
  rintro e w' ⟨rfl, rfl⟩
  go_wp2_with fail
  go_ret2
  exact ⟨rfl, rfl⟩
end Go.Proofs.Ytndkhlafpcedbaa
