/- flagonref06: Words. -/
import Derived.Test.YtebgikflpgcnlaaGreatDoorLinA
namespace Go.Proofs.YtebgikflpgcnlaaGreatDoor
set_option linter.unusedVariables false
set_option linter.unusedSimpArgs false
open Go.RowKit
def stI (st : Option Nat) : Int := match st with
  | some a => a
  | none => -1
def WrdRel (s : ByteArray) (w : World) (L F I : Value) (wr : World) : Prop := ∃ (i : Nat) (st : Option Nat) (A : Option Addr) (c : Nat) (xs : List ByteArray), i ≤ s.size + 1 ∧ (∀ a, st = some a → a < i ∧ i ≤ s.size) ∧ xs.length ≤ i ∧ L = .slice A xs.length c ∧ F = .int .i64 (stI st) ∧ I = .int .i64 (i : Int) ∧
  OwnS w wr A c xs ∧ xs.map (·.data.toList) ++ wdsG (Lib.openPiece s.data.toList st i) (s.data.toList.drop i) = wdsG [] s.data.toList
theorem wds_blank {s : ByteArray} {i : Nat} {b : UInt8} {t : List UInt8} (h : s.data.toList.drop i = b :: t) (hb : isB b = true) (st : Option Nat) (hp : ∀ a, st = some a → a < i ∧ i ≤ s.size) :
    wdsG (Lib.openPiece s.data.toList st i) (s.data.toList.drop i) = (match st with | none => [] | some a => [Lib.pieceU s.data.toList a i]) ++ wdsG [] t := by
  rw [h]
  show (if isB b = true then (if Lib.openPiece s.data.toList st i = [] then [] else [Lib.openPiece s.data.toList st i]) ++ wdsG [] t else _) = _
  rw [if_pos hb]
  cases st with
  | none => rfl
  | some a =>
    have := Lib.pieceU_ne s.data.toList a i (hp a rfl).1 (by rw [len_sz]; exact (hp a rfl).2)
    show (if Lib.pieceU s.data.toList a i = [] then _ else _) ++ _ = _
    rw [if_neg this]
    rfl
theorem wds_end {s : ByteArray} {i : Nat} (h : s.size ≤ i) (st : Option Nat) (hp : ∀ a, st = some a → a < i ∧ i ≤ s.size) :
    wdsG (Lib.openPiece s.data.toList st i) (s.data.toList.drop i) = (match st with | none => [] | some a => [Lib.pieceU s.data.toList a i]) := by
  rw [List.drop_eq_nil_of_le (by rw [len_sz]; exact h)]
  cases st with
  | none => rfl
  | some a =>
    have := Lib.pieceU_ne s.data.toList a i (hp a rfl).1 (by rw [len_sz]; exact (hp a rfl).2)
    show (if Lib.pieceU s.data.toList a i = [] then _ else _) = _
    rw [if_neg this]
    rfl
theorem wds_char {s : ByteArray} {i : Nat} {b : UInt8} (h : s.data.toList.drop i = b :: s.data.toList.drop (i + 1)) (hb : isB b = false) (st : Option Nat) (hp : ∀ a, st = some a → a < i ∧ i ≤ s.size) :
    wdsG (Lib.openPiece s.data.toList st i) (s.data.toList.drop i) = wdsG (Lib.openPiece s.data.toList (some (st.getD i)) (i + 1)) (s.data.toList.drop (i + 1)) := by
  have hone : [b] = (s.data.toList.drop i).take 1 := by rw [h]; rfl
  conv => lhs; rw [h]
  show (if isB b = true then _ else wdsG (Lib.openPiece s.data.toList st i ++ [b]) _) = _
  rw [if_neg (by rw [hb]; exact Bool.false_ne_true)]
  congr 1
  rw [hone]
  cases st with
  | none =>
    show _ = Lib.pieceU s.data.toList i (i + 1)
    unfold Lib.pieceU
    rw [Nat.add_sub_cancel_left]
    rfl
  | some a => exact Lib.pieceU_grow _ _ _ _ (Nat.le_of_lt (hp a rfl).1)
set_option maxRecDepth 100000 in
set_option maxHeartbeats 2000000 in
theorem ref_Words (s : ByteArray) (hs : s.size ≤ 1048576) (w : World) :
    Calls Tryz.prog 16 #[.string s] w (StrsPost ((wdsG [] s.data.toList).map bOf) w) := by
  obtain ⟨i0, z0, hi0, hz, hs', hb, hzz⟩ := info_parts' infoc_str
  have Hi := Lib.hid hi0; have Hz := Lib.hid hz; have Hs := Lib.hid hs'; have Hb := Lib.hid hb; have Hzz := Lib.hid hzz; clear hi0 hz hs' hb hzz
  have HS := Lib.hid hs
  have hs63 : (s.size : Int) ≤ 1048576 := by omega
  clear hs
  go_enter Tryz.func16, Tryz.ntmps16
  go_wp2_with fail
  go_loopw [3, 4, 5, 6] (fun L F I _ wr => WrdRel s w L F I wr) (fun _ _ I _ _ => s.size + 1 - (intOf I).toNat)
  case atStart => exact ⟨0, none, none, 0, [], Nat.zero_le _, fun a h => (by cases h), Nat.le_refl _, rfl, rfl, rfl, ⟨World.ownsRow_nil _ _ _ _, fun x hx => (by cases hx), Below.refl _ _⟩, rfl⟩
  case round =>
    obtain ⟨i, st, A, c, xs, hin, hst, hxi, rfl, rfl, rfl, hown, hR⟩ := hrel
    have HO := Lib.hid hown; have HR := Lib.hid hR; have HST := Lib.hid hst
    clear hown hR hst
    have hi0 : (0 : Int) ≤ i := by omega
    by_cases hle : i ≤ s.size
    case neg =>
      have q0 : decide ((i : Int) ≤ (s.size : Int)) = false := decide_eq_false (by omega)
      have q1 : decide (i ≤ s.size) = false := decide_eq_false hle
      have HE : Hid (s.size < i) := Lib.hid (by omega)
      clear hle
      go_wp2_with fail
      go_ret
      have hp := HO.out.post (l := (wdsG [] s.data.toList).map bOf) (by
        rw [List.map_map, show ((fun x : ByteArray => x.data.toList) ∘ bOf) = id from funext fun l => bOf_data l, List.map_id, ← HR.out, wds_end (Nat.le_of_lt HE.out) st HST.out]
        cases st with
        | none => simp
        | some a => have := (HST.out a rfl).2; have := HE.out; omega)
      exact hp
    have q0 : decide ((i : Int) ≤ (s.size : Int)) = true := decide_eq_true (by omega)
    have key : (∃ hlt : i < s.size, ((i : Int) == (s.size : Int)) = false ∧ isB (s.data.toList[i]?.getD 0) = true ∧ ((((s[i]'hlt).toNat : Int) == 9) = true ∨ ((((s[i]'hlt).toNat : Int) == 9) = false ∧ (((s[i]'hlt).toNat : Int) == 13) = true) ∨ ((((s[i]'hlt).toNat : Int) == 9) = false ∧ (((s[i]'hlt).toNat : Int) == 13) = false ∧ (((s[i]'hlt).toNat : Int) == 32) = true)))
        ∨ (i = s.size) ∨ (∃ hlt : i < s.size, ((i : Int) == (s.size : Int)) = false ∧ isB (s.data.toList[i]?.getD 0) = false ∧ (((s[i]'hlt).toNat : Int) == 9) = false ∧ (((s[i]'hlt).toNat : Int) == 13) = false ∧ (((s[i]'hlt).toNat : Int) == 32) = false) := by
      by_cases hlt : i < s.size
      · have hbn := congrArg UInt8.toNat (byte_at s i hlt)
        have hne : ((i : Int) == (s.size : Int)) = false := by rw [beq_eq_false_iff_ne]; omega
        have hiB : isB (s.data.toList[i]?.getD 0) = (((s[i]'hlt).toNat == 32) || ((s[i]'hlt).toNat == 9) || ((s[i]'hlt).toNat == 13)) := by unfold isB blankR; rw [hbn]
        have hc : ∀ k : Nat, (((s[i]'hlt).toNat : Int) == (k : Int)) = ((s[i]'hlt).toNat == k) := fun k => by
          by_cases e : (s[i]'hlt).toNat = k
          · rw [beq_iff_eq.2 e, beq_iff_eq.2 (by omega)]
          · rw [beq_eq_false_iff_ne.2 e, beq_eq_false_iff_ne.2 (by omega)]
        have h9 := hc 9; have h13 := hc 13; have h32 := hc 32
        simp only [Int.cast_ofNat_Int] at h9 h13 h32
        rw [hiB]
        cases e9 : ((s[i]'hlt).toNat == 9) with
        | true => exact .inl ⟨hlt, hne, by simp, .inl (h9.trans e9)⟩
        | false =>
          cases e13 : ((s[i]'hlt).toNat == 13) with
          | true => exact .inl ⟨hlt, hne, by simp, .inr (.inl ⟨h9.trans e9, h13.trans e13⟩)⟩
          | false =>
            cases e32 : ((s[i]'hlt).toNat == 32) with
            | true => exact .inl ⟨hlt, hne, by simp, .inr (.inr ⟨h9.trans e9, h13.trans e13, h32.trans e32⟩)⟩
            | false => exact .inr (.inr ⟨hlt, hne, by simp, h9.trans e9, h13.trans e13, h32.trans e32⟩)
      · exact .inr (.inl (by omega))
    rcases key with ⟨hlt, hne, hB, hk⟩ | rfl | ⟨hlt, hne, hB, h9, h13, h32⟩
    · have Hd := Lib.hid (drop_at s.data.toList i (by rw [len_sz]; exact hlt))
      have HW := Lib.hid (wds_blank Hd.out hB st HST.out)
      clear hB
      rcases hk with h9 | ⟨h9, h13⟩ | ⟨h9, h13, h32⟩
      all_goals
        cases st with
        | none =>
          go_wp2_with fail
          refine ⟨⟨i + 1, none, A, c, xs, by omega, fun a h => (by cases h), Nat.le_succ_of_le hxi, rfl, rfl, by go_num, HO.out, ?_⟩, by simp [intOf]; omega⟩
          rw [← HR.out, HW.out]
          rfl
        | some a =>
          have ha := (HST.out a rfl).1
          have hsub := run_sub06 s a i (Nat.le_of_lt ha) hle
          have ha0 : (0 : Int) ≤ (a : Int) := by omega
          have hsi : stI (some a) = (a : Int) := rfl
          have Hone := Lib.hid (row_lit wr [.string (s.extract a i)] 9)
          rw [hsi]
          clear hsi
          go_wp2_with (at_builtin; refine wpList_appz _ rfl (.tmp 40) (.tmp 45) 42 rfl w.heap.size 9 i0 z0 1 16 Tryz.underlying42 Hi.out Hz.out Hs.out Hb.out Hzz.out (by omega) (.slice A xs.length c) xs.length (xs.flatMap strC) rfl (HO.out.1.alloc _) (wr.heap.size + 1) _ 1 1 [.string (s.extract a i)] rfl rfl Hone.out (by intro u hu; simp at hu; subst hu; rfl) (by unfold maxLen; omega) (by omega) (by have := HO.out.2.2.size; simp; omega) ?_; intro A6 c6 w6 h2 h3 h4; have H2 := Lib.hid h2; have H3 := Lib.hid h3; have H4 := Lib.hid h4)
          refine ⟨⟨i + 1, none, A6, c6, xs ++ [s.extract a i], by omega, fun a h => (by cases h), by rw [List.length_append]; exact Nat.succ_le_succ hxi, by rw [List.length_append]; rfl, rfl, by go_num, HO.out.snoc (ext_le s a i HS.out) _ H2.out H3.out, ?_⟩, by simp [intOf]; omega⟩
          rw [← HR.out, HW.out, List.map_append, List.append_assoc, List.map_cons, ext_dat]
          rfl
    · have q1 : ((s.size : Int) == (s.size : Int)) = true := beq_iff_eq.2 rfl
      have HW := Lib.hid (wds_end (Nat.le_refl s.size) st HST.out)
      have HD : Hid (s.data.toList.drop (s.size + 1) = []) := Lib.hid (List.drop_eq_nil_of_le (by rw [len_sz]; omega))
      cases st with
      | none =>
        go_wp2_with fail
        refine ⟨⟨s.size + 1, none, A, c, xs, by omega, fun a h => (by cases h), Nat.le_succ_of_le hxi, rfl, rfl, by first | rfl | go_num, HO.out, ?_⟩, by first | (simp [intOf]; done) | (simp [intOf]; omega)⟩
        rw [← HR.out, HW.out, HD.out]
        rfl
      | some a =>
        have ha := (HST.out a rfl).1
        have hsub := run_sub06 s a s.size (Nat.le_of_lt ha) hle
        have ha0 : (0 : Int) ≤ (a : Int) := by omega
        have hsi : stI (some a) = (a : Int) := rfl
        have Hone := Lib.hid (row_lit wr [.string (s.extract a s.size)] 9)
        rw [hsi]
        clear hsi
        go_wp2_with (at_builtin; refine wpList_appz _ rfl (.tmp 40) (.tmp 45) 42 rfl w.heap.size 9 i0 z0 1 16 Tryz.underlying42 Hi.out Hz.out Hs.out Hb.out Hzz.out (by omega) (.slice A xs.length c) xs.length (xs.flatMap strC) rfl (HO.out.1.alloc _) (wr.heap.size + 1) _ 1 1 [.string (s.extract a s.size)] rfl rfl Hone.out (by intro u hu; simp at hu; subst hu; rfl) (by unfold maxLen; omega) (by omega) (by have := HO.out.2.2.size; simp; omega) ?_; intro A6 c6 w6 h2 h3 h4; have H2 := Lib.hid h2; have H3 := Lib.hid h3; have H4 := Lib.hid h4)
        refine ⟨⟨s.size + 1, none, A6, c6, xs ++ [s.extract a s.size], by omega, fun a h => (by cases h), by rw [List.length_append]; exact Nat.succ_le_succ hxi, by rw [List.length_append]; rfl, rfl, by first | rfl | go_num, HO.out.snoc (ext_le s a s.size HS.out) _ H2.out H3.out, ?_⟩, by first | (simp [intOf]; done) | (simp [intOf]; omega)⟩
        rw [← HR.out, HW.out, HD.out, List.map_append, List.map_cons, ext_dat]
        simp [Lib.openPiece, wdsG]
    · have Hd := Lib.hid (drop_at s.data.toList i (by rw [len_sz]; exact hlt))
      have HW := Lib.hid (wds_char Hd.out hB st HST.out)
      clear hB
      cases st with
      | none =>
        go_wp2_with fail
        refine ⟨⟨i + 1, some i, A, c, xs, by omega, fun a h => by cases h; exact ⟨Nat.lt_succ_self _, hlt⟩, Nat.le_succ_of_le hxi, rfl, rfl, by go_num, HO.out, ?_⟩, by simp [intOf]; omega⟩
        rw [← HR.out, HW.out]
        rfl
      | some a =>
        have ha := (HST.out a rfl).1
        have hneg : decide ((a : Int) < 0) = false := decide_eq_false (by omega)
        have hsi : stI (some a) = (a : Int) := rfl
        rw [hsi]
        clear hsi
        go_wp2_with fail
        refine ⟨⟨i + 1, some a, A, c, xs, by omega, fun b h => by cases h; exact ⟨Nat.lt_succ_of_lt ha, hlt⟩, Nat.le_succ_of_le hxi, rfl, rfl, by go_num, HO.out, ?_⟩, by simp [intOf]; omega⟩
        rw [← HR.out, HW.out]
        rfl
end Go.Proofs.YtebgikflpgcnlaaGreatDoor
