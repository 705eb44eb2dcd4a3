/- flagonref06: Lines, Words. -/
import Derived.Test.YtebgikflpgcnlaaGreatDoorBlkP
import Derived.Test.YtebgikflpgcnlaaGreatDoorT03
import Derived.Test.YtebgikflpgcnlaaGreatDoorT01
import Derived.Test.YtebgikflpgcnlaaGreatDoorT06
import Derived.Test.YtebgikflpgcnlaaGreatDoorProg
import Derived.KernelRfl
import Derived.Handy
namespace Go.Proofs.YtebgikflpgcnlaaGreatDoor
set_option linter.unusedVariables false
set_option linter.unusedSimpArgs false
open Go.RowKit
theorem infoc_str : (Tryz.prog.info? 9).map (fun i => (i.size, i.bytes, i.zero.map fun z => z.cells.size)) = some (1, 16, some 1) := by kernel_rfl
theorem run_sub06 (s : ByteArray) (a b : Nat) (h1 : a ≤ b) (h2 : b ≤ s.size) (W : World) : (Instr.slice 9 (.string s) (some (.int .i64 (a : Int))) (some (.int .i64 (b : Int))) none).run Tryz.prog W = .ok (.string (s.extract a b)) W := by
  have := run_slice_string (P := Tryz.prog) W 9 s .i64 .i64 (a : Int) (b : Int) Tryz.underlying9 (by omega) (by omega) (by omega)
  simpa using this
theorem run_from06 (s : ByteArray) (a : Nat) (h1 : a ≤ s.size) (W : World) : (Instr.slice 9 (.string s) (some (.int .i64 (a : Int))) none none).run Tryz.prog W = .ok (.string (s.extract a s.size)) W := by
  rw [run_slice_string_from_if (P := Tryz.prog) W 9 s .i64 _ Tryz.underlying9, if_pos (by omega), Int.toNat_natCast]
theorem ext_dat (s : ByteArray) (a b : Nat) : (s.extract a b).data.toList = Lib.pieceU s.data.toList a b := by simp [Lib.pieceU]
theorem ext_le (s : ByteArray) (a b : Nat) (h : s.size ≤ 1048576) : Rd.SOk (s.extract a b) := by
  unfold Rd.SOk
  rw [ByteArray.size_extract]
  omega
def strC (x : ByteArray) : List Value := [Value.string x]
/-- Rows of texts of the call's own. -/
def OwnS (w0 : World) (W : World) (A : Option Addr) (c : Nat) (xs : List ByteArray) : Prop :=
  W.ownsRow w0.heap.size 9 1 (.slice A xs.length c) xs.length (xs.flatMap strC) ∧ (∀ x ∈ xs, Rd.SOk x) ∧ Below w0.heap.size w0 W
def LinRel (s : ByteArray) (w : World) (L F I : Value) (wr : World) : Prop := ∃ (i a : Nat) (A : Option Addr) (c : Nat) (xs : List ByteArray), a ≤ i ∧ i ≤ s.size ∧ xs.length ≤ i ∧ L = .slice A xs.length c ∧ F = .int .i64 (a : Int) ∧ I = .int .i64 (i : Int) ∧
  OwnS w wr A c xs ∧ xs.map (·.data.toList) ++ linG (Lib.pieceU s.data.toList a i) (s.data.toList.drop i) = linG [] s.data.toList
def StrsPost (l : List ByteArray) (w : World) (e : Ending) (w' : World) : Prop := ∃ A c, e = .returned (.slice A l.length c) ∧ (Rd.str.sl false).R w' w.heap.size w'.heap.size [.slice A l.length c] l ∧ Below w.heap.size w w'
theorem OwnS.post {w0 W : World} {A : Option Addr} {c : Nat} {xs l : List ByteArray} (h : OwnS w0 W A c xs) (hl : xs.map (·.data.toList) = l.map (·.data.toList)) : StrsPost l w0 (.returned (.slice A xs.length c)) W := by
  have e : xs = l := by
    have h1 := map_bOf hl
    rw [List.map_map] at h1
    rw [h1]
    conv => rhs; rw [← List.map_id l]
    exact List.map_congr_left fun x _ => bOf_of x
  subst e
  exact ⟨A, c, rfl, flat_str.reads h.1 rfl h.2.1, h.2.2⟩
theorem OwnS.snoc {w0 W W' : World} {A A' : Option Addr} {c c' : Nat} {xs : List ByteArray} {x : ByteArray} (h : OwnS w0 W A c xs) (hx : Rd.SOk x) (ho : Obj) (h2 : W'.ownsRow w0.heap.size 9 1 (.slice A' (xs.length + 1) c') (xs.length + 1) (xs.flatMap strC ++ [.string x])) (h3 : (W.alloc ho).grownBy W' (Value.slice A xs.length c).ownBlock) : OwnS w0 W' A' c' (xs ++ [x]) := by
  refine ⟨?_, fun y hy => ?_, ?_⟩
  · rw [List.length_append, List.flatMap_append]
    exact h2
  · rcases List.mem_append.1 hy with hy | hy
    · exact h.2.1 y hy
    · rw [List.mem_singleton] at hy
      subst hy; exact hx
  · have hs := h.2.2.size
    exact (h.2.2.alloc hs ho).trans (own_belowz (h.1.alloc ho) h3 (by simp; omega))
set_option maxRecDepth 100000 in
set_option maxHeartbeats 1000000 in
theorem ref_Lines (s : ByteArray) (hs : s.size ≤ 1048576) (w : World) :
    Calls Tryz.prog 15 #[.string s] w (StrsPost ((linG [] s.data.toList).map bOf) w) := by
  obtain ⟨i0, z0, hi0, hz, hs', hb, hzz⟩ := info_parts' infoc_str
  have Hi := Lib.hid hi0; have Hz := Lib.hid hz; have Hs := Lib.hid hs'; have Hb := Lib.hid hb; have Hzz := Lib.hid hzz; clear hi0 hz hs' hb hzz
  have HS := Lib.hid hs
  have hs63 : (s.size : Int) ≤ 1048576 := by omega
  clear hs
  go_enter Tryz.func15, Tryz.ntmps15
  go_wp2_with fail
  go_loopw [3, 4, 5] (fun L F I wr => LinRel s w L F I wr) (fun _ _ I _ => s.size - (intOf I).toNat)
  case atStart => exact ⟨0, 0, none, 0, [], Nat.le_refl _, Nat.zero_le _, Nat.le_refl _, rfl, rfl, rfl, ⟨World.ownsRow_nil _ _ _ _, fun x hx => (by cases hx), Below.refl _ _⟩, rfl⟩
  case round =>
    obtain ⟨i, a, A, c, xs, hai, hin, hxi, rfl, rfl, rfl, hown, hR⟩ := hrel
    have HO := Lib.hid hown; have HR := Lib.hid hR
    clear hown hR
    have hi0 : (0 : Int) ≤ i := by omega
    by_cases hlt : i < s.size
    · have Hd := Lib.hid (drop_at s.data.toList i (by rw [len_sz]; exact hlt))
      have hbn := congrArg UInt8.toNat (byte_at s i hlt)
      by_cases hnl : s.data.toList[i]?.getD 0 = 10
      · have e10 : (((s[i]'hlt).toNat : Int) == 10) = true := by rw [hbn, hnl]; rfl
        have HNL := Lib.hid hnl
        have hsub := run_sub06 s a i hai (Nat.le_of_lt hlt)
        have Hone := Lib.hid (row_lit wr [.string (s.extract a i)] 9)
        clear hbn hnl
        go_wp2_with (at_builtin; refine wpList_appz _ rfl (.tmp 16) (.tmp 21) 42 rfl w.heap.size 9 i0 z0 1 16 Tryz.underlying42 Hi.out Hz.out Hs.out Hb.out Hzz.out (by omega) (.slice A xs.length c) xs.length (xs.flatMap strC) rfl (HO.out.1.alloc _) (wr.heap.size + 1) _ 1 1 [.string (s.extract a i)] rfl rfl Hone.out (by intro u hu; simp at hu; subst hu; rfl) (by unfold maxLen; omega) (by omega) (by have := HO.out.2.2.size; simp; omega) ?_; intro A6 c6 w6 h2 h3 h4; have H2 := Lib.hid h2; have H3 := Lib.hid h3; have H4 := Lib.hid h4)
        refine ⟨⟨i + 1, i + 1, A6, c6, xs ++ [s.extract a i], Nat.le_refl _, hlt, by rw [List.length_append]; exact Nat.succ_le_succ hxi, by rw [List.length_append]; rfl, by go_num, by go_num, HO.out.snoc (ext_le s a i HS.out) _ H2.out H3.out, ?_⟩, by simp [intOf]; omega⟩
        rw [← HR.out, Hd.out, HNL.out, List.map_append, List.append_assoc]
        show _ ++ ([(s.extract a i).data.toList] ++ linG (Lib.pieceU s.data.toList (i + 1) (i + 1)) (s.data.toList.drop (i + 1))) = _ ++ (if (10 : UInt8) = 10 then Lib.pieceU s.data.toList a i :: linG [] (s.data.toList.drop (i + 1)) else _)
        rw [if_pos rfl, ext_dat, show Lib.pieceU s.data.toList (i + 1) (i + 1) = [] by unfold Lib.pieceU; rw [Nat.sub_self, List.take_zero]]
        rfl
      · have e10 : (((s[i]'hlt).toNat : Int) == 10) = false := by
          rw [hbn, beq_eq_false_iff_ne]
          intro e
          exact hnl (by rw [← UInt8.toNat_inj]; exact Int.ofNat_inj.1 e)
        have HNL := Lib.hid hnl
        clear hbn hnl
        go_wp2_with fail
        refine ⟨⟨i + 1, a, A, c, xs, Nat.le_succ_of_le hai, hlt, Nat.le_succ_of_le hxi, rfl, rfl, by go_num, HO.out, ?_⟩, by simp [intOf]; omega⟩
        have hg := Lib.pieceU_grow s.data.toList a i 1 hai
        rw [Hd.out] at hg
        rw [← HR.out, Hd.out, ← hg]
        show _ = _ ++ (if s.data.toList[i]?.getD 0 = 10 then _ else linG _ _)
        rw [if_neg HNL.out]
        rfl
    · obtain rfl : s.size = i := by omega
      have hfr := run_from06 s a hai
      have Hone := Lib.hid (row_lit wr [.string (s.extract a s.size)] 9)
      have HLN : Hid (s.size = s.data.toList.length) := Lib.hid (len_sz s).symm
      go_wp2_with (at_builtin; refine wpList_appz _ rfl (.tmp 25) (.tmp 29) 42 rfl w.heap.size 9 i0 z0 1 16 Tryz.underlying42 Hi.out Hz.out Hs.out Hb.out Hzz.out (by omega) (.slice A xs.length c) xs.length (xs.flatMap strC) rfl (HO.out.1.alloc _) (wr.heap.size + 1) _ 1 1 [.string (s.extract a s.size)] rfl rfl Hone.out (by intro u hu; simp at hu; subst hu; rfl) (by unfold maxLen; omega) (by omega) (by have := HO.out.2.2.size; simp; omega) ?_; intro A6 c6 w6 h2 h3 h4; have H2 := Lib.hid h2; have H3 := Lib.hid h3; have H4 := Lib.hid h4)
      go_ret
      have hp := (HO.out.snoc (ext_le s a s.size HS.out) _ H2.out H3.out).post (l := (linG [] s.data.toList).map bOf) (by
        rw [List.map_map, show ((fun x : ByteArray => x.data.toList) ∘ bOf) = id from funext fun l => bOf_data l, List.map_id, ← HR.out, List.drop_eq_nil_of_le (by rw [← HLN.out]; exact Nat.le_refl _), List.map_append]
        show _ ++ [(s.extract a s.size).data.toList] = _
        rw [ext_dat]
        rfl)
      rw [List.length_append] at hp
      exact hp
end Go.Proofs.YtebgikflpgcnlaaGreatDoor
