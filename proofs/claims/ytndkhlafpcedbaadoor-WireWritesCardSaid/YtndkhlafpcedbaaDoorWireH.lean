/- flagonref01.Uvar, folded, Svar, Text: the document's answers. -/
import Derived.Test.YtndkhlafpcedbaaDoorWireF
import Derived.Lib.AppendStr
namespace Go.Proofs.YtndkhlafpcedbaaDoor
set_option linter.unusedVariables false
open Go.RowKit
/-- append of a string's bytes onto a row of the call's own. -/
theorem app_string (w : World) {ops : Array Oper} {rest : List Oper} {o : Oper} {a : Act} {Q : Exit → Act → World → Prop} (hgd : o.guard = none) (s x : Operand)
    (ho : o.op = .call { callee := .builtin .append, args := #[s, x], argTypes := #[24, 9] }) (base : Nat)
    (A : Option Addr) (n c : Nat) (xs : List Value) (hs : a.eval s = .slice A n c) (hown : w.ownsRow base 5 1 (.slice A n c) n xs)
    (t : ByteArray) (hx : a.eval x = .string t) (h47 : n + t.size ≤ 140737488351232) (hbase : base ≤ w.heap.size)
    (h : ∀ A' c' w', w'.ownsRow base 5 1 (.slice A' (n + t.size) c') (n + t.size) (xs ++ t.data.toList.map bv) → Below base w w' → wpList Tryd.prog ops Q rest (a.put o.dst (.slice A' (n + t.size) c')) w') : wpList Tryd.prog ops Q (o :: rest) a w := by
  obtain ⟨i0, hi, hz, hs', hb⟩ := info_parts Tryd.info_u8
  refine Lib.wpList_append_own_string (w := w) hgd s x 24 9 ho base 5 i0 Tryd.underlying24 Tryd.underlying9 hi hz hs' hb _ n xs hs hown t hx (by unfold maxLen; omega) (by omega) hbase ?_
  intro v' w' h2 h3 _
  obtain ⟨A', c', rfl⟩ := own_form h2
  exact h A' c' w' h2 (own_below hown h3 hbase)
set_option maxRecDepth 100000 in
set_option maxHeartbeats 400000 in
theorem ref_Uvar (v0 : Nat) (hv0 : v0 < 18446744073709551616) (w : World) :
    Calls Tryd.prog 13 #[.int .u64 v0] w fun e w' => ∃ A c, e = .returned (.slice A (enc v0).length c) ∧ w'.ownsRow w.heap.size 5 1 (.slice A (enc v0).length c) (enc v0).length ((enc v0).map bv) ∧ Below w.heap.size w w' := by
  have hl10 := enc_len10 v0 hv0
  go_enter Tryd.func13, Tryd.ntmps13
  go_wp2_with fail
  go_loopw [3, 0] (fun L V wr => UvRel v0 w L V wr) (fun _ V _ => (intOf V).toNat)
  case atStart => exact ⟨v0, [], none, 0, rfl, rfl, hv0, rfl, World.ownsRow_nil _ _ _ _, Below.refl _ _⟩
  case round =>
    obtain ⟨v, xs, A, c, rfl, rfl, hv, hR, hown, hbel⟩ := hrel
    have HR := Lib.hid hR; clear hR
    have Hown := Lib.hid hown; clear hown
    have Hbel := Lib.hid hbel; clear hbel
    have hxs : xs.length ≤ 10 := by have := congrArg List.length HR.out; rw [List.length_append] at this; omega
    by_cases hlt : v < 128
    · have hge : ¬ (128 : Int) ≤ v := by omega
      have hm256 : (v : Int) % 256 = v := by omega
      have Henc : Hid (xs.map bv ++ [.int .u8 (v : Int)] = (enc v0).map bv) := Lib.hid (by rw [← HR.out, enc_small v hlt, List.map_append]; simp [ofNat_small v (by omega)])
      have Hlen : Hid (xs.length + 1 = (enc v0).length) := Lib.hid (by rw [← HR.out, enc_small v hlt, List.length_append]; rfl)
      go_wp2_with (at_builtin; refine app_bytes _ rfl (.tmp 15) (.tmp 18) rfl w.heap.size A xs.length c (xs.map bv) rfl (Hown.out.alloc _) (wr.heap.size + 1) _ 1 1 [.int .u8 (v : Int)] rfl rfl (by exact row_one _ _ _) (by simp [Value.oneCell']) (by omega) (by exact Nat.le_trans Hbel.out.size (by simp)) ?_; intro A' c' w1 h2 _ h3; have H2 := Lib.hid h2; have H3 := Lib.hid h3; clear h2 h3)
      go_ret
      rw [← Hlen.out, ← Henc.out]
      exact ⟨A', c', rfl, H2.out, ((Hbel.out.alloc Hbel.out.size _)).trans H3.out⟩
    · have hge : (128 : Int) ≤ v := by omega
      have hm0 : 0 ≤ (v : Int) % 128 := by omega
      have hm1 : (v : Int) % 128 < 128 := by omega
      have hm2 : (v : Int) % 128 + 128 < 256 := by omega
      have hm3 : ((v : Int) % 128 + 128) % 256 = (v : Int) % 128 + 128 := by omega
      have Hnext : Hid ((xs ++ [UInt8.ofNat (v % 128 + 128)]) ++ enc (v / 128) = enc v0) := Lib.hid (by rw [← HR.out, enc_great v hlt, List.append_assoc]; rfl)
      go_wp2_with (at_builtin; refine app_bytes _ rfl (.tmp 6) (.tmp 11) rfl w.heap.size A xs.length c (xs.map bv) rfl (Hown.out.alloc _) (wr.heap.size + 1) _ 1 1 _ rfl rfl (by exact row_one _ _ _) (by simp [Value.oneCell']) (by omega) (by exact Nat.le_trans Hbel.out.size (by simp)) ?_; intro A' c' w1 h2 _ h3; have H2 := Lib.hid h2; have H3 := Lib.hid h3; clear h2 h3)
      refine ⟨⟨v / 128, xs ++ [UInt8.ofNat (v % 128 + 128)], A', c', by simp, by go_num, by omega, Hnext.out, ?_, (Hbel.out.alloc Hbel.out.size _).trans H3.out⟩, ?_⟩
      · have h4 := H2.out
        rw [show ((v : Int) % 128 + 128) = ((v % 128 + 128 : Nat) : Int) from by omega, ← ofNat_small _ (by omega), show [bv (UInt8.ofNat (v % 128 + 128))] = [UInt8.ofNat (v % 128 + 128)].map bv from rfl, ← List.map_append] at h4
        simpa using h4
      · simp [intOf]; omega
set_option maxRecDepth 100000 in
set_option maxHeartbeats 400000 in
theorem ref_folded (v : Int) (h0 : -9223372036854775808 ≤ v) (h1 : v < 9223372036854775808) (w : World) :
    Calls Tryd.prog 63 #[.int .i64 v] w fun e w' => e = .returned (.int .u64 (folded v)) ∧ w' = w := by
  go_enter Tryd.func63, Tryd.ntmps63
  by_cases hv : v < 0
  · have e1 : -(v + 1) % 18446744073709551616 = -(v + 1) := by omega
    have e2 : 2 * -(v + 1) % 18446744073709551616 = 2 * -(v + 1) := by omega
    have e3 : (2 * -(v + 1) + 1) % 18446744073709551616 = 2 * -(v + 1) + 1 := by omega
    have Hf : Hid (((folded v : Nat) : Int) = 2 * -(v + 1) + 1) := Lib.hid (by unfold folded; rw [if_pos hv]; omega)
    go_wp2_with fail
    go_ret
    rw [Hf.out]
    exact ⟨rfl, rfl⟩
  · have e1 : v % 18446744073709551616 = v := by omega
    have e2 : 2 * v % 18446744073709551616 = 2 * v := by omega
    have Hf : Hid (((folded v : Nat) : Int) = 2 * v) := Lib.hid (by unfold folded; rw [if_neg hv]; omega)
    go_wp2_with fail
    go_ret
    rw [Hf.out]
    exact ⟨rfl, rfl⟩
set_option maxRecDepth 100000 in
set_option maxHeartbeats 400000 in
theorem ref_Svar (v : Int) (h0 : -9223372036854775808 ≤ v) (h1 : v < 9223372036854775808) (w : World) :
    Calls Tryd.prog 14 #[.int .i64 v] w fun e w' => ∃ A c, e = .returned (.slice A (enc (folded v)).length c) ∧ w'.ownsRow w.heap.size 5 1 (.slice A (enc (folded v)).length c) (enc (folded v)).length ((enc (folded v)).map bv) ∧ Below w.heap.size w w' := by
  go_enter Tryd.func14, Tryd.ntmps14
  go_wp2_with fail
  refine (ref_folded v h0 h1 w).mono ?_
  rintro e w1 ⟨rfl, rfl⟩
  go_wp2_with fail
  refine (ref_Uvar (folded v) (folded_lt v h0 h1) w1).mono ?_
  rintro e w1 ⟨A, c, rfl, h2, h3⟩
  have H2 := Lib.hid h2; clear h2
  have H3 := Lib.hid h3; clear h3
  go_wp2_with fail
  go_ret
  exact ⟨A, c, rfl, H2.out, H3.out⟩
set_option maxRecDepth 100000 in
set_option maxHeartbeats 400000 in
theorem ref_Text (s : ByteArray) (h47 : s.size ≤ 70368744177664) (w : World) :
    Calls Tryd.prog 15 #[.string s] w fun e w' => ∃ A c, e = .returned (.slice A ((enc s.size).length + s.size) c) ∧ w'.ownsRow w.heap.size 5 1 (.slice A ((enc s.size).length + s.size) c) ((enc s.size).length + s.size) ((enc s.size ++ s.data.toList).map bv) ∧ Below w.heap.size w w' := by
  have hl := enc_len10 s.size (by omega)
  go_enter Tryd.func15, Tryd.ntmps15
  go_wp2_with fail
  refine (ref_Uvar s.size (by omega) w).mono ?_
  rintro e w1 ⟨A, c, rfl, h2, h3⟩
  have H2 := Lib.hid h2; clear h2
  have H3 := Lib.hid h3; clear h3
  go_wp2_with (at_builtin; refine app_string _ rfl (.tmp 8) (.tmp 9) rfl w.heap.size A (enc s.size).length c ((enc s.size).map bv) rfl H2.out s rfl (by omega) H3.out.size ?_; intro A' c' w2 h4 h5; have H4 := Lib.hid h4; have H5 := Lib.hid h5; clear h4 h5)
  go_ret
  rw [List.map_append]
  exact ⟨A', c', rfl, H4.out, H3.out.trans H5.out⟩
end Go.Proofs.YtndkhlafpcedbaaDoor
