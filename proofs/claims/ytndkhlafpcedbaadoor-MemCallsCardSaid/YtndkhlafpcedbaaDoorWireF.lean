/- wire.Svar, wire.Text, joined. -/
import Derived.Test.YtndkhlafpcedbaaDoorWireE
import Derived.Test.YtndkhlafpcedbaaDoorFold
namespace Go.Proofs.YtndkhlafpcedbaaDoor
set_option linter.unusedVariables false
open Go.RowKit
set_option maxRecDepth 100000 in
set_option maxHeartbeats 400000 in
theorem wire_Svar (v : Int) (h0 : -9223372036854775808 ≤ v) (h1 : v < 9223372036854775808) (w : World) :
    Calls Tryd.prog 9 #[.int .i64 v] w fun e w' => ∃ A c, e = .returned (.slice A (enc (folded v)).length c) ∧ w'.ownsRow w.heap.size 5 1 (.slice A (enc (folded v)).length c) (enc (folded v)).length ((enc (folded v)).map bv) ∧ Below w.heap.size w w' := by
  go_enter Tryd.func9, Tryd.ntmps9
  go_wp2_with fail
  rw [fold_wire v h0 h1]
  refine (wire_Uvar (folded v) (folded_lt v h0 h1) w).mono ?_
  rintro e w1 ⟨A, c, rfl, h2, h3⟩
  have H2 := Lib.hid h2; clear h2
  have H3 := Lib.hid h3; clear h3
  go_wp2_with fail
  go_ret
  exact ⟨A, c, rfl, H2.out, H3.out⟩
theorem bytes_row (w : World) (e : TypeId) (s : ByteArray) : Row (Lib.bytesWorld w e s) (w.heap.size + 1) (some ⟨w.heap.size, 0, none⟩) (s.data.toList.map bv) := by
  intro _
  refine ⟨w.heap.size, 0, rfl, Nat.lt_succ_self _, fun j u hu => ?_⟩
  have hj : j < s.size := by have := (List.getElem?_eq_some_iff.1 hu).1; simpa using this
  rw [Nat.zero_add, Lib.bytesWorld_cell w e s j hj, ← hu, List.getElem?_map]
  have hj' : j < s.data.toList.length := by simpa using hj
  rw [List.getElem?_eq_getElem hj', List.getD, List.getElem?_eq_getElem hj']
  rfl
theorem bytes_below (w : World) (e : TypeId) (s : ByteArray) : Below w.heap.size w (Lib.bytesWorld w e s) :=
  ⟨rfl, rfl, rfl, by rw [Lib.bytesWorld_size]; omega, fun k hk => Lib.bytesWorld_at_old w e s k hk⟩
theorem own_below_kept {w w' : World} {base : Nat} {e : TypeId} {v : Value} {n : Nat} {xs : List Value} (h : w.ownsRow base e 1 v n xs) (hb : Below w.heap.size w w') : w'.ownsRow base e 1 v n xs :=
  h.kept (row := some w.heap.size) ⟨hb.os, hb.tape, hb.output, hb.size, fun k hk _ => hb.block k hk⟩ (by
    cases hv : v.ownBlock with
    | none => exact .inl rfl
    | some k => right; intro e; injection e with e; have := (h.lt k hv).2; omega)
set_option maxRecDepth 100000 in
set_option maxHeartbeats 400000 in
theorem wire_Text (s : ByteArray) (h47 : s.size ≤ 70368744177664) (w : World) :
    Calls Tryd.prog 10 #[.string s] w fun e w' => ∃ A c, e = .returned (.slice A ((enc s.size).length + s.size) c) ∧ w'.ownsRow w.heap.size 5 1 (.slice A ((enc s.size).length + s.size) c) ((enc s.size).length + s.size) ((enc s.size ++ s.data.toList).map bv) ∧ Below w.heap.size w w' := by
  have hl := enc_len10 s.size (by omega)
  go_enter Tryd.func10, Tryd.ntmps10
  go_wp2_with fail
  refine (wire_Uvar s.size (by omega) w).mono ?_
  rintro e w1 ⟨A, c, rfl, h2, h3⟩
  have hcv := Lib.run_convert_string_bytes (P := Tryd.prog) w1 9 24 5 s Tryd.underlying9 Tryd.underlying24 Tryd.underlying5
  have H2 := Lib.hid h2; clear h2
  have H3 := Lib.hid h3; clear h3
  have HT := Lib.hid (bytes_row w1 5 s)
  have HB := Lib.hid (bytes_below w1 5 s)
  generalize hw2 : Lib.bytesWorld w1 5 s = w2 at *
  clear hw2
  have hsz : w.heap.size ≤ w2.heap.size := by have := HB.out.size; have := H3.out.size; omega
  go_wp2_with fail
  refine (wire_put A _ (enc s.size).length c s.size _ (w1.heap.size + 1) w.heap.size w2 ((enc s.size).map bv) (s.data.toList.map bv) (own_below_kept H2.out HB.out) (by simp) HT.out (bv_one _) (by omega) hsz).mono ?_
  rintro e w3 ⟨A', c', rfl, h4, h5⟩
  have H4 := Lib.hid h4; clear h4
  have H5 : Hid (Below w.heap.size w w3) := Lib.hid ((H3.out.trans (HB.out.mono (by have := H3.out.size; omega))).trans (own_below (own_below_kept H2.out HB.out) h5 hsz))
  clear h5 hsz hcv
  go_wp2_with fail
  go_ret
  rw [List.map_append]
  exact ⟨A', c', rfl, H4.out, H5.out⟩
end Go.Proofs.YtndkhlafpcedbaaDoor
