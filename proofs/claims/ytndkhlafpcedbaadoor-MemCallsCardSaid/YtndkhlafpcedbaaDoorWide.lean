/- flagonref00.WideBytes: a copy with marks behind it; SpareBytes: do the marks stand? -/
import Derived.Test.YtndkhlafpcedbaaDoorProg
import Derived.Test.YtndkhlafpcedbaaDoorMem
import Derived.Handy
namespace Go.Proofs.YtndkhlafpcedbaaDoor
set_option linter.unusedVariables false
open Go.RowKit
def WideRel (l : List UInt8) (g : Nat) (w : World) (i : Value) (wr : World) : Prop :=
  ∃ (k : Nat) (xs : List Value), k ≤ l.length + 64 ∧ i = .int .i64 k ∧ xs.length = l.length + 64 ∧ Blk wr g 5 xs ∧ xs.take k = (l.map bv ++ marksB l.length).take k ∧ Below g w wr
theorem Tryd.info_u8 : (Tryd.prog.info? 5).map (fun i => (i.zero, i.size, i.bytes)) = some (some (.int .u8 0), 1, 1) := by kernel_rfl
set_option maxRecDepth 100000 in
set_option maxHeartbeats 400000 in
theorem wide_bytes (A : Option Addr) (n c B : Nat) (w : World) (l : List UInt8) (hn : n = l.length) (h47 : n ≤ 140737488351232) (hr : Row w B A (l.map bv)) (hB : B ≤ w.heap.size) :
    Calls Tryd.prog 81 #[.slice A n c] w fun e w' => ∃ g, e = .returned (.slice (some ⟨g, 0, none⟩) n (n + 64)) ∧ Blk w' g 5 (l.map bv ++ marksB l.length) ∧ Below w.heap.size w w' ∧ g = w.heap.size := by
  obtain ⟨i0, hi, hz, hs, hb⟩ := info_parts Tryd.info_u8
  have hmk := fun W => run_make_zeros (P := Tryd.prog) 24 5 i0 (.int .u8 0) 1 Tryd.underlying24 hi hz rfl hs hb ((n : Int) + 64) (n + 64) (by omega) (by omega) (by omega) W
  clear hi hz hs hb
  have Hr := Lib.hid hr; clear hr
  have Hn := Lib.hid hn; clear hn
  have HB := Lib.hid hB; clear hB
  go_enter Tryd.func81, Tryd.ntmps81
  go_wp2
  go_loopw [4] (fun i wr => WideRel l w.heap.size w i wr) (fun i _ => n + 64 - (intOf i).toNat)
  case atStart =>
    refine ⟨0, List.replicate (n + 64) (.int .u8 0), by omega, rfl, by simp [Hn.out], Blk.new _ _ _, by simp, ?_⟩
    exact (Below.refl _ _).alloc (Nat.le_refl _) _
  case round =>
    obtain ⟨k, xs, hk, rfl, hlen, hblk, htake, hbel⟩ := hrel
    have Ht := Lib.hid htake; clear htake
    have Hb := Lib.hid hblk; clear hblk
    have Hbel := Lib.hid hbel; clear hbel
    have Hlen := Lib.hid hlen; clear hlen
    rw [← Hn.out] at hk
    by_cases hlt : k < n + 64
    · have hx : xs[k]? = some (xs[k]'(by rw [Hlen.out, ← Hn.out]; exact hlt)) := List.getElem?_eq_getElem _
      have hcell := (Hb.out.cell k).trans hx
      clear hx
      generalize xs[k]'(by rw [Hlen.out, ← Hn.out]; exact hlt) = old at *
      have hfr := Hb.out.frozen k
      have hget := Lib.hid (wide_get l k (by rw [← Hn.out]; exact hlt))
      rw [← Hn.out] at hget
      have hi : (0 : Int) ≤ k := by omega
      have hi2 : (k : Int) < n + 64 := by omega
      by_cases hkn : k < n
      · obtain ⟨b, o, rfl, hbB, hc0⟩ := Hr.out.byte (j := k) (by rw [← Hn.out]; exact hkn)
        have hc1 : wr.cell? ⟨b, o + k, none⟩ = some (.int .u8 ((l[k]?.getD 0).toNat : Int)) := (Hbel.out.cell (by show b < _; have := HB.out; omega)).trans hc0
        clear hc0
        rw [if_pos hkn] at hget
        generalize (l[k]?.getD 0).toNat = x at *
        go_wp2
        exact ⟨⟨k + 1, xs.set k (.int .u8 x), by rw [← Hn.out]; omega, by go_num, by rw [List.length_set, Hlen.out], Hb.out.set k _, take_set_next Ht.out (by rw [Hlen.out, ← Hn.out]; exact hlt) (by rw [← Hn.out]; exact hget.out), Hbel.out.setCell (by exact Nat.le_refl _) _⟩, by simp [intOf]; omega⟩
      · rw [if_neg hkn] at hget
        have e : markB k = .int .u8 ((279 + 7 * (k : Int) + 3) % 256) := by unfold markB; congr 1; omega
        rw [e] at hget
        clear e
        go_wp2
        exact ⟨⟨k + 1, xs.set k (.int .u8 ((279 + 7 * (k : Int) + 3) % 256)), by rw [← Hn.out]; omega, by go_num, by rw [List.length_set, Hlen.out], Hb.out.set k _, take_set_next Ht.out (by rw [Hlen.out, ← Hn.out]; exact hlt) (by rw [← Hn.out]; exact hget.out), Hbel.out.setCell (by exact Nat.le_refl _) _⟩, by simp [intOf]; omega⟩
    · have hk2 : Hid (k = n + 64) := Lib.hid (by omega)
      have hge : ¬ ((k : Int) < n + 64) := by omega
      clear hk hlt
      go_wp2
      go_ret
      refine ⟨w.heap.size, rfl, ?_, Hbel.out, rfl⟩
      have h1 := Ht.out
      rw [List.take_of_length_le (by rw [Hlen.out, hk2.out, Hn.out]; exact Nat.le_refl _), List.take_of_length_le (by rw [List.length_append, marksB_len, List.length_map, hk2.out, Hn.out]; exact Nat.le_refl _)] at h1
      rw [← h1]
      exact Hb.out

def SpareRel (n : Nat) (w : World) (i : Value) (wr : World) : Prop := ∃ k : Nat, (n ≤ k ∧ k ≤ n + 64) ∧ i = .int .i64 k ∧ wr = w
set_option maxRecDepth 100000 in
set_option maxHeartbeats 400000 in
theorem spare_bytes (b o n c : Nat) (w : World) (h47 : n ≤ 140737488351232) (hc : n + 64 ≤ c) (hm : ∀ j, n ≤ j → j < n + 64 → w.cell? ⟨b, o + j, none⟩ = some (markB j)) :
    Calls Tryd.prog 83 #[.slice (some ⟨b, o, none⟩) n c] w fun e w' => w = w' ∧ e = .returned (.bool true) := by
  have Hm := Lib.hid hm; clear hm
  have hc2 : (n : Int) + 64 ≤ c := by omega
  go_enter Tryd.func83, Tryd.ntmps83
  go_wp2
  go_loopw [4] (fun i wr => SpareRel n w i wr) (fun i _ => n + 64 - (intOf i).toNat)
  case atStart => exact ⟨n, ⟨Nat.le_refl _, by omega⟩, rfl, rfl⟩
  case round =>
    obtain ⟨k, ⟨hk0, hk1⟩, rfl, rfl⟩ := hrel
    by_cases hlt : k < n + 64
    · have hcell := Hm.out k hk0 hlt
      rw [show markB k = .int .u8 ((279 + 7 * (k : Int) + 3) % 256) from by unfold markB; congr 1; omega] at hcell
      have hi : (0 : Int) ≤ k := by omega
      have hi2 : (k : Int) < n + 64 := by omega
      have heq : ((279 + 7 * (k : Int) + 3) % 256 == (279 + 7 * (k : Int) + 3) % 256) = true := by simp
      clear hk1
      go_wp2
      exact ⟨⟨k + 1, ⟨by omega, by omega⟩, by go_num, rfl⟩, by simp [intOf]; omega⟩
    · have hge : ¬ ((k : Int) < n + 64) := by omega
      go_wp2
      go_ret
      exact ⟨rfl, rfl⟩
end Go.Proofs.YtndkhlafpcedbaaDoor
