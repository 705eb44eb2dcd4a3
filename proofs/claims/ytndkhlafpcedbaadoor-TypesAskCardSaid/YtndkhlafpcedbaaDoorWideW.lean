/- flagonref00.WideWords: a copy with marks behind it; SpareWords: do the marks stand? -/
import Derived.Test.YtndkhlafpcedbaaDoorProg
import Derived.Test.YtndkhlafpcedbaaDoorMem
import Derived.Test.YtndkhlafpcedbaaDoorShapeP
import Derived.Test.YtndkhlafpcedbaaDoorBagN
import Derived.Handy
namespace Go.Proofs.YtndkhlafpcedbaaDoor
set_option linter.unusedVariables false
open Go.RowKit
/-- The mark that the statements lay at place 'i' behind a list of words. -/
def markW (i : Nat) : Value := .int .u64 ((1048576 * 9 + i + 1 : Nat) : Int)
theorem markW_form (i : Nat) (hi : i ≤ 10000100) : ∃ x : Nat, markW i = .int .u64 (x : Int) ∧ x < 4611686018427387904 ∧ ∀ w, Calls Tryd.prog 90 #[.int .i64 9, .int .i64 (i : Int)] w fun e w' => e = .returned (.int .i64 (x : Int)) ∧ w = w' :=
  ⟨1048576 * 9 + i + 1, rfl, by omega, fun w => bag_num 9 i (by omega) hi w⟩
def marksW (n : Nat) : List Value := (List.range 64).map fun j => markW (n + j)
theorem marksW_get (n j : Nat) (h : j < 64) : (marksW n)[j]? = some (markW (n + j)) := by
  unfold marksW
  rw [List.getElem?_map, List.getElem?_range h]; rfl
theorem marksW_len (n : Nat) : (marksW n).length = 64 := by simp [marksW]
theorem wide_getW (l : List Nat) (k : Nat) (hk : k < l.length + 64) : (l.map uv ++ marksW l.length)[k]? = some (if k < l.length then .int .u64 ((l[k]?.getD 0 : Nat) : Int) else markW k) := by
  by_cases h : k < l.length
  · rw [List.getElem?_append_left (by simpa using h), if_pos h, List.getElem?_map, List.getElem?_eq_getElem h]; rfl
  · rw [List.getElem?_append_right (by simpa using Nat.le_of_not_lt h), if_neg h, List.length_map, marksW_get _ _ (by omega)]
    congr 2; omega
def WideRelW (l : List Nat) (g : Nat) (w : World) (i : Value) (wr : World) : Prop :=
  ∃ (k : Nat) (xs : List Value), k ≤ l.length + 64 ∧ i = .int .i64 k ∧ xs.length = l.length + 64 ∧ Blk wr g 22 xs ∧ xs.take k = (l.map uv ++ marksW l.length).take k ∧ Below g w wr
theorem Tryd.info_u64w : (Tryd.prog.info? 22).map (fun i => (i.zero, i.size, i.bytes)) = some (some (.int .u64 0), 1, 8) := by kernel_rfl
set_option maxRecDepth 100000 in
set_option maxHeartbeats 400000 in
theorem wide_words (A : Option Addr) (n c B : Nat) (w : World) (l : List Nat) (hn : n = l.length) (h47 : n ≤ 9000000) (hr : Row w B A (l.map uv)) (hB : B ≤ w.heap.size) :
    Calls Tryd.prog 44 #[.slice A n c] w fun e w' => ∃ g, e = .returned (.slice (some ⟨g, 0, none⟩) n (n + 64)) ∧ Blk w' g 22 (l.map uv ++ marksW l.length) ∧ Below w.heap.size w w' ∧ g = w.heap.size := by
  obtain ⟨i0, hi, hz, hs, hb⟩ := info_parts Tryd.info_u64w
  have hmk := fun W => run_make_zeros (P := Tryd.prog) 82 22 i0 (.int .u64 0) 8 Tryd.underlying82 hi hz rfl hs hb ((n : Int) + 64) (n + 64) (by omega) (by omega) (by omega) W
  clear hi hz hs hb
  have Hr := Lib.hid hr; clear hr
  have Hn := Lib.hid hn; clear hn
  have HB := Lib.hid hB; clear hB
  go_enter Tryd.func44, Tryd.ntmps44
  go_wp2
  go_loopw [4] (fun i wr => WideRelW l w.heap.size w i wr) (fun i _ => n + 64 - (intOf i).toNat)
  case atStart =>
    refine ⟨0, List.replicate (n + 64) (.int .u64 0), by omega, rfl, by simp [Hn.out], Blk.new _ _ _, by simp, ?_⟩
    exact (Below.refl _ _).alloc (Nat.le_refl _) _
  case round =>
    obtain ⟨k, xs, hk, rfl, hlen, hblk, htake, hbel⟩ := hrel
    have Ht := Lib.hid htake; clear htake
    have Hb := Lib.hid hblk; clear hblk
    have Hbel := Lib.hid hbel; clear hbel
    have Hlen := Lib.hid hlen; clear hlen
    rw [← Hn.out] at hk
    by_cases hlt : k < n + 64
    · have hx : xs[k]? = some (xs[k]'(by rw [Hlen.out, ← Hn.out]; exact hlt)) := List.getElem?_eq_getElem _
      have hcell := (Hb.out.cell k).trans hx
      clear hx
      generalize xs[k]'(by rw [Hlen.out, ← Hn.out]; exact hlt) = old at *
      have hfr := Hb.out.frozen k
      have hget := Lib.hid (wide_getW l k (by rw [← Hn.out]; exact hlt))
      rw [← Hn.out] at hget
      have hi : (0 : Int) ≤ k := by omega
      have hi2 : (k : Int) < n + 64 := by omega
      by_cases hkn : k < n
      · obtain ⟨b, o, rfl, hbB, hc0⟩ := Hr.out.word (j := k) (by rw [← Hn.out]; exact hkn)
        have hc1 : wr.cell? ⟨b, o + k, none⟩ = some (.int .u64 ((l[k]?.getD 0 : Nat) : Int)) := (Hbel.out.cell (by show b < _; have := HB.out; omega)).trans hc0
        clear hc0
        rw [if_pos hkn] at hget
        generalize l[k]?.getD 0 = x at *
        go_wp2
        exact ⟨⟨k + 1, xs.set k (.int .u64 x), by rw [← Hn.out]; omega, by go_num, by rw [List.length_set, Hlen.out], Hb.out.set k _, take_set_next Ht.out (by rw [Hlen.out, ← Hn.out]; exact hlt) (by rw [← Hn.out]; exact hget.out), Hbel.out.setCell (by exact Nat.le_refl _) _⟩, by simp [intOf]; omega⟩
      · rw [if_neg hkn] at hget
        obtain ⟨x, hx, hxb, hnum⟩ := markW_form k (by omega)
        rw [hx] at hget
        have HNum := Lib.hid hnum; clear hnum
        go_wp2_with (go_at_call 90; refine (HNum.out _).mono ?_; rintro e w' ⟨rfl, rfl⟩)
        exact ⟨⟨k + 1, xs.set k (.int .u64 x), by rw [← Hn.out]; omega, by go_num, by rw [List.length_set, Hlen.out], Hb.out.set k _, take_set_next Ht.out (by rw [Hlen.out, ← Hn.out]; exact hlt) (by rw [← Hn.out]; exact hget.out), Hbel.out.setCell (by exact Nat.le_refl _) _⟩, by simp [intOf]; omega⟩
    · have hk2 : Hid (k = n + 64) := Lib.hid (by omega)
      have hge : ¬ ((k : Int) < n + 64) := by omega
      clear hk hlt
      go_wp2
      go_ret
      refine ⟨w.heap.size, rfl, ?_, Hbel.out, rfl⟩
      have h1 := Ht.out
      rw [List.take_of_length_le (by rw [Hlen.out, hk2.out, Hn.out]; exact Nat.le_refl _), List.take_of_length_le (by rw [List.length_append, marksW_len, List.length_map, hk2.out, Hn.out]; exact Nat.le_refl _)] at h1
      rw [← h1]
      exact Hb.out

def SpareRelW (n : Nat) (w : World) (i : Value) (wr : World) : Prop := ∃ k : Nat, (n ≤ k ∧ k ≤ n + 64) ∧ i = .int .i64 k ∧ wr = w
set_option maxRecDepth 100000 in
set_option maxHeartbeats 400000 in
theorem spare_words (b o n c : Nat) (w : World) (h47 : n ≤ 9000000) (hc : n + 64 ≤ c) (hm : ∀ j, n ≤ j → j < n + 64 → w.cell? ⟨b, o + j, none⟩ = some (markW j)) :
    Calls Tryd.prog 59 #[.slice (some ⟨b, o, none⟩) n c] w fun e w' => w = w' ∧ e = .returned (.bool true) := by
  have Hm := Lib.hid hm; clear hm
  have hc2 : (n : Int) + 64 ≤ c := by omega
  go_enter Tryd.func59, Tryd.ntmps59
  go_wp2
  go_loopw [4] (fun i wr => SpareRelW n w i wr) (fun i _ => n + 64 - (intOf i).toNat)
  case atStart => exact ⟨n, ⟨Nat.le_refl _, by omega⟩, rfl, rfl⟩
  case round =>
    obtain ⟨k, ⟨hk0, hk1⟩, rfl, rfl⟩ := hrel
    by_cases hlt : k < n + 64
    · have hcell := Hm.out k hk0 hlt
      obtain ⟨x, hx, hxb, hnum⟩ := markW_form k (by omega)
      rw [hx] at hcell
      have HNum := Lib.hid hnum; clear hnum
      have hi : (0 : Int) ≤ k := by omega
      have hi2 : (k : Int) < n + 64 := by omega
      clear hk1 hx
      go_wp2_with (go_at_call 90; refine (HNum.out _).mono ?_; rintro e w' ⟨rfl, rfl⟩)
      exact ⟨⟨k + 1, ⟨by omega, by omega⟩, by go_num, rfl⟩, by simp [intOf]; omega⟩
    · have hge : ¬ ((k : Int) < n + 64) := by omega
      go_wp2
      go_ret
      exact ⟨rfl, rfl⟩
end Go.Proofs.YtndkhlafpcedbaaDoor
