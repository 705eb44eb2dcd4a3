/- The document's memory (layer 13): what it is in the world; New, Size. -/
import Derived.Test.YtndkhlafpcedbaaDoorPagesA
namespace Go.Proofs.YtndkhlafpcedbaaDoor
set_option linter.unusedVariables false
open Go.RowKit
/-- The document's memory: its block, its bytes, the most pages, the marks' block, the marks. -/
structure RefM where
  p : Nat
  A : Option Addr
  c : Nat
  B : List UInt8
  most : Nat
  mb : Nat
  d : List Bool
def RefM.cells (m : RefM) : List Value := [.slice m.A m.B.length m.c, .int .i64 m.most, .slice (some ⟨m.mb, 0, none⟩) 64 64]
structure RAt (base : Nat) (w : World) (m : RefM) : Prop where
  own : Blk w m.p 111 m.cells
  row : w.ownsRow base 5 1 (.slice m.A m.B.length m.c) m.B.length (m.B.map bv)
  marks : Blk w m.mb 4 (m.d.map .bool)
  dl : m.d.length = 64
  most : m.most ≤ 64
  len : ∃ k, m.B.length = 4096 * k ∧ k ≤ 64
  low : base ≤ m.p ∧ base ≤ m.mb
theorem RAt.below {base : Nat} {w w' : World} {m : RefM} (h : RAt base w m) (hb : Below w.heap.size w w') : RAt base w' m :=
  ⟨(hb.block _ h.own.lt).trans h.own, own_keptz h.row hb, (hb.block _ h.marks.lt).trans h.marks, h.dl, h.most, h.len, h.low⟩
theorem RAt.drewN {base : Nat} {w : World} {m : RefM} (h : RAt base w m) (k : Nat) : RAt base (w.drewN k) m := ⟨h.own, h.row, h.marks, h.dl, h.most, h.len, h.low⟩
theorem Tryd.info_bool : (Tryd.prog.info? 4).map (fun i => (i.zero, i.size, i.bytes)) = some (some (.bool false), 1, 1) := by kernel_rfl
theorem zrow_list (v : Value) (n : Nat) : (zrow v n).toList = List.replicate n v := by simp [zrow]
theorem own_zrow (w : World) (e : TypeId) (v : Value) (n : Nat) (h : n ≤ 140737488351232) : (w.alloc (.cells (zrow v n) e)).ownsRow w.heap.size e 1 (.slice (some ⟨w.heap.size, 0, none⟩) n n) n (List.replicate n v) := by
  have hb2 := Blk.new w e (zrow v n).toList
  unfold Blk at hb2
  refine ⟨by simp, .inr ⟨w.heap.size, n, zrow v n, rfl, Nat.le_refl _, by simpa using hb2, Nat.le_refl _, by unfold maxLen; omega, ?_, ?_⟩⟩ <;> simp [zrow]
theorem blk_zrow (w : World) (e : TypeId) (v : Value) (n : Nat) : Blk (w.alloc (.cells (zrow v n) e)) w.heap.size e (List.replicate n v) := by
  have hb2 := Blk.new w e (zrow v n).toList
  rw [zrow_list] at hb2
  have : (List.replicate n v).toArray = zrow v n := by rw [← zrow_list]
  rwa [this] at hb2
theorem rnew1 (w : World) (n most : Nat) (hn : n ≤ most) (hm : most ≤ 64) : RAt w.heap.size (((w.alloc (.cells (zrow (.int .u8 0) (n * 4096)) 5)).alloc (.cells (zrow (.bool false) 64) 4)).alloc (.cells #[.slice (some ⟨w.heap.size, 0, none⟩) (n * 4096) (n * 4096), .int .i64 most, .slice (some ⟨w.heap.size + 1, 0, none⟩) 64 64] 111)).drew ⟨w.heap.size + 1 + 1, some ⟨w.heap.size, 0, none⟩, n * 4096, List.replicate (4096 * n) 0, most, w.heap.size + 1, List.replicate 64 false⟩ := by
  have h1 := ((own_zrow w 5 (.int .u8 0) (n * 4096) (by omega)).alloc (.cells (zrow (.bool false) 64) 4)).alloc (.cells #[.slice (some ⟨w.heap.size, 0, none⟩) (n * 4096) (n * 4096), .int .i64 most, .slice (some ⟨w.heap.size + 1, 0, none⟩) 64 64] 111)
  have h2 := (blk_zrow (w.alloc (.cells (zrow (.int .u8 0) (n * 4096)) 5)) 4 (.bool false) 64).alloc (.cells #[.slice (some ⟨w.heap.size, 0, none⟩) (n * 4096) (n * 4096), .int .i64 most, .slice (some ⟨w.heap.size + 1, 0, none⟩) 64 64] 111)
  have h3 := Blk.new ((w.alloc (.cells (zrow (.int .u8 0) (n * 4096)) 5)).alloc (.cells (zrow (.bool false) 64) 4)) 111 [.slice (some ⟨w.heap.size, 0, none⟩) (n * 4096) (n * 4096), .int .i64 most, .slice (some ⟨w.heap.size + 1, 0, none⟩) 64 64]
  rw [World.size_alloc, World.size_alloc] at h3
  rw [World.size_alloc] at h2
  refine ⟨?_, ?_, ?_, List.length_replicate, hm, ⟨n, List.length_replicate, by omega⟩, ⟨by show _ ≤ w.heap.size + 1 + 1; omega, by show _ ≤ w.heap.size + 1; omega⟩⟩
  · unfold RefM.cells
    rw [show (List.replicate (4096 * n) (0 : UInt8)).length = n * 4096 from by rw [List.length_replicate]; omega]
    exact h3
  · show World.ownsRow _ _ _ _ (.slice _ (List.replicate (4096 * n) (0 : UInt8)).length _) (List.replicate (4096 * n) (0 : UInt8)).length _
    rw [show (List.replicate (4096 * n) (0 : UInt8)).length = n * 4096 from by rw [List.length_replicate]; omega, List.map_replicate, show 4096 * n = n * 4096 from by omega]
    exact h1
  · rw [List.map_replicate]
    exact h2
theorem rnew2 (w : World) (n most : Nat) (hn : n ≤ most) (hm : most ≤ 64) : RAt w.heap.size (((w.alloc (.cells (zrow (.bool false) 64) 4)).alloc (.cells (zrow (.int .u8 0) (n * 4096)) 5)).alloc (.cells #[.slice (some ⟨w.heap.size + 1, 0, none⟩) (n * 4096) (n * 4096), .int .i64 most, .slice (some ⟨w.heap.size, 0, none⟩) 64 64] 111)).drew ⟨w.heap.size + 1 + 1, some ⟨w.heap.size + 1, 0, none⟩, n * 4096, List.replicate (4096 * n) 0, most, w.heap.size, List.replicate 64 false⟩ := by
  have h1 := (own_zrow (w.alloc (.cells (zrow (.bool false) 64) 4)) 5 (.int .u8 0) (n * 4096) (by omega)).alloc (.cells #[.slice (some ⟨w.heap.size + 1, 0, none⟩) (n * 4096) (n * 4096), .int .i64 most, .slice (some ⟨w.heap.size, 0, none⟩) 64 64] 111)
  have h2 := ((blk_zrow w 4 (.bool false) 64).alloc (.cells (zrow (.int .u8 0) (n * 4096)) 5)).alloc (.cells #[.slice (some ⟨w.heap.size + 1, 0, none⟩) (n * 4096) (n * 4096), .int .i64 most, .slice (some ⟨w.heap.size, 0, none⟩) 64 64] 111)
  have h3 := Blk.new ((w.alloc (.cells (zrow (.bool false) 64) 4)).alloc (.cells (zrow (.int .u8 0) (n * 4096)) 5)) 111 [.slice (some ⟨w.heap.size + 1, 0, none⟩) (n * 4096) (n * 4096), .int .i64 most, .slice (some ⟨w.heap.size, 0, none⟩) 64 64]
  rw [World.size_alloc, World.size_alloc] at h3
  rw [World.size_alloc] at h1
  refine ⟨?_, ?_, ?_, List.length_replicate, hm, ⟨n, List.length_replicate, by omega⟩, ⟨by show _ ≤ w.heap.size + 1 + 1; omega, by show _ ≤ w.heap.size; omega⟩⟩
  · unfold RefM.cells
    rw [show (List.replicate (4096 * n) (0 : UInt8)).length = n * 4096 from by rw [List.length_replicate]; omega]
    exact h3
  · show World.ownsRow _ _ _ _ (.slice _ (List.replicate (4096 * n) (0 : UInt8)).length _) (List.replicate (4096 * n) (0 : UInt8)).length _
    rw [show (List.replicate (4096 * n) (0 : UInt8)).length = n * 4096 from by rw [List.length_replicate]; omega, List.map_replicate, show 4096 * n = n * 4096 from by omega]
    exact World.ownsRow.mono h1 (by omega)
  · rw [List.map_replicate]
    exact h2
def RNewPost (n most : Nat) (w : World) (e : Ending) (w' : World) : Prop :=
  ∃ m : RefM, e = .returned (.tuple #[.pointer (some ⟨m.p, 0, none⟩), .int .i64 0]) ∧ m.most = most ∧ m.B = List.replicate (4096 * n) 0 ∧ m.d = List.replicate 64 false ∧ RAt w.heap.size w' m ∧ Below w.heap.size w w'
set_option maxRecDepth 100000 in
set_option maxHeartbeats 1000000 in
theorem ref13_New (n most : Nat) (hn : n ≤ most) (hm : most ≤ 64) (w : World) :
    Calls Tryd.prog 20 #[.int .i64 n, .int .i64 most] w (RNewPost n most w) := by
  have q1 : decide ((n : Int) < 0) = false := by simp
  have q2 : ¬ (64 : Int) < most := by omega
  have q3 : decide ((64 : Int) < most) = false := by simp; omega
  have q4 : decide (most < n) = false := by simp; omega
  obtain ⟨i0, hi, hz, hs', hb⟩ := info_parts Tryd.info_u8
  have hmk := fun W => run_make_zeros (P := Tryd.prog) 24 5 i0 (.int .u8 0) 1 Tryd.underlying24 hi hz rfl hs' hb ((n : Int) * 4096) (n * 4096) (by omega) (by omega) (by omega) W
  obtain ⟨i1, hi1, hz1, hs1, hb1⟩ := info_parts Tryd.info_bool
  have hmk2 := fun W => run_make_zeros (P := Tryd.prog) 109 4 i1 (.bool false) 1 Tryd.underlying109 hi1 hz1 rfl hs1 hb1 (64 : Int) 64 (by omega) (by omega) (by omega) W
  clear hi hz hs' hb hi1 hz1 hs1 hb1
  go_enter Tryd.func20, Tryd.ntmps20
  go_wp2_with fail
  have hP1 := Lib.hid (rnew1 w n most hn hm)
  have hP2 := Lib.hid (rnew2 w n most hn hm)
  go_region
  · go_wp2_with fail
    go_ret2
    exact ⟨_, rfl, rfl, rfl, rfl, hP1.out, ((((Below.refl _ _).alloc (Nat.le_refl _) _).alloc (by simp) _).alloc (by simp; omega) _).drew⟩
  · go_wp2_with fail
    go_ret2
    exact ⟨_, rfl, rfl, rfl, rfl, hP2.out, ((((Below.refl _ _).alloc (Nat.le_refl _) _).alloc (by simp) _).alloc (by simp; omega) _).drew⟩
set_option maxRecDepth 100000 in
theorem ref13_New_bad (n most : Int) (h : newBad n most) (w : World) :
    Calls Tryd.prog 20 #[.int .i64 n, .int .i64 most] w fun e w' => w = w' ∧ e = .returned (.tuple #[.pointer none, .int .i64 1]) := by
  unfold newBad at h
  by_cases h1 : n < 0
  · clear h
    go_enter Tryd.func20, Tryd.ntmps20
    go_wp2_with fail
    go_ret2
    exact ⟨rfl, rfl⟩
  · have q1 : decide (n < 0) = false := decide_eq_false h1
    by_cases h2 : most < n
    · clear h h1
      go_enter Tryd.func20, Tryd.ntmps20
      go_wp2_with fail
      go_ret2
      exact ⟨rfl, rfl⟩
    · have q2 : decide (most < n) = false := decide_eq_false h2
      have h3 : 64 < most := by omega
      clear h h1 h2
      go_enter Tryd.func20, Tryd.ntmps20
      go_wp2_with fail
      go_ret2
      exact ⟨rfl, rfl⟩
theorem ref13_Size (base : Nat) (m : RefM) (w : World) (h : RAt base w m) :
    Calls Tryd.prog 27 #[.pointer (some ⟨m.p, 0, none⟩)] w fun e w' => w = w' ∧ e = .returned (.int .i64 ((m.B.length / 4096 : Nat) : Int)) := by
  have hc0 : w.cell? ⟨m.p, 0, none⟩ = some (.slice m.A m.B.length m.c) := h.own.cell 0
  have hl : m.B.length ≤ 4096 * 64 := by obtain ⟨k, h1, h2⟩ := h.len; omega
  clear h
  go_enter Tryd.func27, Tryd.ntmps27
  go_wp2_with fail
  go_ret
  exact ⟨rfl, rfl⟩
end Go.Proofs.YtndkhlafpcedbaaDoor
