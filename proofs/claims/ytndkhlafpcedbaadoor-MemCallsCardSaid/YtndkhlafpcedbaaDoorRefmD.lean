/- The document's memory: Load, Store, Dirty, Clean. -/
import Derived.Test.YtndkhlafpcedbaaDoorRefmA
import Derived.Test.YtndkhlafpcedbaaDoorMemI
import Derived.Test.YtndkhlafpcedbaaDoorMemA
import Derived.Test.YtndkhlafpcedbaaDoorAppM
import Derived.StillTailTactics
namespace Go.Proofs.YtndkhlafpcedbaaDoor
set_option linter.unusedVariables false
open Go.RowKit
/-- The blocks on which the document's memory stands. -/
def RefM.foot (m : RefM) (k : Nat) : Prop := k = m.p ∨ k = m.mb ∨ (Value.slice m.A m.B.length m.c).ownBlock = some k
section
variable {base : Nat} {w w' : World} {m : RefM}
theorem RAt.lt (h : RAt base w m) : ∀ k, m.foot k → k < w.heap.size := by
  rintro k (rfl | rfl | hk)
  · exact h.own.lt
  · exact h.marks.lt
  · exact (h.row.lt k hk).2
theorem RAt.ge (h : RAt base w m) : ∀ k, m.foot k → base ≤ k := by
  rintro k (rfl | rfl | hk)
  · exact h.low.1
  · exact h.low.2
  · exact (h.row.lt k hk).1
theorem RAt.keep (h : RAt base w m) (hk : ∀ k, m.foot k → w'.heap[k]? = w.heap[k]?) : RAt base w' m := by
  refine ⟨(hk _ (.inl rfl)).trans h.own, ⟨h.row.1, ?_⟩, (hk _ (.inr (.inl rfl))).trans h.marks, h.dl, h.most, h.len, h.low⟩
  rcases h.row.2 with hn | ⟨g, cap, cur, hv, hb, hg, rest⟩
  · exact .inl hn
  · refine .inr ⟨g, cap, cur, hv, hb, ?_, rest⟩
    rw [hk g (.inr (.inr (by rw [hv]; rfl)))]
    exact hg
theorem RAt.celld (h : RAt base w m) {i : Nat} (hi : i < 64) : w.cell? ⟨m.mb, i, none⟩ = some (.bool (m.d[i]?.getD false)) := by
  rw [h.marks.cell i, List.getElem?_map, List.getElem?_eq_getElem (by rw [h.dl]; exact hi)]
  rfl
theorem RAt.byte (h : RAt base w m) {a : Nat} (ha : a < m.B.length) : ∃ g, m.A = some ⟨g, 0, none⟩ ∧ w.cell? ⟨g, a, none⟩ = some (.int .u8 ((m.B[a]?.getD 0).toNat : Int)) ∧ w.frozen? ⟨g, a, none⟩ = false := by
  rcases h.row.2 with ⟨hv, h0⟩ | ⟨g, cap, cur, hv, hb, hg, _⟩
  · omega
  · have hA : m.A = some ⟨g, 0, none⟩ := by injection hv
    refine ⟨g, hA, ?_, by simp [World.frozen?, hg]⟩
    have := h.row.cells (g := g) (by rw [hA]; rfl) a (bv (m.B[a]?.getD 0)) (by rw [List.getElem?_map, List.getElem?_eq_getElem ha]; rfl)
    rwa [Addr.add_lit, Nat.zero_add] at this
/-- A byte set, its page marked. -/
def RefM.put (m : RefM) (a : Nat) (c : UInt8) : RefM := { m with B := m.B.set a c, d := m.d.set (a / 4096) true }
theorem RefM.put_foot (m : RefM) (a : Nat) (c : UInt8) : (m.put a c).foot = m.foot := by
  funext k
  unfold RefM.foot RefM.put
  simp
theorem RAt.put (h : RAt base w m) {g a : Nat} (hA : m.A = some ⟨g, 0, none⟩) (ha : a < m.B.length) (c : UInt8) : RAt base ((w.setCell ⟨g, a, none⟩ (.int .u8 c.toNat)).setCell ⟨m.mb, a / 4096, none⟩ (.bool true)) (m.put a c) := by
  have hrow := h.row
  rw [hA] at hrow
  have hgm : (Value.slice (some ⟨g, 0, none⟩) m.B.length m.c).ownBlock ≠ some m.mb := own_ne hrow h.marks (by decide)
  have hgp : (Value.slice (some ⟨g, 0, none⟩) m.B.length m.c).ownBlock ≠ some m.p := own_ne hrow h.own (by decide)
  have hgm' : g ≠ m.mb := fun e => hgm (by rw [e]; rfl)
  have hgp' : g ≠ m.p := fun e => hgp (by rw [e]; rfl)
  have hpm : m.p ≠ m.mb := h.own.ne_ h.marks (by decide)
  refine ⟨?_, ?_, ?_, ?_, h.most, ?_, h.low⟩
  · have := Blk.far (Blk.far h.own (p := ⟨g, a, none⟩) (fun e => hgp' e.symm) (.int .u8 c.toNat)) (p := ⟨m.mb, a / 4096, none⟩) hpm (.bool true)
    unfold RefM.cells RefM.put at *
    simpa using this
  · have h1 := (hrow.stored a (.int .u8 c.toNat)).1
    have h2 := h1.kept (row := some m.mb) (w' := (w.setCell ⟨g, a, none⟩ (.int .u8 c.toNat)).setCell ⟨m.mb, a / 4096, none⟩ (.bool true)) ⟨rfl, rfl, rfl, by simp [World.setCell], fun b _ hn => Below.heap_setCell _ _ _ _ (fun e => hn (by rw [e]))⟩ (.inr hgm)
    unfold RefM.put
    simp only [List.length_set, hA]
    rw [List.map_set]
    exact h2
  · have := (Blk.far h.marks (p := ⟨g, a, none⟩) (fun e => hgm' e.symm) (.int .u8 c.toNat)).set (a / 4096) (.bool true)
    unfold RefM.put
    rw [List.map_set]
    exact this
  · unfold RefM.put; rw [List.length_set]; exact h.dl
  · unfold RefM.put; simp only [List.length_set]; exact h.len
theorem RAt.put_kept (h : RAt base w m) {g a : Nat} (hA : m.A = some ⟨g, 0, none⟩) (x y : Value) (j : Nat) : KeptF w ((w.setCell ⟨g, a, none⟩ x).setCell ⟨m.mb, j, none⟩ y) m.foot :=
  (KeptF.setCell (p := ⟨g, a, none⟩) (.inr (.inr (by rw [hA]; rfl))) x).trans (KeptF.setCell (p := ⟨m.mb, j, none⟩) (.inr (.inl rfl)) y)
end
set_option maxRecDepth 100000 in
set_option maxHeartbeats 1000000 in
theorem ref13_lies (base : Nat) (m : RefM) (a : Nat) (n : Int) (w : World) (hm : RAt base w m) (ha : a < 18446744073709551616) :
    Calls Tryd.prog 87 #[.pointer (some ⟨m.p, 0, none⟩), .int .u64 a, .int .i64 n] w fun e w' => w = w' ∧ e = .returned (.bool (liesB m.B.length a n)) := by
  have hc0 : w.cell? ⟨m.p, 0, none⟩ = some (.slice m.A m.B.length m.c) := hm.own.cell 0
  have hL : m.B.length ≤ 262144 := by obtain ⟨k, h1, h2⟩ := hm.len; omega
  generalize m.B.length = L at *
  clear hm
  by_cases hn : n = 1 ∨ n = 2 ∨ n = 4 ∨ n = 8
  · have Hn := Lib.hid hn
    have hn8 : 0 ≤ n ∧ n ≤ 8 := by omega
    have hq : Hid (((n != 1) = false ∧ True) ∨ ((n != 1) = true ∧ (n != 2) = false) ∨ ((n != 1) = true ∧ (n != 2) = true ∧ (n != 4) = false) ∨ ((n != 1) = true ∧ (n != 2) = true ∧ (n != 4) = true ∧ (n != 8) = false)) := by
      refine Lib.hid ?_
      rcases hn with rfl | rfl | rfl | rfl <;> simp
    by_cases h1 : a < L
    · by_cases h2 : n ≤ (L : Int) - a
      · have h1b : decide (a < L) = true := decide_eq_true h1
        have HF : Hid (liesB L a n = true) := Lib.hid (by unfold liesB; exact decide_eq_true ⟨Hn.out, by omega, by omega⟩)
        clear hn
        rcases hq.out with ⟨q1, _⟩ | ⟨q1, q2⟩ | ⟨q1, q2, q4⟩ | ⟨q1, q2, q4, q8⟩ <;>
        · go_enter Tryd.func87, Tryd.ntmps87
          go_wp2_with fail
          go_ret
          exact ⟨rfl, by rw [HF.out]; rfl⟩
      · have h1b : decide (a < L) = true := decide_eq_true h1
        have h2b : decide (n ≤ (L : Int) - a) = false := decide_eq_false h2
        have HF : Hid (liesB L a n = false) := Lib.hid (by unfold liesB; exact decide_eq_false fun h => h2 (by omega))
        clear hn
        rcases hq.out with ⟨q1, _⟩ | ⟨q1, q2⟩ | ⟨q1, q2, q4⟩ | ⟨q1, q2, q4, q8⟩ <;>
        · go_enter Tryd.func87, Tryd.ntmps87
          go_wp2_with fail
          go_ret
          exact ⟨rfl, by rw [HF.out]; rfl⟩
    · have h1b : decide (a < L) = false := decide_eq_false h1
      have HF : Hid (liesB L a n = false) := Lib.hid (by unfold liesB; exact decide_eq_false fun h => h1 (by have := Hn.out; omega))
      clear hn
      rcases hq.out with ⟨q1, _⟩ | ⟨q1, q2⟩ | ⟨q1, q2, q4⟩ | ⟨q1, q2, q4, q8⟩ <;>
      · go_enter Tryd.func87, Tryd.ntmps87
        go_wp2_with fail
        go_ret
        exact ⟨rfl, by rw [HF.out]; rfl⟩
  · have HF : Hid (liesB L a n = false) := Lib.hid (by unfold liesB; simp [hn])
    have q1 : (n != 1) = true := by simp; omega
    have q2 : (n != 2) = true := by simp; omega
    have q4 : (n != 4) = true := by simp; omega
    have q8 : (n != 8) = true := by simp; omega
    clear hn
    go_enter Tryd.func87, Tryd.ntmps87
    go_wp2_with fail
    go_ret
    exact ⟨rfl, by rw [HF.out]; rfl⟩
def RLdRel (B : List UInt8) (a n : Nat) (w : World) (v i : Value) (wr : World) : Prop := ∃ k u : Nat, k ≤ n ∧ i = .int .i64 ((k : Int) - 1) ∧ v = .int .u64 u ∧ u < 256 ^ (n - k) ∧ ld B a n = ld B a k + u * 256 ^ k ∧ wr = w
theorem rld_step (B : List UInt8) (a n k u : Nat) (hk : k < n) (hu : u < 256 ^ (n - (k + 1))) (h : ld B a n = ld B a (k + 1) + u * 256 ^ (k + 1)) : u * 256 + (B[a + k]?.getD 0).toNat < 256 ^ (n - k) ∧ ld B a n = ld B a k + (u * 256 + (B[a + k]?.getD 0).toNat) * 256 ^ k := by
  have hc : (B[a + k]?.getD 0).toNat < 256 := UInt8.toNat_lt _
  have e : n - k = (n - (k + 1)) + 1 := by omega
  refine ⟨by rw [e, Nat.pow_succ]; omega, ?_⟩
  rw [h, ld, Nat.pow_succ, Nat.add_mul, Nat.mul_assoc u 256, Nat.mul_comm 256]
  omega
set_option maxRecDepth 100000 in
set_option maxHeartbeats 1000000 in
theorem ref13_Load (base : Nat) (m : RefM) (a : Nat) (n : Int) (w : World) (hm : RAt base w m) (ha : a < 18446744073709551616) :
    Calls Tryd.prog 32 #[.pointer (some ⟨m.p, 0, none⟩), .int .u64 a, .int .i64 n] w fun e w' => w = w' ∧
      e = .returned (.tuple #[.int .u64 (if liesB m.B.length a n = true then ld m.B a n.toNat else 0 : Nat), .bool (liesB m.B.length a n)]) := by
  have HL := Lib.hid (ref13_lies base m a n w hm ha)
  have HM := Lib.hid hm
  have hc0 : w.cell? ⟨m.p, 0, none⟩ = some (.slice m.A m.B.length m.c) := hm.own.cell 0
  have hbig : m.B.length ≤ 262144 := by obtain ⟨k, h1, h2⟩ := hm.len; omega
  clear hm
  have HLies : Hid (liesB m.B.length a n = true → (n = 1 ∨ n = 2 ∨ n = 4 ∨ n = 8) ∧ n ≤ m.B.length ∧ (a : Int) ≤ m.B.length - n) := Lib.hid (fun h => by unfold liesB at h; exact of_decide_eq_true h)
  cases hb : liesB m.B.length a n with
  | false =>
    rw [hb] at HL
    rw [if_neg (by simp)]
    clear hb HLies
    go_enter Tryd.func32, Tryd.ntmps32
    go_wp2_with fail
    refine HL.out.mono ?_
    rintro e w' ⟨rfl, rfl⟩
    go_wp2_with fail
    go_ret2
    exact ⟨rfl, rfl⟩
  | true =>
    obtain ⟨h1, h2, h3⟩ := HLies.out hb
    rw [hb] at HL
    rw [if_pos rfl]
    obtain ⟨n, rfl⟩ := Int.eq_ofNat_of_zero_le (show 0 ≤ n by omega)
    rw [Int.toNat_natCast]
    have hn8 : n ≤ 8 := by omega
    have hend : a + n ≤ m.B.length := by omega
    clear hb HLies h1 h2 h3
    go_enter Tryd.func32, Tryd.ntmps32
    go_wp2_with fail
    refine HL.out.mono ?_
    rintro e w' ⟨rfl, rfl⟩
    go_wp2_with fail
    go_loopw [8, 9] (fun v i wr => RLdRel m.B a n w v i wr) (fun _ i _ => (intOf i + 1).toNat)
    case atStart => exact ⟨n, 0, Nat.le_refl _, rfl, rfl, by simp, by simp, rfl⟩
    case round =>
      obtain ⟨k, u, hk, rfl, rfl, hu, hld, rfl⟩ := hrel
      have Hu := Lib.hid hu; clear hu
      have Hld := Lib.hid hld; clear hld
      rcases k with _ | k
      · have q0 : decide ((0 : Int) ≤ ((0 : Nat) : Int) - 1) = false := by decide
        go_wp2_with fail
        go_ret2
        refine ⟨rfl, ?_⟩
        rw [Hld.out]
        simp [ld]
      · obtain ⟨g, hA, hcell, _⟩ := HM.out.byte (a := a + k) (by omega)
        obtain ⟨hs1, hs2⟩ := rld_step m.B a n k u (by omega) Hu.out Hld.out
        have Hs1 := Lib.hid hs1; have Hs2 := Lib.hid hs2; clear hs2
        have hc : (m.B[a + k]?.getD 0).toNat < 256 := UInt8.toNat_lt _
        have hp8 := pow256_le (n - k) (by omega)
        have hu64 : u * 256 + (m.B[a + k]?.getD 0).toNat < 18446744073709551616 := by omega
        clear hs1 hp8
        rw [hA] at hc0
        rw [show (((k + 1 : Nat) : Int) - 1) = (k : Int) from by omega]
        generalize hcc : (m.B[a + k]?.getD 0).toNat = c at *
        have Hcc := Lib.hid hcc; clear hcc
        have hk0 : (0 : Int) ≤ (k : Int) := by omega
        have hak : (a : Int) + k < m.B.length := by omega
        have hak0 : (0 : Int) ≤ (a : Int) + k := by omega
        have hak9 : (a : Int) < 9223372036854775808 := by omega
        have hu0 : (0 : Int) ≤ (u : Int) * 256 := by omega
        have hu1 : (u : Int) * 256 < 18446744073709551616 := by omega
        have hu2 : (u : Int) * 256 + c < 18446744073709551616 := by omega
        go_wp2_with fail
        exact ⟨⟨k, u * 256 + c, by omega, by go_num, by go_num, Hs1.out, Hs2.out, rfl⟩, by simp [intOf]⟩
end Go.Proofs.YtndkhlafpcedbaaDoor
namespace Go.Proofs.YtndkhlafpcedbaaDoor
set_option linter.unusedVariables false
open Go.RowKit
def RefM.store (m : RefM) (a v k : Nat) : RefM := { m with B := st m.B a v k, d := dt m.d a k }
theorem RefM.store_succ (m : RefM) (a v k : Nat) : m.store a v (k + 1) = (m.store a v k).put (a + k) (UInt8.ofNat (v / 256 ^ k % 256)) := rfl
theorem RefM.store_foot (m : RefM) (a v k : Nat) : (m.store a v k).foot = m.foot := by
  funext j
  unfold RefM.foot RefM.store
  simp [st_len]
def RStRel (base : Nat) (m : RefM) (a v n : Nat) (w : World) (x i : Value) (wr : World) : Prop := ∃ k : Nat, k ≤ n ∧ i = .int .i64 k ∧ x = .int .u64 ((v / 256 ^ k : Nat) : Int) ∧ RAt base wr (m.store a v k) ∧ KeptF w wr m.foot
set_option maxRecDepth 100000 in
set_option maxHeartbeats 1000000 in
theorem ref13_Store (base : Nat) (m : RefM) (a v : Nat) (n : Int) (w : World) (hm : RAt base w m) (ha : a < 18446744073709551616) (hv : v < 18446744073709551616) :
    Calls Tryd.prog 34 #[.pointer (some ⟨m.p, 0, none⟩), .int .u64 a, .int .i64 n, .int .u64 v] w fun e w' =>
      e = .returned (.bool (liesB m.B.length a n)) ∧ RAt base w' (if liesB m.B.length a n = true then m.store a v n.toNat else m) ∧ KeptF w w' m.foot := by
  have HL := Lib.hid (ref13_lies base m a n w hm ha)
  have HM := Lib.hid hm
  have hbig : m.B.length ≤ 262144 := by obtain ⟨k, h1, h2⟩ := hm.len; omega
  clear hm
  have HLies : Hid (liesB m.B.length a n = true → (n = 1 ∨ n = 2 ∨ n = 4 ∨ n = 8) ∧ n ≤ m.B.length ∧ (a : Int) ≤ m.B.length - n) := Lib.hid (fun h => by unfold liesB at h; exact of_decide_eq_true h)
  cases hb : liesB m.B.length a n with
  | false =>
    rw [hb] at HL
    rw [if_neg (by simp)]
    clear hb HLies
    go_enter Tryd.func34, Tryd.ntmps34
    go_wp2_with fail
    refine HL.out.mono ?_
    rintro e w' ⟨rfl, rfl⟩
    go_wp2_with fail
    go_ret
    exact ⟨rfl, HM.out, KeptF.refl _ _⟩
  | true =>
    obtain ⟨h1, h2, h3⟩ := HLies.out hb
    rw [hb] at HL
    rw [if_pos rfl]
    obtain ⟨n, rfl⟩ := Int.eq_ofNat_of_zero_le (show 0 ≤ n by omega)
    rw [Int.toNat_natCast]
    have hn8 : n ≤ 8 := by omega
    have hend : a + n ≤ m.B.length := by omega
    clear hb HLies h1 h2 h3
    go_enter Tryd.func34, Tryd.ntmps34
    go_wp2_with fail
    refine HL.out.mono ?_
    rintro e w' ⟨rfl, rfl⟩
    go_wp2_with fail
    go_loopw [3, 9] (fun x i wr => RStRel base m a v n w x i wr) (fun _ i _ => n - (intOf i).toNat)
    case atStart => exact ⟨0, Nat.zero_le _, rfl, by simp, HM.out, KeptF.refl _ _⟩
    case round =>
      obtain ⟨k, hk, rfl, rfl, hmk, hkept⟩ := hrel
      have HMk := Lib.hid hmk; clear hmk
      have HKept := Lib.hid hkept; clear hkept
      by_cases hlt : k < n
      · have hl : (m.store a v k).B.length = m.B.length := st_len _ _ _ _
        obtain ⟨g, hA, hcell, hfr⟩ := HMk.out.byte (a := a + k) (by rw [hl]; omega)
        have hA' : m.A = some ⟨g, 0, none⟩ := hA
        have hc0 : wr.cell? ⟨m.p, 0, none⟩ = some (.slice (some ⟨g, 0, none⟩) m.B.length m.c) := by
          have := HMk.out.own.cell 0
          rw [show (m.store a v k).p = m.p from rfl] at this
          rw [this]
          unfold RefM.cells
          rw [hl, show (m.store a v k).A = m.A from rfl, hA', show (m.store a v k).c = m.c from rfl]
          rfl
        have hrow := HMk.out.row
        rw [hA] at hrow
        have hgp : g ≠ m.p := fun e => own_ne hrow HMk.out.own (by decide) (by rw [e]; rfl)
        have hgm : g ≠ m.mb := fun e => own_ne hrow HMk.out.marks (by decide) (by rw [e]; rfl)
        clear hrow
        have hpp : (v / 256 ^ k) / 256 = v / 256 ^ (k + 1) := by rw [Nat.div_div_eq_div_mul, ← Nat.pow_succ]
        have Hpp := Lib.hid hpp; clear hpp
        have hqb : v / 256 ^ k < 18446744073709551616 := Nat.lt_of_le_of_lt (Nat.div_le_self _ _) hv
        have HPut := Lib.hid (HMk.out.put hA (a := a + k) (by rw [hl]; omega) (UInt8.ofNat (v / 256 ^ k % 256)))
        have HPk := Lib.hid (HMk.out.put_kept hA (a := a + k) (.int .u8 (((v / 256 ^ k % 256 : Nat)) : Int)) (.bool true) ((a + k) / 4096))
        rw [u8_of' _ (by omega)] at HPut
        rw [← RefM.store_succ] at HPut
        rw [RefM.store_foot] at HPk
        rw [show (m.store a v k).mb = m.mb from rfl] at HPut HPk
        have hj : (a + k) / 4096 < 64 := by omega
        have hcd := HMk.out.celld hj
        have hfd := HMk.out.marks.frozen ((a + k) / 4096)
        have hc2 : wr.cell? ⟨m.p, 2, none⟩ = some (.slice (some ⟨m.mb, 0, none⟩) 64 64) := HMk.out.own.cell 2
        rw [show (m.store a v k).mb = m.mb from rfl] at hcd hfd
        have hc2' : (wr.setCell ⟨g, a + k, none⟩ (.int .u8 (((v / 256 ^ k % 256 : Nat)) : Int))).cell? ⟨m.p, 2, none⟩ = some (.slice (some ⟨m.mb, 0, none⟩) 64 64) := by
          rw [World.cell?_setCell_other _ _ _ _ (by intro h; injection h with h1 h2; exact hgp h1)]
          exact hc2
        have hcd' : (wr.setCell ⟨g, a + k, none⟩ (.int .u8 (((v / 256 ^ k % 256 : Nat)) : Int))).cell? ⟨m.mb, (a + k) / 4096, none⟩ = some (.bool ((m.store a v k).d[(a + k) / 4096]?.getD false)) := by
          rw [World.cell?_setCell_other _ _ _ _ (by intro h; injection h with h1 h2; exact hgm h1)]
          exact hcd
        have hq5 : (((v / 256 ^ k % 256 : Nat)) : Int) = ((v / 256 ^ k : Nat) : Int) % 256 := by omega
        rw [hq5] at hc2' hcd' HPk HPut
        clear hq5
        clear hA hA' hl hc2 hcd
        generalize (m.B[a + k]?.getD 0).toNat = c at *
        generalize (m.store a v k).d[(a + k) / 4096]?.getD false = d0 at *
        generalize hq : v / 256 ^ k = q at *
        have Hq := Lib.hid hq; clear hq
        have hak : (a : Int) + k < m.B.length := by omega
        have hak0 : (0 : Int) ≤ (a : Int) + k := by omega
        have hak9 : (a : Int) < 9223372036854775808 := by omega
        have hq0 : (0 : Int) ≤ (q : Int) := by omega
        have hj2 : ((a : Int) + k) / 4096 < 64 := by omega
        have hj0 : (0 : Int) ≤ ((a : Int) + k) / 4096 := by omega
        go_wp2_with fail
        exact ⟨⟨k + 1, by omega, by go_num, by rw [← Hpp.out]; rfl, HPut.out, HKept.out.trans HPk.out⟩, by simp [intOf]; omega⟩
      · obtain rfl : k = n := by omega
        go_wp2_with fail
        go_ret
        exact ⟨rfl, HMk.out, HKept.out⟩
/-! ### marks -/
def RefM.setd (m : RefM) (i : Nat) (b : Bool) : RefM := { m with d := m.d.set i b }
theorem RAt.setd {base : Nat} {w : World} {m : RefM} (h : RAt base w m) (i : Nat) (b : Bool) : RAt base (w.setCell ⟨m.mb, i, none⟩ (.bool b)) (m.setd i b) := by
  have hpm : m.p ≠ m.mb := h.own.ne_ h.marks (by decide)
  refine ⟨Blk.far h.own (p := ⟨m.mb, i, none⟩) hpm _, ?_, ?_, ?_, h.most, h.len, h.low⟩
  · exact h.row.kept (row := some m.mb) ⟨rfl, rfl, rfl, by simp [World.setCell], fun b _ hn => Below.heap_setCell _ _ _ _ (fun e => hn (by rw [e]))⟩ (.inr (own_ne h.row h.marks (by decide)))
  · have := h.marks.set i (.bool b)
    unfold RefM.setd
    rw [List.map_set]
    exact this
  · unfold RefM.setd; rw [List.length_set]; exact h.dl
theorem RAt.setd_kept {w : World} {m : RefM} (i : Nat) (u : Value) : KeptF w (w.setCell ⟨m.mb, i, none⟩ u) m.foot := KeptF.setCell (p := ⟨m.mb, i, none⟩) (.inr (.inl rfl)) u
def RefM.clean (m : RefM) : RefM := { m with d := noD }
def RClRel (base : Nat) (m : RefM) (w : World) (i : Value) (wr : World) : Prop := ∃ k : Nat, k ≤ 64 ∧ i = .int .i64 k ∧ RAt base wr { m with d := List.replicate k false ++ m.d.drop k } ∧ KeptF w wr m.foot
theorem clean_step (d : List Bool) (hd : d.length = 64) (k : Nat) (hk : k < 64) : (List.replicate k false ++ d.drop k).set k false = List.replicate (k + 1) false ++ d.drop (k + 1) := by
  apply List.ext_getElem?
  intro i
  rw [List.getElem?_set]
  by_cases h1 : k = i
  · subst h1
    rw [if_pos rfl, if_pos (by simp; omega), List.getElem?_append_left (by simp), List.getElem?_replicate, if_pos (by omega)]
  · rw [if_neg h1]
    by_cases h2 : i < k
    · rw [List.getElem?_append_left (by simpa using h2), List.getElem?_append_left (by simp; omega), List.getElem?_replicate, List.getElem?_replicate, if_pos h2, if_pos (by omega)]
    · rw [List.getElem?_append_right (by simp; omega), List.getElem?_append_right (by simp; omega), List.getElem?_drop, List.getElem?_drop]
      simp only [List.length_replicate]
      congr 1
      omega
set_option maxRecDepth 100000 in
set_option maxHeartbeats 1000000 in
theorem ref13_Clean (base : Nat) (m : RefM) (w : World) (hm : RAt base w m) :
    Calls Tryd.prog 38 #[.pointer (some ⟨m.p, 0, none⟩)] w fun e w' => (∃ x, e = .returned x) ∧ RAt base w' m.clean ∧ KeptF w w' m.foot := by
  have HM := Lib.hid hm
  clear hm
  go_enter Tryd.func38, Tryd.ntmps38
  go_wp2_with fail
  go_loopw [2] (fun i wr => RClRel base m w i wr) (fun i _ => 64 - (intOf i).toNat)
  case atStart => exact ⟨0, Nat.zero_le _, rfl, by simpa using HM.out, KeptF.refl _ _⟩
  case round =>
    obtain ⟨k, hk, rfl, hmk, hkept⟩ := hrel
    have HMk := Lib.hid hmk; clear hmk
    have HKept := Lib.hid hkept; clear hkept
    have hc2 : wr.cell? ⟨m.p, 2, none⟩ = some (.slice (some ⟨m.mb, 0, none⟩) 64 64) := HMk.out.own.cell 2
    by_cases hlt : k < 64
    · have hcd := HMk.out.celld hlt
      have hfd := HMk.out.marks.frozen k
      have HS := Lib.hid (HMk.out.setd k false)
      have hs := HS.out
      unfold RefM.setd at hs
      simp only at hs hcd hfd
      rw [clean_step m.d HM.out.dl k hlt] at hs
      have HS2 := Lib.hid hs; clear hs HS
      have HK := Lib.hid (RAt.setd_kept (w := wr) (m := m) k (.bool false))
      have hk0 : (0 : Int) ≤ (k : Int) := by omega
      generalize (List.replicate k false ++ List.drop k m.d)[k]?.getD false = d0 at *
      go_wp2_with fail
      exact ⟨⟨k + 1, by omega, by go_num, HS2.out, HKept.out.trans HK.out⟩, by simp [intOf]; omega⟩
    · obtain rfl : k = 64 := by omega
      go_wp2_with fail
      go_end0
      refine ⟨⟨_, rfl⟩, ?_, HKept.out⟩
      have := HMk.out
      rw [List.drop_of_length_le (by rw [HM.out.dl]; exact Nat.le_refl _), List.append_nil] at this
      exact this
set_option maxRecDepth 100000 in
set_option maxHeartbeats 1000000 in
theorem ref13_Dirty (base : Nat) (m : RefM) (w : World) (hm : RAt base w m) :
    Calls Tryd.prog 42 #[.pointer (some ⟨m.p, 0, none⟩)] w (DirtyPost m.d w) := by
  have HM := Lib.hid hm
  clear hm
  go_enter Tryd.func42, Tryd.ntmps42
  go_wp2_with fail
  go_loopw [3, 4] (fun l i wr => DiRel m.d w l i wr) (fun _ i _ => 64 - (intOf i).toNat)
  case atStart => exact ⟨0, none, 0, Nat.zero_le _, rfl, rfl, World.ownsRow_nil _ _ _ _, Below.refl _ _⟩
  case round =>
    obtain ⟨k, A, c, hk, rfl, rfl, hown, hbel⟩ := hrel
    have Hown := Lib.hid hown; clear hown
    have Hbel := Lib.hid hbel; clear hbel
    have HMr := Lib.hid (HM.out.below Hbel.out)
    have hc2 : wr.cell? ⟨m.p, 2, none⟩ = some (.slice (some ⟨m.mb, 0, none⟩) 64 64) := HMr.out.own.cell 2
    by_cases hlt : k < 64
    · have hx := HMr.out.celld hlt
      have Hs := Lib.hid (dirtyL_succ m.d k)
      have Hle := Lib.hid (dirtyL_le m.d k)
      have hk0 : (0 : Int) ≤ (k : Int) := by omega
      cases hb : m.d[k]?.getD false with
      | false =>
        rw [hb] at hx Hs
        have Hs' := Hs.out
        rw [if_neg (by simp)] at Hs'
        have Hs := Lib.hid Hs'; clear Hs' hb
        go_wp2_with fail
        refine ⟨⟨k + 1, A, c, by omega, by go_num, by rw [Hs.out], by rw [Hs.out]; exact Hown.out, Hbel.out⟩, by simp [intOf]; omega⟩
      | true =>
        rw [hb] at hx Hs
        have Hs' := Hs.out
        rw [if_pos rfl] at Hs'
        have Hs := Lib.hid Hs'; clear Hs' hb
        have Hone := Lib.hid (row_one wr (.int .i64 k) 3)
        have Hl : Hid ((dirtyL m.d (k + 1)).length = (dirtyL m.d k).length + 1) := by rw [Hs.out, List.length_append]; exact Lib.hid rfl
        have hsz : w.heap.size ≤ wr.heap.size := Hbel.out.size
        have Hiv : Hid (ivals (dirtyL m.d (k + 1)) = ivals (dirtyL m.d k) ++ [.int .i64 k]) := by rw [Hs.out]; unfold ivals; rw [List.map_append]; exact Lib.hid rfl
        generalize (dirtyL m.d k).length = n at *
        go_wp2_with (at_builtin; refine app_int _ rfl (.tmp 21) (.tmp 23) rfl w.heap.size A n c (ivals (dirtyL m.d k)) rfl (Hown.out.alloc _) (wr.heap.size + 1) _ 1 1 [.int .i64 k] rfl rfl Hone.out (fun u hu => by rw [List.mem_singleton] at hu; subst hu; rfl) (by have := Hle.out; omega) (by simp; omega) ?_; intro A' c' w3 h2 h3; have H2 := Lib.hid h2; have H3 := Lib.hid h3; clear h2 h3)
        refine ⟨⟨k + 1, A', c', by omega, by go_num, by rw [Hl.out], ?_, ?_⟩, by simp [intOf]; omega⟩
        · rw [Hl.out, Hiv.out]; exact H2.out
        · exact (Hbel.out.alloc hsz _).trans (own_below (Hown.out.alloc _) H3.out (by simp; omega))
    · obtain rfl : k = 64 := by omega
      go_wp2_with fail
      go_ret
      exact ⟨A, c, rfl, Hown.out, Hbel.out⟩
end Go.Proofs.YtndkhlafpcedbaaDoor
namespace Go.Proofs.YtndkhlafpcedbaaDoor
set_option linter.unusedVariables false
open Go.RowKit
/-- How the document's memory stands behind k pages more. -/
structure RGrown (base : Nat) (m : RefM) (np k : Nat) (w wr : World) (m' : RefM) : Prop where
  p : m'.p = m.p
  mb : m'.mb = m.mb
  most : m'.most = m.most
  B : m'.B = m.B ++ List.replicate (4096 * k) 0
  d : m'.d = growD m.d np k
  at_ : RAt base wr m'
  kept : KeptF w wr m.foot
  foot : ∀ j, m'.foot j → m.foot j ∨ w.heap.size ≤ j
theorem RGrown.start {base : Nat} {w : World} {m : RefM} (np : Nat) (h : RAt base w m) : RGrown base m np 0 w w m :=
  ⟨rfl, rfl, rfl, by simp, rfl, h, KeptF.refl _ _, fun j hj => .inl hj⟩
def RefM.more (m : RefM) (A : Option Addr) (c : Nat) : RefM := { m with A := A, c := c, B := m.B ++ zpageB }
section
variable {base : Nat} {w w3 : World} {m : RefM}
theorem zp_map : zpageB.map bv = List.replicate 4096 (.int .u8 0) := by unfold zpageB; rw [List.map_replicate]; rfl
theorem RAt.more (h : RAt base w m) (hbase : base ≤ w.heap.size) (hlt : m.B.length + 4096 ≤ 4096 * 64) {A' : Option Addr} {c' : Nat}
    (hown : w3.ownsRow base 5 1 (.slice A' (m.B.length + 4096) c') (m.B.length + 4096) (m.B.map bv ++ List.replicate 4096 (.int .u8 0)))
    (hg : w.grownBy w3 (Value.slice A' (m.B.length + 4096) c').ownBlock) (hat : (Value.slice A' (m.B.length + 4096) c').ownBlock = (Value.slice m.A m.B.length m.c).ownBlock ∨ (Value.slice A' (m.B.length + 4096) c').ownBlock = some w.heap.size) :
    RAt base (w3.setCell ⟨m.p, 0, none⟩ (.slice A' (m.B.length + 4096) c')) (m.more A' c') ∧ KeptF w (w3.setCell ⟨m.p, 0, none⟩ (.slice A' (m.B.length + 4096) c')) m.foot ∧ ∀ j, (m.more A' c').foot j → m.foot j ∨ w.heap.size ≤ j := by
  have hl : (m.more A' c').B.length = m.B.length + 4096 := by unfold RefM.more; simp only [List.length_append, zpageB_len]
  have hnp : (Value.slice A' (m.B.length + 4096) c').ownBlock ≠ some m.p := fun e => by
    rcases hat with h1 | h1
    · exact own_ne h.row h.own (by decide) (h1 ▸ e)
    · rw [h1] at e; injection e with e; have := h.own.lt; omega
  have hnm : (Value.slice A' (m.B.length + 4096) c').ownBlock ≠ some m.mb := fun e => by
    rcases hat with h1 | h1
    · exact own_ne h.row h.marks (by decide) (h1 ▸ e)
    · rw [h1] at e; injection e with e; have := h.marks.lt; omega
  have hpm : m.p ≠ m.mb := h.own.ne_ h.marks (by decide)
  have hp3 : Blk w3 m.p 111 m.cells := (hg.block _ h.own.lt (fun e => hnp e.symm)).trans h.own
  have hm3 : Blk w3 m.mb 4 (m.d.map .bool) := (hg.block _ h.marks.lt (fun e => hnm e.symm)).trans h.marks
  refine ⟨⟨?_, ?_, ?_, h.dl, h.most, ?_, h.low⟩, ?_, ?_⟩
  · have := hp3.set 0 (.slice A' (m.B.length + 4096) c')
    unfold RefM.cells at this ⊢
    rw [hl]
    exact this
  · rw [hl]
    show World.ownsRow _ _ _ _ _ _ ((m.B ++ zpageB).map bv)
    rw [List.map_append, zp_map]
    exact hown.kept (row := some m.p) ⟨rfl, rfl, rfl, by simp [World.setCell], fun b _ hn => Below.heap_setCell _ _ _ _ (fun e => hn (by rw [e]))⟩ (.inr hnp)
  · exact Blk.far hm3 (p := ⟨m.p, 0, none⟩) (fun e => hpm e.symm) _
  · rw [hl]
    obtain ⟨k, h1, h2⟩ := h.len
    exact ⟨k + 1, by omega, by omega⟩
  · refine KeptF.trans (b := w3) ⟨hg.os, hg.tape, hg.output, hg.size, fun k hk hF => hg.block k hk (fun e => ?_)⟩ (KeptF.setCell (p := ⟨m.p, 0, none⟩) (.inl rfl) _)
    rcases hat with h1 | h1
    · exact hF (.inr (.inr (by rw [← h1]; exact e.symm)))
    · rw [h1] at e; injection e with e; omega
  · rintro j (hj | hj | hj)
    · exact .inl (.inl hj)
    · exact .inl (.inr (.inl hj))
    · rw [hl] at hj
      rcases hat with h1 | h1
      · exact .inl (.inr (.inr (h1 ▸ hj)))
      · have : (Value.slice A' (m.B.length + 4096) c').ownBlock = some j := hj
        rw [h1] at this; injection this with this; right; omega
end
theorem RGrown.next {base : Nat} {m : RefM} {np k : Nat} {w wr w3 : World} {m' : RefM} (h : RGrown base m np k w wr m') {A' : Option Addr} {c' : Nat} {wd : World}
    (hk : KeptF wr wd m'.foot) (h1 : RAt base w3 ((m'.setd (np + k) true).more A' c')) (h2 : KeptF wd w3 (m'.setd (np + k) true).foot) (h3 : ∀ j, ((m'.setd (np + k) true).more A' c').foot j → (m'.setd (np + k) true).foot j ∨ wd.heap.size ≤ j) :
    RGrown base m np (k + 1) w w3 ((m'.setd (np + k) true).more A' c') := by
  have hf : (m'.setd (np + k) true).foot = m'.foot := rfl
  have hk1 := h.kept.then hk h.foot
  refine ⟨h.p, h.mb, h.most, ?_, ?_, h1, hk1.then h2 (by rw [hf]; exact h.foot), fun j hj => ?_⟩
  · show m'.B ++ zpageB = _
    rw [h.B, List.append_assoc]
    unfold zpageB
    rw [List.replicate_append_replicate]
    congr 2
  · show m'.d.set _ _ = _
    rw [h.d]; rfl
  · rcases h3 j hj with hj | hj
    · exact h.foot j hj
    · have := hk1.size
      right; omega
def RGrRel (base : Nat) (m : RefM) (np n : Nat) (w : World) (i : Value) (wr : World) : Prop := ∃ (k : Nat) (m' : RefM), k ≤ n ∧ i = .int .i64 k ∧ RGrown base m np k w wr m'
set_option maxRecDepth 100000 in
set_option maxHeartbeats 1000000 in
theorem ref13_Grow (base : Nat) (m : RefM) (np n : Nat) (w : World) (hm : RAt base w m) (hl : m.B.length = 4096 * np) (hmo : np ≤ m.most) (hn : n < 18446744073709551616) :
    Calls Tryd.prog 36 #[.pointer (some ⟨m.p, 0, none⟩), .int .u64 n] w fun e w' =>
      if m.most < np + n then w = w' ∧ e = .returned (.int .i64 (-1)) else e = .returned (.int .i64 np) ∧ ∃ m', RGrown base m np n w w' m' := by
  have HSz : Hid (∀ (m : RefM) (q : Nat) (W : World), RAt base W m → m.B.length = 4096 * q → Calls Tryd.prog 27 #[.pointer (some ⟨m.p, 0, none⟩)] W fun e w' => e = .returned (.int .i64 q) ∧ w' = W) := Lib.hid (fun m q W h1 h2 => (ref13_Size base m W h1).mono fun e w' ⟨h3, h4⟩ => ⟨by rw [h4, h2, Nat.mul_div_cancel_left q (by omega)], h3.symm⟩)
  have HM := Lib.hid hm
  have Hl := Lib.hid hl
  have hmo64 := hm.most
  have hc1 : w.cell? ⟨m.p, 1, none⟩ = some (.int .i64 m.most) := hm.own.cell 1
  clear hm hl
  by_cases hbig : m.most < np + n
  · simp only [if_pos hbig]
    by_cases h64 : 64 < n
    · go_enter Tryd.func36, Tryd.ntmps36
      go_wp2_with fail
      refine (HSz.out _ _ _ HM.out Hl.out).mono ?_
      rintro e w' ⟨rfl, rfl⟩
      go_wp2_with fail
      go_ret
      exact ⟨rfl, rfl⟩
    · have q0 : decide (64 < n) = false := decide_eq_false h64
      have q00 : decide ((64 : Int) < n) = false := decide_eq_false (by omega)
      have q1 : (m.most : Int) < (np : Int) + n := by omega
      go_enter Tryd.func36, Tryd.ntmps36
      go_wp2_with fail
      refine (HSz.out _ _ _ HM.out Hl.out).mono ?_
      rintro e w' ⟨rfl, rfl⟩
      go_wp2_with fail
      go_ret
      exact ⟨rfl, rfl⟩
  · simp only [if_neg hbig]
    have q0 : decide (64 < n) = false := decide_eq_false (by omega)
    have q00 : decide ((64 : Int) < n) = false := decide_eq_false (by omega)
    have q1 : decide ((m.most : Int) < (np : Int) + n) = false := decide_eq_false (by omega)
    have hn64 : np + n ≤ 64 := by omega
    clear hbig
    obtain ⟨i0, hi, hz, hs', hb⟩ := info_parts Tryd.info_u8
    have Hi := Lib.hid hi; have Hz := Lib.hid hz; have Hs' := Lib.hid hs'; have Hb := Lib.hid hb; clear hi hz hs' hb
    go_enter Tryd.func36, Tryd.ntmps36
    go_wp2_with fail
    refine (HSz.out _ _ _ HM.out Hl.out).mono ?_
    rintro e w' ⟨rfl, rfl⟩
    go_wp2_with fail
    clear hc1
    go_loopw [6] (fun i wr => RGrRel base m np n w' i wr) (fun i _ => n - (intOf i).toNat)
    case atStart => exact ⟨0, m, Nat.zero_le _, rfl, RGrown.start np HM.out⟩
    case round =>
      obtain ⟨k, m', hk, rfl, hgr⟩ := hrel
      have Hg := Lib.hid hgr; clear hgr
      by_cases hlt : k < n
      · obtain ⟨q, hq⟩ : ∃ q, q = np + k := ⟨_, rfl⟩
        have hq64 : q < 64 := by omega
        have hbl : m'.B.length = 4096 * q := by rw [Hg.out.B, List.length_append, Hl.out, List.length_replicate]; omega
        have Hbl := Lib.hid hbl
        have hc2 : wr.cell? ⟨m.p, 2, none⟩ = some (.slice (some ⟨m'.mb, 0, none⟩) 64 64) := by
          have : wr.cell? ⟨m'.p, 2, none⟩ = some (.slice (some ⟨m'.mb, 0, none⟩) 64 64) := Hg.out.at_.own.cell 2
          rwa [Hg.out.p] at this
        have hcd := Hg.out.at_.celld hq64
        have hfd := Hg.out.at_.marks.frozen q
        have HS1 := Lib.hid (HSz.out m' q wr.drew (Hg.out.at_.keep fun _ _ => rfl) hbl)
        rw [Hg.out.p] at HS1
        have HMd := Lib.hid ((Hg.out.at_.setd q true))
        have HKd := Lib.hid (RAt.setd_kept (w := wr) (m := m') q (.bool true))
        have Hq := Lib.hid hq; clear hq hbl
        have hk0 : (0 : Int) ≤ (k : Int) := by omega
        have hq0 : (0 : Int) ≤ (q : Int) := by omega
        have hqi : (q : Int) < 64 := by omega
        generalize m'.d[q]?.getD false = d0 at *
        go_wp2_with fail
        go_still_tail 7, (by kernel_rfl)
        still_call HS1.out
        repeat still_step
        refine wpStill_nil ?_
        change wpList _ _ _ _ _ wr.drew
        have hcd2 : wr.drew.cell? ⟨m'.mb, q, none⟩ = some (.bool d0) := hcd
        have hfd2 : wr.drew.frozen? ⟨m'.mb, q, none⟩ = false := hfd
        have hmd : RAt base ((wr.setCell ⟨m'.mb, q, none⟩ (.bool true)).drew) (m'.setd q true) := HMd.out.keep fun _ _ => rfl
        have hkd : KeptF wr ((wr.setCell ⟨m'.mb, q, none⟩ (.bool true)).drew) m'.foot := HKd.out.drewN 1
        have Hm2 := Lib.hid hmd; have Hk2 := Lib.hid hkd; clear hmd hkd hcd hfd HMd HKd
        have hp' : m'.p = m.p := Hg.out.p
        have hc0 : ((wr.setCell ⟨m'.mb, q, none⟩ (.bool true)).drew).cell? ⟨m.p, 0, none⟩ = some (.slice m'.A (4096 * q) m'.c) := by
          have : ((wr.setCell ⟨m'.mb, q, none⟩ (.bool true)).drew).cell? ⟨m'.p, 0, none⟩ = some (.slice m'.A m'.B.length m'.c) := Hm2.out.own.cell 0
          rwa [hp', Hbl.out] at this
        have Hrow := Lib.hid Hm2.out.row
        rw [show (m'.setd q true).A = m'.A from rfl, show (m'.setd q true).B = m'.B from rfl, show (m'.setd q true).c = m'.c from rfl, Hbl.out] at Hrow
        have Hp := Lib.hid hp'; clear hp'
        have hbz : base ≤ ((wr.setCell ⟨m'.mb, q, none⟩ (.bool true)).drew).heap.size := by have := Hm2.out.low.1; have := Hm2.out.own.lt; omega
        have Hbz := Lib.hid hbz; clear hbz
        go_wp2_with (at_builtin; refine wpList_app_zeros _ rfl (.tmp 39) (.const (.int .i64 4096)) 24 3 rfl base 5 i0 (.int .u8 0) 1 .i64 Tryd.underlying24 Tryd.underlying3 Hi.out Hz.out Hs'.out Hb.out rfl rfl (.slice m'.A (4096 * q) m'.c) (4096 * q) (m'.B.map bv) rfl Hrow.out 4096 .i64 rfl (by omega) (by unfold maxLen; omega) (by omega) Hbz.out ?_; intro A3 c3 w3 h2 h3 h4; have hM3 := Hm2.out.more (A' := A3) (c' := c3) (w3 := w3) Hbz.out (by rw [show (m'.setd q true).B = m'.B from rfl, Hbl.out]; omega) (by rw [show (m'.setd q true).B = m'.B from rfl, Hbl.out]; exact h2) (by rw [show (m'.setd q true).B = m'.B from rfl, Hbl.out]; exact h3) (by rw [show (m'.setd q true).B = m'.B from rfl, Hbl.out]; exact h4); have HM3 := Lib.hid hM3; clear hM3; have hnp3 : (Value.slice A3 (4096 * q + 4096) c3).ownBlock ≠ some m.p := (fun e => by rcases h4 with h4 | h4; exact own_ne Hrow.out Hm2.out.own (by decide) (by rw [← h4, e, ← Hp.out]; rfl); rw [h4] at e; injection e with e; have := Hm2.out.own.lt; rw [show (m'.setd q true).p = m.p from Hp.out] at this; omega); have hb3 : Blk w3 m.p 111 (m'.setd q true).cells := (h3.block _ (by have := Hm2.out.own.lt; rwa [show (m'.setd q true).p = m.p from Hp.out] at this) (fun e => hnp3 e.symm)).trans (by have := Hm2.out.own; rwa [show (m'.setd q true).p = m.p from Hp.out] at this); have hc3 := hb3.cell 0; have hf3 := hb3.frozen 0; rw [show (m'.setd q true).cells[0]? = some (.slice m'.A m'.B.length m'.c) from rfl] at hc3; clear hb3 hnp3 h2 h3 h4)
        obtain ⟨g1, g2, g3⟩ := HM3.out
        rw [show (m'.setd q true).p = m.p from Hp.out, show (m'.setd q true).B = m'.B from rfl, Hbl.out] at g1 g2
        have e := Hq.out
        subst e
        exact ⟨⟨k + 1, _, by omega, by go_num, Hg.out.next Hk2.out g1 g2 g3⟩, by simp [intOf]; omega⟩
      · obtain rfl : k = n := by omega
        go_wp2_with fail
        go_ret
        exact ⟨rfl, m', Hg.out⟩
end Go.Proofs.YtndkhlafpcedbaaDoor
