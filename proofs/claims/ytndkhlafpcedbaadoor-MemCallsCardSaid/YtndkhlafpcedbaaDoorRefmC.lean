/- The document's memory: From. -/
import Derived.Test.YtndkhlafpcedbaaDoorRefmB
import Derived.Test.YtndkhlafpcedbaaDoorAppZ
import Derived.Test.YtndkhlafpcedbaaDoorBagC
import Derived.Test.YtndkhlafpcedbaaDoorPagesB
import Derived.Deep.RegionLaw
namespace Go.Proofs.YtndkhlafpcedbaaDoor
set_option linter.unusedVariables false
open Go.RowKit
structure RFrAt (L : List (List UInt8)) (most p : Nat) (w : World) (k : Nat) (m : RefM) (wr : World) : Prop where
  p : m.p = p
  mo : m.most = most
  B : m.B = (L.take k).flatten
  d : m.d = List.replicate 64 false
  all : ∀ l ∈ L.take k, l.length = 4096
  at_ : RAt w.heap.size wr m
  bel : Below w.heap.size w wr
def RFrRel (L : List (List UInt8)) (n most p : Nat) (w : World) (i : Value) (wr : World) : Prop := ∃ (k : Nat) (m : RefM), k ≤ n ∧ i = .int .i64 k ∧ RFrAt L most p w k m wr
def RFrPost (L : List (List UInt8)) (n most : Nat) (w : World) (e : Ending) (w' : World) : Prop :=
  ((∀ l ∈ L, l.length = 4096) ∧ ∃ m : RefM, e = .returned (.tuple #[.pointer (some ⟨m.p, 0, none⟩), .int .i64 0]) ∧ RFrAt L most m.p w n m w') ∨
  (¬ (∀ l ∈ L, l.length = 4096) ∧ e = .returned (.tuple #[.pointer none, .int .i64 1]) ∧ Below w.heap.size w w')
theorem flat_len : ∀ (L : List (List UInt8)), (∀ l ∈ L, l.length = 4096) → L.flatten.length = 4096 * L.length
  | [], _ => rfl
  | l :: L, h => by
    rw [List.flatten_cons, List.length_append, flat_len L (fun x hx => h x (List.mem_cons_of_mem _ hx)), h l (List.mem_cons_self ..), List.length_cons]
    omega
set_option maxRecDepth 100000 in
set_option maxHeartbeats 1000000 in
theorem ref13_From (A : Option Addr) (n c B most : Nat) (w : World) (L : List (List UInt8)) (hn : n = L.length) (hle : n ≤ most) (h64 : most ≤ 64) (hl : ∀ l ∈ L, l.length ≤ 140737488351232) (h : PV w B A L) (hB : B ≤ w.heap.size) :
    Calls Tryd.prog 23 #[.slice A n c, .int .i64 most] w (RFrPost L n most w) := by
  have Hh := Lib.hid h; clear h
  have Hn := Lib.hid hn; clear hn
  have Hl := Lib.hid hl; clear hl
  have q1 : decide (most < n) = false := by simp; omega
  have q2 : ¬ (64 : Int) < most := by omega
  have q3 : decide ((64 : Int) < most) = false := by simp; omega
  go_enter Tryd.func23, Tryd.ntmps23
  go_wp2_with fail
  refine (ref13_New 0 most (by omega) h64 w).mono ?_
  rintro e w1 ⟨m0, rfl, hmo, hB0, hd, hm, hbel⟩
  have HF0 : Hid (RFrAt L most m0.p w 0 m0 w1) := Lib.hid ⟨rfl, hmo, by rw [hB0]; rfl, hd, fun l hl => by simp at hl, hm, hbel⟩
  clear hmo hB0 hd hm hbel
  go_wp2_with fail
  go_loopw [8] (fun i wr => RFrRel L n most m0.p w i wr) (fun i _ => n - (intOf i).toNat)
  case atStart => exact ⟨0, m0, Nat.zero_le _, rfl, HF0.out⟩
  case round =>
    obtain ⟨k, m, hk, rfl, hfr⟩ := hrel
    have Hfr := Lib.hid hfr; clear hfr
    by_cases hlt : k < n
    · obtain ⟨l, hlk⟩ : ∃ l, L[k]? = some l := ⟨_, List.getElem?_eq_getElem (by rw [← Hn.out]; exact hlt)⟩
      obtain ⟨b, o, A2, c2, rfl, hb, hcell, hrow⟩ := (Hh.out.below Hfr.out.bel hB).at_ k l hlk
      have Hlk := Lib.hid hlk; clear hlk
      have Hrow := Lib.hid hrow; clear hrow
      have hi : (0 : Int) ≤ k := by omega
      by_cases hll : l.length = 4096
      · have hc0 : wr.cell? ⟨m0.p, 0, none⟩ = some (.slice m.A m.B.length m.c) := by
          have h1 := Hfr.out.at_.own.cell 0
          rw [Hfr.out.p] at h1
          exact h1
        rw [hll] at hcell
        have hb0 : Blk wr m0.p 111 m.cells := by have h1 := Hfr.out.at_.own; rw [Hfr.out.p] at h1; exact h1
        have Hb0 := Lib.hid hb0
        have Hno := Lib.hid (own_nb (v := .slice m.A m.B.length m.c) Hfr.out.at_.row hb0 (by decide)); clear hb0
        have Hrow0 := Lib.hid Hfr.out.at_.row
        have hBl : m.B.length ≤ 4096 * 64 := by obtain ⟨q, h1, h2⟩ := Hfr.out.at_.len; omega
        have hszd : w.heap.size ≤ wr.drew.heap.size := Hfr.out.bel.size
        have hfr0 := Hb0.out.frozen 0
        have hl4 : (l.map bv).length = 4096 * 1 := by rw [List.length_map, hll]
        have Hl4 := Lib.hid hl4; clear hl4
        obtain ⟨i0, hi0, hz, hs', hby⟩ := info_parts Tryd.info_u8
        go_wp2_with fail
        go_region_law (refine step_appz rfl (.tmp 38) (.tmp 42) 24 rfl w.heap.size 5 i0 _ 1 1 Tryd.underlying24 hi0 hz hs' hby rfl (by omega) _ m.B.length (m.B.map bv) rfl (by exact Hrow0.out) B _ 4096 c2 (l.map bv) rfl (by exact Hl4.out) (by exact Hrow.out) (bv_one l) (by unfold maxLen; omega) (by omega) (by exact hszd) ?_; intro A4 c4 w4 h2 h3 h4; have hbl4 := grown_blk h3 (show Blk wr.drew m0.p 111 m.cells from Hb0.out) Hno.out; have g4 := hbl4.cell 0; have hf4 := hbl4.frozen 0; rw [show m.cells[0]? = some (.slice m.A m.B.length m.c) from rfl] at g4; have Hblk4 := Lib.hid hbl4; have H2 := Lib.hid h2; have H3 := Lib.hid h3; clear h2 h3 h4 hbl4)
        all_goals
          have HF : Hid (RFrAt L most m0.p w (k + 1) { m with A := A4, c := c4, B := m.B ++ l } (w4.setCell ⟨m0.p, 0, none⟩ (.slice A4 (m.B.length + 4096) c4))) := Lib.hid (by
            have hlen : (m.B ++ l).length = m.B.length + 4096 := by rw [List.length_append, hll]
            have hBk : m.B.length = 4096 * k := by
              rw [Hfr.out.B, flat_len _ Hfr.out.all, List.length_take, ← Hn.out]; omega
            have hnb : (Value.slice A4 (m.B.length + 4096) c4).ownBlock ≠ some m0.p := own_nb H2.out Hblk4.out (by decide)
            have hmk := Hfr.out.at_.marks
            have hnm : (Value.slice m.A m.B.length m.c).ownBlock ≠ some m.mb := own_nb Hfr.out.at_.row hmk (by decide)
            have hmk4 : Blk w4 m.mb 4 (m.d.map .bool) := grown_blk H3.out (show Blk wr.drew m.mb 4 (m.d.map .bool) from hmk) hnm
            have hne : m.mb ≠ m0.p := hmk4.ne_ Hblk4.out (by decide)
            have hlow : w.heap.size ≤ m0.p := by have := Hfr.out.at_.low.1; rw [Hfr.out.p] at this; exact this
            refine ⟨Hfr.out.p, Hfr.out.mo, ?_, Hfr.out.d, fun l' hl' => ?_, ⟨?_, ?_, ?_, Hfr.out.at_.dl, Hfr.out.at_.most, ⟨k + 1, by show (m.B ++ l).length = _; rw [hlen, hBk]; omega, by omega⟩, Hfr.out.at_.low⟩, ?_⟩
            · show m.B ++ l = _
              rw [List.take_add_one, Hlk.out, Hfr.out.B]
              simp
            · rw [List.take_add_one, Hlk.out] at hl'
              rcases List.mem_append.1 hl' with h1 | h1
              · exact Hfr.out.all l' h1
              · simp at h1; rw [h1]; exact hll
            · show Blk _ m.p _ [.slice A4 (m.B ++ l).length c4, .int .i64 m.most, .slice (some ⟨m.mb, 0, none⟩) 64 64]
              rw [hlen, Hfr.out.p]
              exact Hblk4.out.set 0 _
            · show World.ownsRow _ _ _ _ (.slice A4 (m.B ++ l).length c4) (m.B ++ l).length ((m.B ++ l).map bv)
              rw [hlen, List.map_append]
              exact H2.out.kept (row := some m0.p) ⟨rfl, rfl, rfl, by simp [World.setCell], fun q _ hn => Below.heap_setCell _ _ _ _ (fun e => hn (by rw [e]))⟩ (.inr hnb)
            · exact (Below.heap_setCell _ _ _ _ hne).trans hmk4
            · have h1 : Below w.heap.size w wr.drew := Hfr.out.bel.drew
              have h2 := h1.trans (own_below (show wr.drew.ownsRow w.heap.size 5 1 (.slice m.A m.B.length m.c) m.B.length (m.B.map bv) from Hrow0.out) H3.out hszd)
              exact h2.setCell (p := ⟨m0.p, 0, none⟩) hlow _)
          go_wp2_with fail
          exact ⟨⟨k + 1, _, by omega, by go_num, HF.out⟩, by simp [intOf]; omega⟩
      · have hne : ((l.length : Int) != 4096) = true := by simp; omega
        have hF : ¬ (∀ l ∈ L, l.length = 4096) := fun h => hll (h l (List.mem_of_getElem? Hlk.out))
        have HF := Lib.hid hF; clear hF
        go_wp2_with fail
        go_ret2
        exact .inr ⟨HF.out, rfl, Hfr.out.bel⟩
    · obtain rfl : k = n := by omega
      have Hall : Hid (∀ l ∈ L, l.length = 4096) := Lib.hid (by
        have := Hfr.out.all
        rwa [List.take_of_length_le (by rw [Hn.out]; exact Nat.le_refl _)] at this)
      have Hp : Hid (m.p = m0.p) := Lib.hid Hfr.out.p
      go_wp2_with fail
      go_ret2
      exact .inl ⟨Hall.out, m, by rw [Hp.out]; rfl, by have := Hfr.out; rw [← Hp.out] at this; exact this⟩
end Go.Proofs.YtndkhlafpcedbaaDoor
