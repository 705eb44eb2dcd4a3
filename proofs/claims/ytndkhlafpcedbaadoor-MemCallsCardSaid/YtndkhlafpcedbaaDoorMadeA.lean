/- Two memories that are alike: the program's and the document's. -/
import Derived.Test.YtndkhlafpcedbaaDoorPagesF
import Derived.Test.YtndkhlafpcedbaaDoorRefmC
import Derived.Test.YtndkhlafpcedbaaDoorPagesH
namespace Go.Proofs.YtndkhlafpcedbaaDoor
set_option linter.unusedVariables false
open Go.RowKit
structure Pair (base : Nat) (w : World) (N : Nat) (m : MemV) (r : RefM) : Prop where
  at_ : MAt base w m
  rat : RAt base w r
  bs : m.bs.length = N
  rl : r.B.length = 4096 * N
  pm : pgl m.B N = pgl r.B N
  d : m.d = List.replicate 64 false
theorem Pair.below {base : Nat} {w w' : World} {N : Nat} {m : MemV} {r : RefM} (h : Pair base w N m r) (hb : Below w.heap.size w w') : Pair base w' N m r := ⟨h.at_.below hb, h.rat.below hb, h.bs, h.rl, h.pm, h.d⟩
theorem pgl_congr {B B' : List UInt8} {N : Nat} (h : ∀ i, i < N → pageOf B i = pageOf B' i) : pgl B N = pgl B' N := by
  unfold pgl
  refine List.map_congr_left fun i hi => h i (by simpa using hi)
theorem page_len {B : List UInt8} {N : Nat} (h : B.length = 4096 * N) : ∀ i, i < N → (pageOf B i).length = 4096 := fun i hi => by
  unfold pageOf
  rw [List.length_take, List.length_drop, h]
  omega
theorem Pair.made {base : Nat} {w : World} {N most : Nat} {m : MemV} {r : RefM} (h1 : MAt base w m) (h2 : RAt base w r) (hb : m.bs.length = N) (hm : m.B = List.replicate (4096 * N) 0) (hr : r.B = List.replicate (4096 * N) 0) (hd : m.d = List.replicate 64 false) : Pair base w N m r :=
  ⟨h1, h2, hb, by rw [hr, List.length_replicate], by rw [hm, hr], hd⟩
theorem Pair.from_ {base : Nat} {w w1 w2 wm wr : World} {L : List (List UInt8)} {n most p q : Nat} {m : MemV} {r : RefM} (hn : n = L.length) (hm : FrAt L n most p w1 n m wm) (hr : RFrAt L most q w2 n r wr) (hall : ∀ l ∈ L, l.length = 4096) (h1 : MAt base w m) (h2 : RAt base w r) : Pair base w n m r := by
  have hB : r.B = L.flatten := by rw [hr.B, List.take_of_length_le (by omega)]
  refine ⟨h1, h2, hm.bs, by rw [hB, flat_len L hall, hn], pgl_congr fun i hi => ?_, hm.d⟩
  have e1 := hm.pg i hi
  have e2 := page_flat L i hall (by omega)
  rw [e1, ← hB] at e2
  injection e2
theorem RAt.mono {base base' : Nat} {w : World} {m : RefM} (h : RAt base w m) (hb : base' ≤ base) : RAt base' w m := ⟨h.own, World.ownsRow.mono h.row hb, h.marks, h.dl, h.most, h.len, ⟨Nat.le_trans hb h.low.1, Nat.le_trans hb h.low.2⟩⟩
/-- The two memories' pages, told, are the same. -/
theorem Pair.same {base : Nat} {w : World} {N : Nat} {m : MemV} {r : RefM} (h : Pair base w N m r) (hN : N ≤ 64) {b1 b2 c1 c2 : Nat} {w1 w2 : World} {A1 A2 : Option Addr} {g1 g2 : List (Hd × List Value)}
    (h1 : PgsAt b1 w1 A1 N c1 g1 m.B) (h2 : PgsAt b2 w2 A2 N c2 g2 r.B) (W : World) (hb1 : Below w1.heap.size w1 W) (hb2 : Below w2.heap.size w2 W) :
    Calls Tryd.prog 24 #[.slice A1 N c1, .slice A2 N c2] W fun e w' => Below W.heap.size W w' ∧ e = .returned (.bool true) := by
  have hl : m.B.length = 4096 * N := by rw [h.at_.len, h.bs]
  have p1 := (h1.pv (page_len hl)).below hb1 (Nat.le_refl _)
  have p2 := (h2.pv (page_len h.rl)).below hb2 (Nat.le_refl _)
  rw [← h.pm] at p2
  have hc := eq_pages A1 A2 N N c1 c2 w1.heap.size w2.heap.size W (pgl m.B N) (pgl m.B N) (pgl_len _ _).symm (pgl_len _ _).symm (by omega) (fun l hl' => by
    unfold pgl at hl'
    obtain ⟨i, hi, rfl⟩ := List.mem_map.1 hl'
    rw [page_len hl i (by simpa using hi)]
    omega) p1 p2 hb1.size hb2.size
  rwa [decide_eq_true rfl] at hc
/-- What lies wide can be read. -/
theorem PW.pv {lo : Nat} {w : World} {g : Nat} {L : List (List UInt8)} {xs : List Value} {k : Nat} (h : PW lo w g L xs k) (hk : L.length ≤ k) : PV w w.heap.size (some ⟨g, 0, none⟩) L := ⟨fun q l hq => by
  obtain ⟨b, h1, h2, h3⟩ := h.pg q l (by have := (List.getElem?_eq_some_iff.1 hq).1; omega) hq
  refine ⟨g, 0, some ⟨b, 0, none⟩, l.length + 64, rfl, h.hdr.lt, by rw [Nat.zero_add]; exact (h.hdr.cell q).trans h1, fun hn => ⟨b, 0, rfl, h3.lt, fun j u hu => ?_⟩⟩
  rw [Nat.zero_add]
  refine (h3.cell j).trans ?_
  rw [List.getElem?_append_left (List.getElem?_eq_some_iff.1 hu).1]
  exact hu⟩
end Go.Proofs.YtndkhlafpcedbaaDoor
