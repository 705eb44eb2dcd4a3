/- Words for blocks of the call's own. No program in sight. -/
import Derived.Test.YtndkhlafpcedbaaDoorBase
import Derived.Laws.MakeOwn
import Derived.Laws.NewBlocks
import Derived.Deep.Draws
namespace Go.Proofs.YtndkhlafpcedbaaDoor
set_option linter.unusedVariables false
open Go.RowKit

/-- Block 'g' of world 'w' is just the cells 'xs', of element type 't', none of them frozen. -/
def Blk (w : World) (g : Nat) (t : TypeId) (xs : List Value) : Prop := w.heap[g]? = some (.cells xs.toArray t (0, 0))
section
variable {w w' : World} {g : Nat} {t : TypeId} {xs : List Value}
theorem Blk.lt (h : Blk w g t xs) : g < w.heap.size := (Array.getElem?_eq_some_iff.1 h).1
theorem Blk.cell (h : Blk w g t xs) (i : Nat) : w.cell? ⟨g, i, none⟩ = xs[i]? := by
  unfold Blk at h
  simp [World.cell?, h]
theorem Blk.frozen (h : Blk w g t xs) (i : Nat) : w.frozen? ⟨g, i, none⟩ = false := by
  unfold Blk at h
  simp [World.frozen?, h]
theorem Blk.new (w : World) (t : TypeId) (xs : List Value) : Blk (w.alloc (.cells xs.toArray t)) w.heap.size t xs := heap_alloc_new w _
theorem Blk.set (h : Blk w g t xs) (i : Nat) (u : Value) : Blk (w.setCell ⟨g, i, none⟩ u) g t (xs.set i u) := by
  unfold Blk at h ⊢
  simp [World.setCell, Array.getElem?_modify, h]
theorem Blk.below {B : Nat} (h : Blk w g t xs) (hb : Below B w w') (hg : g < B) : Blk w' g t xs := (hb.block g hg).trans h
theorem Blk.drewN (h : Blk w g t xs) (k : Nat) : Blk (w.drewN k) g t xs := h
theorem Blk.alloc (h : Blk w g t xs) (o : Obj) : Blk (w.alloc o) g t xs := (Below.heap_alloc w o g h.lt).trans h
theorem Blk.far (h : Blk w g t xs) {p : Addr} (hp : g ≠ p.block) (u : Value) : Blk (w.setCell p u) g t xs := (Below.heap_setCell w p u g hp).trans h
theorem Blk.row (h : Blk w g t xs) (o n : Nat) : Row w (g + 1) (some ⟨g, o, none⟩) ((xs.drop o).take n) := by
  intro _
  refine ⟨g, o, rfl, Nat.lt_succ_self g, fun j u hu => ?_⟩
  rw [h.cell]
  rw [List.getElem?_take] at hu
  split at hu
  · rw [List.getElem?_drop] at hu; exact hu
  · cases hu
end
theorem Row.drewN {w : World} {B : Nat} {A : Option Addr} {xs : List Value} (h : Row w B A xs) (k : Nat) : Row (w.drewN k) B A xs := h
/-- A quiet call inside a region that draws: the world has drawn 'a' answers before, 'x' since. -/
theorem quiet_at {P : Program} {f : FuncId} {args : Array Value} {w : World} {a x : Nat} {v : Value} (h : Calls P f args (w.drewN (a + x)) fun e w' => w.drewN (a + x) = w' ∧ e = .returned v) :
    Calls P f args (w.drewN (a + x)) fun e w'' => e = .returned v ∧ ∃ n, w'' = w.drewN (a + n) := h.mono fun _ _ ⟨hw, he⟩ => ⟨he, x, hw.symm⟩
theorem quiet_on {P : Program} {f : FuncId} {args : Array Value} {w : World} {x : Nat} {v : Value} (h : Calls P f args (w.drewN x) fun e w' => w.drewN x = w' ∧ e = .returned v) :
    Calls P f args (w.drewN x) fun e w'' => e = .returned v ∧ ∃ n, w'' = w.drewN n := h.mono fun _ _ ⟨hw, he⟩ => ⟨he, x, hw.symm⟩
theorem below_of_drew {w w' : World} (h : Below w.drew.heap.size w.drew w') : Below w.heap.size w w' := ⟨h.os, h.tape, h.output, h.size, h.block⟩
theorem below_drewN {B : Nat} {a w : World} (h : Below B a w) (k : Nat) : Below B a (w.drewN k) := ⟨h.os, h.tape, h.output, h.size, h.block⟩

/-- A new row of zeros. -/
def zrow (z : Value) (n : Nat) : Array Value := (List.replicate n z).toArray
theorem run_make_zeros {P : Program} (t e : TypeId) (i : TypeInfo) (z : Value) (bytes : Nat) (ht : P.underlying t = some (.slice e)) (hi : P.info? e = some i) (hz : i.zero = some z) (h1 : z.cells = #[z]) (hs : i.size = 1) (hb : i.bytes = bytes)
    (n : Int) (m : Nat) (hn : n = m) (hbytes : bytes * m ≤ 281474976710656) (h63 : m ≤ 9223372036854775807) (w : World) :
    (Instr.makeSlice t (.int .i64 n) (.int .i64 n)).run P w = .ok (.slice (some ⟨w.heap.size, 0, none⟩) m m) (w.alloc (.cells (zrow z m) e)) := by
  subst hn
  have hb' : (i.bytes : Int) * (m : Int) ≤ 281474976710656 := by
    rw [hb]
    have h : ((bytes * m : Nat) : Int) ≤ 281474976710656 := by omega
    rwa [Int.natCast_mul] at h
  have hr := run_make (P := P) w t e i z ht hi hz .i64 .i64 m m (by omega) (by omega) hb' (by omega)
  simp only [Int.toNat_natCast] at hr
  rw [hr, h1, hs, Nat.mul_one]
  congr 3
  have := toList_madeCells_one z m
  rw [← Array.toList_inj, this]
  rfl

theorem take_set_next {xs full : List Value} {k : Nat} {u : Value} (h : xs.take k = full.take k) (hk : k < xs.length) (hu : full[k]? = some u) : (xs.set k u).take (k + 1) = full.take (k + 1) := by
  rw [List.take_add_one, List.take_add_one, List.take_set_of_le (Nat.le_refl k), h, hu]
  simp [hk]

/-- The mark that the statements lay at place 'i' behind a list of bytes. -/
def markB (i : Nat) : Value := .int .u8 (((282 + 7 * i) % 256 : Nat) : Int)
/-- The marks behind a list of 'n' bytes. -/
def marksB (n : Nat) : List Value := (List.range 64).map fun j => markB (n + j)
theorem marksB_get (n j : Nat) (h : j < 64) : (marksB n)[j]? = some (markB (n + j)) := by
  unfold marksB
  rw [List.getElem?_map, List.getElem?_range h]; rfl
theorem marksB_len (n : Nat) : (marksB n).length = 64 := by simp [marksB]
theorem wide_get (l : List UInt8) (k : Nat) (hk : k < l.length + 64) : (l.map bv ++ marksB l.length)[k]? = some (if k < l.length then .int .u8 ((l[k]?.getD 0).toNat : Int) else markB k) := by
  by_cases h : k < l.length
  · rw [List.getElem?_append_left (by simpa using h), if_pos h, List.getElem?_map, List.getElem?_eq_getElem h]; rfl
  · rw [List.getElem?_append_right (by simpa using Nat.le_of_not_lt h), if_neg h, List.length_map, marksB_get _ _ (by omega)]
    congr 2; omega
end Go.Proofs.YtndkhlafpcedbaaDoor
