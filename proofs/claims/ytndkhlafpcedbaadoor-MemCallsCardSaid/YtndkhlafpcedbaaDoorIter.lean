/- A range over a text, its iterator wherever it lies. No program in sight. -/
import Derived.Test.YtndkhlafpcedbaaDoorMem
import Derived.Laws.RangeAny
namespace Go.Proofs.YtndkhlafpcedbaaDoor
set_option linter.unusedVariables false
open Go.RowKit
/-- Block 'g' is an iterator over the text 's' that stands at 'pos'. -/
def IterAt (w : World) (g : Nat) (s : ByteArray) (pos : Nat) : Prop := w.heap[g]? = some (.stringIter s pos)
/-- The world with that iterator set on. -/
def setIter (w : World) (g : Nat) (s : ByteArray) (pos : Nat) : World := { w with heap := w.heap.setIfInBounds g (.stringIter s pos) }
theorem IterAt.lt {w : World} {g : Nat} {s : ByteArray} {pos : Nat} (h : IterAt w g s pos) : g < w.heap.size := (Array.getElem?_eq_some_iff.1 h).1
theorem IterAt.new (w : World) (s : ByteArray) (pos : Nat) : IterAt (w.iter s pos) w.heap.size s pos := World.iter_heap w s pos
theorem IterAt.set {w : World} {g : Nat} {s : ByteArray} {pos : Nat} (h : IterAt w g s pos) (pos' : Nat) : IterAt (setIter w g s pos') g s pos' := by
  have := h.lt
  simp [IterAt, setIter, this]
theorem IterAt.below {w w' : World} {g B : Nat} {s : ByteArray} {pos : Nat} (h : IterAt w g s pos) (hb : Below B w w') (hg : g < B) : IterAt w' g s pos := (hb.block g hg).trans h
theorem below_setIter {w : World} {g B : Nat} {s : ByteArray} (pos' : Nat) (hB : B ≤ g) : Below B w (setIter w g s pos') :=
  ⟨rfl, rfl, rfl, by simp [setIter], fun k hk => by simp only [setIter]; rw [Array.getElem?_setIfInBounds_ne (by omega)]⟩
theorem below_iter (w : World) (s : ByteArray) (pos : Nat) : Below w.heap.size w (w.iter s pos) := (Below.refl _ _).alloc (Nat.le_refl _) _
theorem next_at {P : Program} {w : World} {g : Nat} {s : ByteArray} {pos : Nat} (h : IterAt w g s pos) (hlt : pos < s.size) (ty : TypeId) :
    (Instr.next (.pointer (some ⟨g, 0, none⟩)) true ty).run P w = .ok (.tuple #[.bool true, .int .i64 pos, .int .i32 (Utf8.decode s pos).1]) (setIter w g s (pos + (Utf8.decode s pos).2)) := by
  unfold IterAt at h
  simp only [Instr.next, getObj, setObj, Sem.run_bind, Sem.run, h, Result.andThen, hlt, if_true]
  simp [goInt, setIter]
theorem next_end {P : Program} {w : World} {g : Nat} {s : ByteArray} {pos : Nat} (h : IterAt w g s pos) (hge : ¬ pos < s.size) (ty : TypeId) :
    (Instr.next (.pointer (some ⟨g, 0, none⟩)) true ty).run P w = .ok (.tuple #[.bool false]) w := by
  unfold IterAt at h
  simp [Instr.next, getObj, Sem.run, h, hge]
def iterPos' (w : World) (g : Nat) : Nat := match w.heap[g]? with | some (.stringIter _ p) => p | _ => 0
theorem IterAt.pos {w : World} {g : Nat} {s : ByteArray} {pos : Nat} (h : IterAt w g s pos) : iterPos' w g = pos := by
  unfold IterAt at h
  simp [iterPos', h]
theorem byte_at (s : ByteArray) (k : Nat) (h : k < s.size) : s[k] = s.data.toList[k]?.getD 0 := by
  have : k < s.data.toList.length := by simpa using h
  rw [List.getElem?_eq_getElem this]
  rfl
theorem decode_low (s : ByteArray) (k : Nat) (h : k < s.size) (hc : (s.data.toList[k]?.getD 0).toNat < 128) : Utf8.decode s k = ((s.data.toList[k]?.getD 0).toNat, 1) := by
  rw [← byte_at s k h] at hc ⊢
  exact decode_ascii s k h hc
theorem decode_hi (s : ByteArray) (k : Nat) (h : k < s.size) (hc : ¬ (s.data.toList[k]?.getD 0).toNat < 128) : 128 ≤ (Utf8.decode s k).1 ∧ 1 ≤ (Utf8.decode s k).2 := by
  rw [← byte_at s k h] at hc
  exact decode_high s k h (by omega)

/-- A letter. -/
def isN (c : Nat) : Bool := c == 119 || c == 108
def isL (c : UInt8) : Bool := isN c.toNat
/-- All bytes, with their places, are letters and found good. -/
def eachB (gd : Nat → UInt8 → Bool) : Nat → List UInt8 → Bool
  | _, [] => true
  | i, c :: r => isL c && (gd i c && eachB gd (i + 1) r)
theorem eachB_cons (gd : Nat → UInt8 → Bool) (i : Nat) (c : UInt8) (r : List UInt8) : eachB gd i (c :: r) = (isL c && (gd i c && eachB gd (i + 1) r)) := rfl
theorem isN_hi (c : Nat) (h : ¬ c < 128) : isN c = false := by
  unfold isN
  simp
  omega
end Go.Proofs.YtndkhlafpcedbaaDoor
