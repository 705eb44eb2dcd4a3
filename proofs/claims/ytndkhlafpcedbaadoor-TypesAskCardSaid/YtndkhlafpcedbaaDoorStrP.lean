/- Plain laws of texts as stacks of letters. No program in sight. -/
import Derived.Test.YtndkhlafpcedbaaDoorShapeP
import Derived.Laws.Strings
namespace Go.Proofs.YtndkhlafpcedbaaDoor
set_option linter.unusedVariables false
def letS (s : ByteArray) : Bool := letB 256 s.data.toList
def sv (s : ByteArray) : Go.Value := .string s
/-- Does a text end with another one? -/
def ends (s t : ByteArray) : Bool := decide (t.size ≤ s.size) && ((s.extract (s.size - t.size) s.size).toList == t.toList)
theorem ends_le (s t : ByteArray) (h : ends s t = true) : t.size ≤ s.size := by
  unfold ends at h
  simp at h
  exact h.1
/-- What Push, Pop, Keep answer. -/
def pushS (s t : ByteArray) : ByteArray × Nat := if (letS s && letS t) = false then (ByteArray.empty, 15) else if 256 < s.size + t.size then (ByteArray.empty, 34) else (s ++ t, 0)
def popS (s t : ByteArray) : ByteArray × Nat := if (letS s && letS t) = false then (ByteArray.empty, 15) else if ends s t = false then (ByteArray.empty, 33) else (s.extract 0 (s.size - t.size), 0)
def topS (s t : ByteArray) : Bool := (letS s && letS t) && ends s t
def keepS (s : ByteArray) (f : Int) (t : ByteArray) : ByteArray × Nat :=
  if (letS s && letS t) = false then (ByteArray.empty, 15)
  else if f < 0 ∨ ends s t = false ∨ (s.size : Int) - t.size < f then (ByteArray.empty, 33)
  else (s.extract 0 f.toNat ++ t, 0)
end Go.Proofs.YtndkhlafpcedbaaDoor
