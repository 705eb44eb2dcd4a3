/- Plain laws of letters, shapes and values that fit. No program in sight. -/
import Derived.Test.YtndkhlafpcedbaaDoorIter
namespace Go.Proofs.YtndkhlafpcedbaaDoor
set_option linter.unusedVariables false
/-- Letters alone, at most so many. -/
def letB (m : Nat) (l : List UInt8) : Bool := decide (l.length ≤ m) && l.all isL
theorem eachB_true : ∀ (i : Nat) (l : List UInt8), eachB (fun _ _ => true) i l = l.all isL
  | _, [] => rfl
  | i, c :: r => by rw [eachB_cons, eachB_true (i + 1) r]; simp
/-- A value fits a letter. -/
def fitN (v c : Nat) : Bool := c == 108 || (c == 119 && decide (v < 4294967296))
def fitB (v : Nat) (c : UInt8) : Bool := fitN v c.toNat
/-- Values fit a shape, one by one. -/
def allB : List Nat → List UInt8 → Bool
  | [], [] => true
  | v :: vs, c :: cs => fitB v c && allB vs cs
  | _, _ => false
theorem fit_letter (v : Nat) (c : UInt8) (h : fitB v c = true) : isL c = true := by
  unfold fitB fitN at h
  unfold isL isN
  simp at h ⊢
  omega
theorem eachB_fit (vs0 : List Nat) : ∀ (k : Nat) (l : List UInt8), vs0.length = k + l.length → eachB (fun i c => fitB (vs0[i]?.getD 0) c) k l = allB (vs0.drop k) l
  | k, [], h => by
    rw [List.drop_of_length_le (by simp at h; omega)]
    rfl
  | k, c :: r, h => by
    have hk : k < vs0.length := by simp at h; omega
    rw [eachB_cons, eachB_fit vs0 (k + 1) r (by simp at h; omega), List.drop_eq_getElem_cons hk, List.getElem?_eq_getElem hk]
    show (isL c && (fitB vs0[k] c && allB (vs0.drop (k + 1)) r)) = (fitB vs0[k] c && allB (vs0.drop (k + 1)) r)
    cases hf : fitB vs0[k] c with
    | false => simp
    | true => rw [fit_letter _ _ hf]; simp
theorem allB_len : ∀ (vs : List Nat) (l : List UInt8), allB vs l = true → vs.length = l.length
  | [], [], _ => rfl
  | v :: vs, c :: cs, h => by
    simp only [allB, Bool.and_eq_true] at h
    simp [allB_len vs cs h.2]
  | [], c :: cs, h => by simp [allB] at h
  | v :: vs, [], h => by simp [allB] at h
theorem allB_ne (vs : List Nat) (l : List UInt8) (h : vs.length ≠ l.length) : allB vs l = false := by
  cases hb : allB vs l with
  | false => rfl
  | true => exact absurd (allB_len vs l hb) h
/-- A number's cell. -/
def uv (v : Nat) : Go.Value := .int .u64 (v : Int)
theorem Row.word {w : Go.World} {B : Nat} {A : Option Go.Addr} {l : List Nat} (h : Row w B A (l.map uv)) {j : Nat} (hj : j < l.length) :
    ∃ b o, A = some ⟨b, o, none⟩ ∧ b < B ∧ w.cell? ⟨b, o + j, none⟩ = some (.int .u64 ((l[j]?.getD 0 : Nat) : Int)) := by
  refine h.at ?_
  rw [List.getElem?_map, List.getElem?_eq_getElem hj]
  rfl
end Go.Proofs.YtndkhlafpcedbaaDoor
