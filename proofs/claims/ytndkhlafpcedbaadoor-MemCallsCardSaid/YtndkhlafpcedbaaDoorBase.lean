/- Words for slices that read as lists; plain laws of the wire's numbers. No program in sight. -/
import Derived.WalkKit
import Derived.Laws.BitsAllLaws
import Derived.Lib.Hide
import Derived.Below
import Derived.OwnWalk
import Derived.Laws.OwnMore
import Derived.Laws.BytesArg
namespace Go.Proofs.YtndkhlafpcedbaaDoor
set_option linter.unusedVariables false
open Go.RowKit

/-! ### a slice that reads as a list -/
/-- The slice address 'A' leads, in world 'w', to a row of the cells 'xs' in a block below 'B' (nothing is said where 'xs' is empty). -/
def Row (w : World) (B : Nat) (A : Option Addr) (xs : List Value) : Prop :=
  0 < xs.length → ∃ b o, A = some ⟨b, o, none⟩ ∧ b < B ∧ ∀ j u, xs[j]? = some u → w.cell? ⟨b, o + j, none⟩ = some u

theorem Row.nil (w : World) (B : Nat) (A : Option Addr) : Row w B A [] := fun h => absurd h (by simp)
theorem Row.more {w : World} {B B' : Nat} {A : Option Addr} {xs : List Value} (h : Row w B A xs) (hb : B ≤ B') : Row w B' A xs := fun hn =>
  let ⟨b, o, e, hlt, hc⟩ := h hn
  ⟨b, o, e, Nat.lt_of_lt_of_le hlt hb, hc⟩
theorem Row.keep {w w' : World} {B : Nat} {A : Option Addr} {xs : List Value} (h : Row w B A xs) (hk : ∀ p : Addr, p.block < B → w'.cell? p = w.cell? p) : Row w' B A xs := fun hn =>
  let ⟨b, o, e, hlt, hc⟩ := h hn
  ⟨b, o, e, hlt, fun j u hu => (hk _ hlt).trans (hc j u hu)⟩
theorem Row.below {w w' : World} {B : Nat} {A : Option Addr} {xs : List Value} (h : Row w B A xs) (hb : Below B w w') : Row w' B A xs :=
  h.keep fun _ hp => hb.cell hp
theorem Row.below' {w w' : World} {B B' : Nat} {A : Option Addr} {xs : List Value} (h : Row w B A xs) (hb : Below B' w w') (hB : B ≤ B') : Row w' B A xs :=
  h.keep fun _ hp => hb.cell (Nat.lt_of_lt_of_le hp hB)
theorem Row.at {w : World} {B : Nat} {A : Option Addr} {xs : List Value} (h : Row w B A xs) {j : Nat} {u : Value} (hu : xs[j]? = some u) :
    ∃ b o, A = some ⟨b, o, none⟩ ∧ b < B ∧ w.cell? ⟨b, o + j, none⟩ = some u := by
  have hj : j < xs.length := (List.getElem?_eq_some_iff.1 hu).1
  obtain ⟨b, o, e, hlt, hc⟩ := h (by omega)
  exact ⟨b, o, e, hlt, hc j u hu⟩
theorem Row.cut {w : World} {B : Nat} {A : Option Addr} {xs : List Value} (h : Row w B A xs) (n : Nat) : Row w B A (xs.take n) := fun hn => by
  rw [List.length_take] at hn
  obtain ⟨b, o, e, hlt, hc⟩ := h (by omega)
  refine ⟨b, o, e, hlt, fun j u hu => hc j u ?_⟩
  rw [List.getElem?_take] at hu
  split at hu
  · exact hu
  · cases hu
/-- An owned row reads. -/
theorem Row.own {w : World} {base : Nat} {e : TypeId} {A : Option Addr} {n c : Nat} {xs : List Value} (h : w.ownsRow base e 1 (.slice A n c) n xs) : Row w w.heap.size A xs := by
  intro hn
  rcases h.2 with ⟨_, h0⟩ | ⟨g, cap, cur, hv, _, hg, _, _, _, _⟩
  · have := h.1; subst h0; simp at this; subst this; simp at hn
  · have hA : A = some ⟨g, 0, none⟩ := by injection hv
    subst hA
    refine ⟨g, 0, rfl, (Array.getElem?_eq_some_iff.1 hg).1, fun j u hu => ?_⟩
    have := h.cells (g := g) rfl j u hu
    rw [Addr.add_lit] at this
    exact this

/-- A byte's cell. -/
def bv (c : UInt8) : Value := .int .u8 (c.toNat : Int)
theorem Row.byte {w : World} {B : Nat} {A : Option Addr} {l : List UInt8} (h : Row w B A (l.map bv)) {j : Nat} (hj : j < l.length) :
    ∃ b o, A = some ⟨b, o, none⟩ ∧ b < B ∧ w.cell? ⟨b, o + j, none⟩ = some (.int .u8 ((l[j]?.getD 0).toNat : Int)) := by
  refine h.at ?_
  rw [List.getElem?_map, List.getElem?_eq_getElem hj]
  rfl

theorem Row.drop {w : World} {B : Nat} {A : Option Addr} {xs : List Value} (h : Row w B A xs) (k : Nat) : Row w B (A.map (·.add k)) (xs.drop k) := by
  intro hn
  rw [List.length_drop] at hn
  obtain ⟨b, o, rfl, hlt, hc⟩ := h (by omega)
  refine ⟨b, o + k, by rw [Option.map_some, Addr.add_lit], hlt, fun j u hu => ?_⟩
  rw [List.getElem?_drop] at hu
  rw [Nat.add_assoc]
  exact hc _ u hu

theorem conv_bytes {P : Program} (src e dst : TypeId) (hs : P.underlying src = some (.slice e)) (he : P.underlying e = some (.int .u8)) (hd : P.underlying dst = some .string)
    (w : World) (B : Nat) (A : Option Addr) (m c : Nat) (sub : List UInt8) (hm : m = sub.length) (h : Row w B A (sub.map bv)) :
    (convert src dst (.slice A m c)).run P w = .ok (.string ⟨sub.toArray⟩) w := by
  rw [run_convert_bytes_string w src dst e A m c hs he hd]
  rcases A with _ | a
  · have : sub = [] := by
      rcases Nat.eq_zero_or_pos sub.length with h0 | h0
      · exact List.eq_nil_of_length_eq_zero h0
      · obtain ⟨_, _, h', _⟩ := h (by simpa using h0)
        cases h'
    subst this
    simp [Conv.bytesToString]
    rfl
  · have hl : (loadCells a m).run P w = .ok ((sub.map fun c => (c.toNat : Int)).map (Value.int .u8)).toArray w := by
      have := run_loadCells_list (P := P) w a (sub.map bv) (fun j v hj => by
        have hj' := (List.getElem?_eq_some_iff.1 hj).1
        obtain ⟨b, o, h', _, hc⟩ := h (by omega)
        injection h' with h'
        subst h'
        rw [Addr.add_lit]
        exact hc j v hj)
      rw [List.length_map, ← hm] at this
      rw [this, List.map_map]
      rfl
    rw [run_bytesToString w a m c _ hl, foldl_push_bytes, List.map_map]
    congr 2
    show ByteArray.mk (#[] ++ _) = _
    rw [Array.empty_append]
    congr 2
    exact List.map_id'' (fun c => by simp) sub

/-! ### plain laws of layer 1: how a number is read -/
/-- The reading of a number: 'n' rounds left, round 'i', 'v' so far, the bytes that follow: value, how many bytes, error. -/
def ruv : Nat → Nat → Nat → List UInt8 → Nat × Nat × Nat
  | 0, _, _, _ => (0, 0, 11)
  | _ + 1, _, _, [] => (0, 0, 10)
  | n + 1, i, v, c :: r =>
    if i = 9 ∧ 1 < c.toNat then (0, 0, 11)
    else if c.toNat < 128 then (if c.toNat = 0 ∧ 0 < i then (0, 0, 12) else (v + c.toNat % 128 * 128 ^ i, i + 1, 0))
    else ruv n (i + 1) (v + c.toNat % 128 * 128 ^ i) r

theorem and127 (c : Nat) (h : c < 256) : bits .and .u8 (c : Int) 127 = ((c % 128 : Nat) : Int) := by
  have := u8_and_nat c 127 h (by omega)
  rw [show ((127 : Nat) : Int) = 127 from rfl] at this
  rw [this, show (127 : Nat) = 2 ^ 7 - 1 from rfl, Nat.and_two_pow_sub_one_eq_mod]

theorem or_add (x d k : Nat) (hx : x < 128 ^ k) (hx64 : x < 18446744073709551616) (hd : d * 128 ^ k < 18446744073709551616) :
    bits .or .u64 (x : Int) ((d * 128 ^ k : Nat) : Int) = ((x + d * 128 ^ k : Nat) : Int) := by
  rw [u64_or_nat x _ hx64 hd]
  have e : (128 : Nat) ^ k = 2 ^ (7 * k) := by rw [Nat.pow_mul]
  rw [e] at hx ⊢
  have := Nat.shiftLeft_add_eq_or_of_lt hx d
  rw [Nat.shiftLeft_eq] at this
  rw [Nat.or_comm, ← this, Nat.add_comm]

theorem pow128_le (k : Nat) (hk : k ≤ 9) : 128 ^ k ≤ 9223372036854775808 := by
  have := Nat.pow_le_pow_right (show 0 < 128 by omega) hk
  exact Nat.le_trans this (by decide)

theorem acc_lt (x c k : Nat) (hk : k ≤ 9) (hx : x < 128 ^ k) (h9 : k = 9 → c ≤ 1) : x + c % 128 * 128 ^ k < 18446744073709551616 := by
  have h9' := pow128_le k hk
  by_cases h : k = 9
  · have := h9 h; subst h
    have : c % 128 = 0 ∨ c % 128 = 1 := by omega
    rcases this with e | e <;> rw [e] <;> omega
  · have h8 : 128 ^ k ≤ 72057594037927936 := by
      have := Nat.pow_le_pow_right (show 0 < 128 by omega) (show k ≤ 8 by omega)
      exact Nat.le_trans this (by decide)
    have : c % 128 * 128 ^ k ≤ 127 * 128 ^ k := Nat.mul_le_mul_right _ (by omega)
    omega

theorem acc_lt' (x c k : Nat) (hx : x < 128 ^ k) : x + c % 128 * 128 ^ k < 128 ^ (k + 1) := by
  have : c % 128 * 128 ^ k ≤ 127 * 128 ^ k := Nat.mul_le_mul_right _ (by omega)
  rw [Nat.pow_succ]; omega

theorem acc (x c k : Nat) (hk : k ≤ 9) (hc : c < 256) (hx : x < 128 ^ k) (h9 : k = 9 → c ≤ 1) :
    bits .or .u64 (x : Int) (IntKind.u64.wrap (IntKind.u64.wrap (bits .and .u8 (c : Int) 127) * 2 ^ (7 * k))) = ((x + c % 128 * 128 ^ k : Nat) : Int) := by
  have hlt := acc_lt x c k hk hx h9
  rw [and127 c hc]
  have e1 : IntKind.u64.wrap ((c % 128 : Nat) : Int) = ((c % 128 : Nat) : Int) := by
    rw [IntKind.wrap_u64]; omega
  rw [e1]
  have e2 : (((c % 128 : Nat) : Int) * 2 ^ (7 * k)) = ((c % 128 * 128 ^ k : Nat) : Int) := by
    have e : (128 : Nat) ^ k = 2 ^ (7 * k) := by rw [Nat.pow_mul]
    rw [e]; simp
  rw [e2]
  have e3 : IntKind.u64.wrap ((c % 128 * 128 ^ k : Nat) : Int) = ((c % 128 * 128 ^ k : Nat) : Int) := by
    rw [IntKind.wrap_u64]; omega
  rw [e3]
  exact or_add x _ k hx (by omega) (by omega)

theorem accR (x c k u : Nat) (hk : k ≤ 9) (_hc : c < 256) (hx : x < 128 ^ k) (h9 : k = 9 → c ≤ 1) (hu : u = 128 ^ k) :
    IntKind.u64.wrap ((x : Int) + IntKind.u64.wrap ((c : Int) % 128 * u)) = ((x + c % 128 * 128 ^ k : Nat) : Int) := by
  have hlt := acc_lt x c k hk hx h9
  subst hu
  have e : ((c : Int) % 128 * ((128 ^ k : Nat) : Int)) = ((c % 128 * 128 ^ k : Nat) : Int) := by simp
  rw [e, IntKind.wrap_u64, IntKind.wrap_u64]
  omega

theorem unit_step (k u : Nat) (hk : k < 9) (hu : u = 128 ^ k) : IntKind.u64.wrap ((u : Int) * 128) = ((128 ^ (k + 1) : Nat) : Int) := by
  have := pow128_le (k + 1) (by omega)
  subst hu
  rw [IntKind.wrap_u64, Nat.pow_succ]
  rw [Nat.pow_succ] at this
  omega

/-- The answer of ReadUvar. -/
def uvar (l : List UInt8) (p : Int) : Nat × Nat × Nat :=
  if p < 0 ∨ (l.length : Int) < p then (0, 0, 1)
  else
    let r := ruv 10 0 0 (l.drop p.toNat)
    (r.1, (if r.2.2 = 0 then p.toNat + r.2.1 else 0), r.2.2)

theorem ret3 {k1 k2 k3 : IntKind} {a a' b b' c c' : Int} (h1 : a = a') (h2 : b = b') (h3 : c = c') :
    Ending.returned (.tuple #[.int k1 a, .int k2 b, .int k3 c]) = .returned (.tuple #[.int k1 a', .int k2 b', .int k3 c']) := by
  rw [h1, h2, h3]

theorem ret3s {k2 k3 : IntKind} {a a' : ByteArray} {b b' c c' : Int} (h1 : a = a') (h2 : b = b') (h3 : c = c') :
    Ending.returned (.tuple #[.string a, .int k2 b, .int k3 c]) = .returned (.tuple #[.string a', .int k2 b', .int k3 c']) := by
  rw [h1, h2, h3]

theorem uvar_bad (l : List UInt8) (p : Int) (h : p < 0 ∨ (l.length : Int) < p) : uvar l p = (0, 0, 1) := by rw [uvar, if_pos h]
theorem uvar_of (l : List UInt8) (p : Nat) (h : p ≤ l.length) {v n e : Nat} (hr : ruv 10 0 0 (l.drop p) = (v, n, e)) :
    uvar l p = (v, (if e = 0 then p + n else 0), e) := by
  rw [uvar, if_neg (by omega)]
  simp [hr]

theorem ruv_cons (n i v : Nat) (c : UInt8) (r : List UInt8) : ruv (n + 1) i v (c :: r) =
    if i = 9 ∧ 1 < c.toNat then (0, 0, 11)
    else if c.toNat < 128 then (if c.toNat = 0 ∧ 0 < i then (0, 0, 12) else (v + c.toNat % 128 * 128 ^ i, i + 1, 0))
    else ruv n (i + 1) (v + c.toNat % 128 * 128 ^ i) r := rfl
theorem ruv_end (n i v : Nat) : ruv (n + 1) i v [] = (0, 0, 10) := rfl
theorem drop_at (l : List UInt8) (k : Nat) (h : k < l.length) : l.drop k = (l[k]?.getD 0) :: l.drop (k + 1) := by
  rw [List.drop_eq_getElem_cons h, List.getElem?_eq_getElem h]; rfl

theorem ruv_facts : ∀ (n i v : Nat) (l : List UInt8), i + n = 10 → v < 128 ^ i →
    (ruv n i v l).1 < 18446744073709551616 ∧ ((ruv n i v l).2.2 = 0 → (ruv n i v l).2.1 ≤ i + l.length ∧ i < (ruv n i v l).2.1) ∧
      ((ruv n i v l).2.2 ≠ 0 → (ruv n i v l).1 = 0 ∧ (ruv n i v l).2.1 = 0) ∧
      ((ruv n i v l).2.2 = 0 ∨ (ruv n i v l).2.2 = 10 ∨ (ruv n i v l).2.2 = 11 ∨ (ruv n i v l).2.2 = 12)
  | 0, _, _, _, _, _ => by simp [ruv]
  | n + 1, _, _, [], _, _ => by simp [ruv]
  | n + 1, i, v, c :: r, h, hv => by
    rw [ruv_cons]
    by_cases h1 : i = 9 ∧ 1 < c.toNat
    · rw [if_pos h1]; simp
    · rw [if_neg h1]
      have hlt := acc_lt v c.toNat i (by omega) hv (by omega)
      by_cases h2 : c.toNat < 128
      · rw [if_pos h2]
        by_cases h3 : c.toNat = 0 ∧ 0 < i
        · rw [if_pos h3]; simp
        · rw [if_neg h3]; simp; omega
      · rw [if_neg h2]
        have := ruv_facts n (i + 1) (v + c.toNat % 128 * 128 ^ i) r (by omega) (acc_lt' v c.toNat i hv)
        refine ⟨this.1, fun h => ?_, this.2.2⟩
        have := this.2.1 h
        simp; omega

theorem uvar_facts (l : List UInt8) (p : Int) : (uvar l p).1 < 18446744073709551616 ∧ (uvar l p).2.1 ≤ l.length ∧
    ((uvar l p).2.2 ≠ 0 → (uvar l p).1 = 0 ∧ (uvar l p).2.1 = 0) ∧ ((uvar l p).2.2 = 1 ↔ (p < 0 ∨ (l.length : Int) < p)) ∧ (uvar l p).2.2 ≤ 12 := by
  by_cases h : p < 0 ∨ (l.length : Int) < p
  · rw [uvar_bad l p h]; simp [h]
  · obtain ⟨q, rfl⟩ := Int.eq_ofNat_of_zero_le (show 0 ≤ p by omega)
    have hq : q ≤ l.length := by omega
    have hf := ruv_facts 10 0 0 (l.drop q) rfl (by omega)
    rw [uvar_of l q hq (v := (ruv 10 0 0 (l.drop q)).1) (n := (ruv 10 0 0 (l.drop q)).2.1) (e := (ruv 10 0 0 (l.drop q)).2.2) rfl]
    generalize ruv 10 0 0 (l.drop q) = r at *
    obtain ⟨v, n, e⟩ := r
    simp only [List.length_drop] at hf ⊢
    refine ⟨hf.1, ?_, ?_, ?_, ?_⟩
    · split <;> omega
    · intro he; rw [if_neg he]; exact ⟨(hf.2.2.1 he).1, rfl⟩
    · constructor
      · intro he; omega
      · intro he; omega
    · omega

/-- A number read as one with a sign. -/
def unfolded (u : Nat) : Int := if u % 2 = 1 then -((u / 2 : Nat) : Int) - 1 else ((u / 2 : Nat) : Int)
theorem and1 (v : Nat) (h : v < 18446744073709551616) : bits .and .u64 (v : Int) 1 = ((v % 2 : Nat) : Int) := by
  have := u64_and_nat v 1 h (by omega)
  rw [show ((1 : Nat) : Int) = 1 from rfl] at this
  rw [this, show (1 : Nat) = 2 ^ 1 - 1 from rfl, Nat.and_two_pow_sub_one_eq_mod]
theorem xor_m1 (a : Nat) (ha : a < 9223372036854775808) : bits .xor .i64 (a : Int) (-1) = -(a : Int) - 1 := by
  show IntKind.i64.wrap ((BitVec.ofInt 64 (a : Int) ^^^ BitVec.ofInt 64 (-1)).toNat : Int) = _
  have e : BitVec.ofInt 64 (-1) = BitVec.allOnes 64 := by decide
  have e2 : (BitVec.ofInt 64 (a : Int)).toNat = a := by
    rw [BitVec.ofInt_natCast, BitVec.toNat_ofNat]; exact Nat.mod_eq_of_lt (by omega)
  rw [e, BitVec.xor_allOnes, BitVec.toNat_not, e2, IntKind.wrap_i64]
  omega
theorem xor_0 (a : Nat) (ha : a < 9223372036854775808) : bits .xor .i64 (a : Int) 0 = (a : Int) := by
  show IntKind.i64.wrap ((BitVec.ofInt 64 (a : Int) ^^^ BitVec.ofInt 64 0).toNat : Int) = _
  have e : BitVec.ofInt 64 0 = 0#64 := by decide
  have e2 : (BitVec.ofInt 64 (a : Int)).toNat = a := by
    rw [BitVec.ofInt_natCast, BitVec.toNat_ofNat]; exact Nat.mod_eq_of_lt (by omega)
  rw [e, BitVec.xor_zero, e2, IntKind.wrap_i64]
  omega
theorem unfold_wire (v : Nat) (h : v < 18446744073709551616) :
    bits .xor .i64 ((v : Int) / 2) (wrap64 (-wrap64 (bits .and .u64 (v : Int) 1))) = unfolded v := by
  rw [and1 v h, show ((v : Int) / 2) = ((v / 2 : Nat) : Int) from by omega]
  unfold unfolded
  have : v % 2 = 0 ∨ v % 2 = 1 := by omega
  rcases this with e | e <;> rw [e]
  · rw [show wrap64 (-wrap64 ((0 : Nat) : Int)) = 0 from by unfold wrap64; omega, xor_0 _ (by omega)]; simp
  · rw [show wrap64 (-wrap64 ((1 : Nat) : Int)) = -1 from by unfold wrap64; omega, xor_m1 _ (by omega)]; simp

/-- The answer of ReadCount (great: the error of a number too great). -/
def cnt (l : List UInt8) (p most : Int) (great : Nat) : Nat × Nat × Nat :=
  if (uvar l p).2.2 = 1 ∨ most < 0 then (0, 0, 1)
  else if (uvar l p).2.2 ≠ 0 then (0, 0, (uvar l p).2.2)
  else if most < ((uvar l p).1 : Int) then (0, 0, great)
  else ((uvar l p).1, (uvar l p).2.1, 0)
/-- The answer of ReadText. -/
def txt (l : List UInt8) (p most : Int) : List UInt8 × Nat × Nat :=
  if (cnt l p most 13).2.2 ≠ 0 then ([], 0, (cnt l p most 13).2.2)
  else if l.length < (cnt l p most 13).1 + (cnt l p most 13).2.1 then ([], 0, 10)
  else ((l.drop (cnt l p most 13).2.1).take (cnt l p most 13).1, (cnt l p most 13).2.1 + (cnt l p most 13).1, 0)
theorem cnt_great (l : List UInt8) (p most : Int) (g g' : Nat) (hg : g = 13 ∨ g = 20) (hg' : g' = 13 ∨ g' = 20) :
    ((cnt l p most g).2.2 = g ∧ (cnt l p most g').2.2 = g') ∨ ((cnt l p most g).2.2 ≠ g ∧ (cnt l p most g').2.2 ≠ g' ∧ cnt l p most g = cnt l p most g') := by
  have hf := uvar_facts l p
  unfold cnt
  generalize uvar l p = r at *
  obtain ⟨v, n, e⟩ := r
  simp only at hf ⊢
  by_cases h1 : e = 1 ∨ most < 0
  · simp only [if_pos h1]; right; simp; omega
  · simp only [if_neg h1]
    by_cases h2 : e ≠ 0
    · simp only [if_pos h2]; right; simp; omega
    · simp only [if_neg h2]
      by_cases h3 : most < (v : Int)
      · simp only [if_pos h3]; left; simp
      · simp only [if_neg h3]; right; simp; omega
theorem cnt_facts (l : List UInt8) (p most : Int) (great : Nat) (hm : most < 9223372036854775808) (hg : great ≤ 100) :
    (cnt l p most great).1 < 9223372036854775808 ∧ (cnt l p most great).2.1 ≤ l.length ∧ (cnt l p most great).2.2 ≤ 100 := by
  have hf := uvar_facts l p
  unfold cnt
  generalize uvar l p = r at *
  obtain ⟨v, n, e⟩ := r
  simp only at hf ⊢
  repeat' split
  all_goals simp <;> omega
end Go.Proofs.YtndkhlafpcedbaaDoor
