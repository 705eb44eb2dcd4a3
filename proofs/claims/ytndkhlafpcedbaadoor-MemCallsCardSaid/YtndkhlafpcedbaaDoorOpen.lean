/- Arguments opened: slices of integers, of bytes. No program in sight. -/
import Derived.Test.YtndkhlafpcedbaaDoorBase
import Derived.ChangeSlices
import Derived.SizedLaws
namespace Go.Proofs.YtndkhlafpcedbaaDoor
set_option linter.unusedVariables false
open Go.ChangeShapes Go.WideShapes Go.RowKit
section
variable {H : Type} {enc : TypeId × Value → H} {P : Program} {w : World} {base : Nat} {spare : Nat → Bool} {held : Bool}
theorem open_row {t e : TypeId} {k : IntKind} {by_ : Nat} (ht : P.underlying t = some (.slice e)) (he : P.underlying e = some (.int k)) (hc : P.cellsOf e = 1) (hby : P.bytesOf e = by_)
    {A : Option Addr} {len cap : Nat} {d : DataW H} {p : List MemPlace} (h : DataW.Trod enc P w base spare held t (.slice A len cap) d p) :
    ∃ xs : List Int, len = xs.length ∧ len ≤ cap ∧ cap ≤ maxLen ∧ Row w w.heap.size A (xs.map (Value.int k)) ∧ (∀ n ∈ xs, (Lit.int k n).wf = true) ∧
      ∀ (ts : List TypeId) (ds : List (DataW H)) (j : Nat), (DataW.weightsEach P ts ds).all (· ≤ reachBytes) = true → ts[j]? = some t → ds[j]? = some d → len * by_ ≤ 140737488351232 := by
  obtain ⟨fuel, hf⟩ := h
  rcases open_ints ht he hc hf with ⟨hcs, _⟩ | ⟨x, l, c, zs, hcs, _, hl, hm, hz, hx, hcell, hwz⟩
  · simp [Value.cells] at hcs
    obtain ⟨rfl, rfl, rfl⟩ := hcs
    exact ⟨[], rfl, Nat.le_refl _, Nat.zero_le _, Row.nil _ _ _, by simp, fun _ _ _ _ _ _ => by omega⟩
  · simp [Value.cells] at hcs
    obtain ⟨rfl, rfl, rfl⟩ := hcs
    have hlz : len ≤ zs.length := by rw [hz]; split <;> omega
    refine ⟨zs.take len, by rw [List.length_take]; omega, hl, hm, ?_, fun n hn => hwz n (List.mem_of_mem_take hn), ?_⟩
    · intro hn
      obtain ⟨b, off, spot⟩ := x
      have h0 := hcell 0 (by simp at hn; omega)
      have hspot : spot = none := by simpa [Addr.add] using World.cell?_spot h0
      subst hspot
      have hb : b < w.heap.size := World.block_lt_of_cell? w _ (by simpa [Addr.add] using h0)
      refine ⟨b, off, rfl, hb, fun j u hu => ?_⟩
      rw [List.map_take, List.getElem?_take] at hu
      split at hu
      · rename_i hj
        rw [← Addr.add_lit, hcell j (by omega), List.getD]
        rw [List.getElem?_map] at hu
        cases hzj : zs[j]? with
        | none => rw [hzj] at hu; cases hu
        | some z => rw [hzj] at hu; simpa using hu
      · cases hu
    · intro ts ds j hs hts hds
      injection hx with hx1 hx2
      subst hx1
      have := sized_slice hs hts hds ht
      rw [hby] at this
      simp only [lits, List.length_map, List.length_take, List.length_drop, reachBytes] at this
      have hle : len * by_ ≤ (min len zs.length + (zs.length - len)) * by_ := Nat.mul_le_mul_right _ (by omega)
      omega
theorem bytes_of_ints : ∀ (xs : List Int), (∀ n ∈ xs, (Lit.int .u8 n).wf = true) → ∃ l : List UInt8, l.length = xs.length ∧ xs.map (Value.int .u8) = l.map bv
  | [], _ => ⟨[], rfl, rfl⟩
  | x :: xs, h => by
    obtain ⟨l, hl, he⟩ := bytes_of_ints xs fun n hn => h n (List.mem_cons_of_mem _ hn)
    have hx := h x (List.mem_cons_self ..)
    simp only [Lit.wf, Bool.and_eq_true, decide_eq_true_eq] at hx
    have hmin : IntKind.u8.min = 0 := rfl
    have hmax : IntKind.u8.max = 255 := rfl
    refine ⟨UInt8.ofNat x.toNat :: l, by simp [hl], ?_⟩
    rw [List.map_cons, List.map_cons, he]
    congr 1
    unfold bv
    rw [UInt8.toNat_ofNat_of_lt' (by simp only [UInt8.size]; omega)]
    congr 1
    omega
theorem open_bytes {t e : TypeId} (ht : P.underlying t = some (.slice e)) (he : P.underlying e = some (.int .u8)) (hc : P.cellsOf e = 1) (hby : P.bytesOf e = 1)
    {A : Option Addr} {len cap : Nat} {d : DataW H} {p : List MemPlace} (h : DataW.Trod enc P w base spare held t (.slice A len cap) d p) :
    ∃ l : List UInt8, len = l.length ∧ len ≤ cap ∧ Row w w.heap.size A (l.map bv) ∧
      ∀ (ts : List TypeId) (ds : List (DataW H)) (j : Nat), (DataW.weightsEach P ts ds).all (· ≤ reachBytes) = true → ts[j]? = some t → ds[j]? = some d → len ≤ 140737488351232 := by
  obtain ⟨xs, h1, h2, _, h3, h4, h5⟩ := open_row ht he hc hby h
  obtain ⟨l, hl, hm⟩ := bytes_of_ints xs h4
  exact ⟨l, by omega, h2, by rw [← hm]; exact h3, fun ts ds j a b c => by have := h5 ts ds j a b c; omega⟩
theorem bd_i64 {n : Int} (h : (Lit.int .i64 n).wf = true) : -9223372036854775808 ≤ n ∧ n < 9223372036854775808 := by
  simp only [Lit.wf, Bool.and_eq_true, decide_eq_true_eq] at h
  have hmin : IntKind.i64.min = -9223372036854775808 := rfl
  have hmax : IntKind.i64.max = 9223372036854775807 := rfl
  omega
theorem bd_u64 {n : Int} (h : (Lit.int .u64 n).wf = true) : 0 ≤ n ∧ n < 18446744073709551616 := by
  simp only [Lit.wf, Bool.and_eq_true, decide_eq_true_eq] at h
  have hmin : IntKind.u64.min = 0 := rfl
  have hmax : IntKind.u64.max = 18446744073709551615 := rfl
  omega
theorem bd_u8 {n : Int} (h : (Lit.int .u8 n).wf = true) : 0 ≤ n ∧ n < 256 := by
  simp only [Lit.wf, Bool.and_eq_true, decide_eq_true_eq] at h
  have hmin : IntKind.u8.min = 0 := rfl
  have hmax : IntKind.u8.max = 255 := rfl
  omega
end
end Go.Proofs.YtndkhlafpcedbaaDoor
