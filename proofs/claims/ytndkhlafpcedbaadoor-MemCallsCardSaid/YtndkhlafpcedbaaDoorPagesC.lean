/- flagonref00.text: a mark as a text. -/
import Derived.Test.YtndkhlafpcedbaaDoorPagesB
import Derived.Test.YtndkhlafpcedbaaDoorBagN
import Derived.Test.YtndkhlafpcedbaaDoorWireF
import Derived.Test.YtndkhlafpcedbaaDoorShelf
import Derived.Lib.ItoaLen
namespace Go.Proofs.YtndkhlafpcedbaaDoor
set_option linter.unusedVariables false
open Go.RowKit
def HTab (w : World) : Prop := Lib.TabIs Tryd.prog w "internal/strconv.uint64pow10" .u64 Lib.pow10Tab
theorem tab_below {P : Program} {w w' : World} {name : String} {k : IntKind} {zs : List Int} (h : Lib.TabIs P w name k zs) {B : Nat} (hb : Below B w w') (hB : w.heap.size ≤ B) : Lib.TabIs P w' name k zs := by
  unfold Lib.TabIs World.var? at *
  cases hg : P.globalNamed name with
  | none => simp [hg] at h
  | some g =>
    simp only [hg, Option.bind_some] at h ⊢
    by_cases hlt : g < w.heap.size
    · rw [hb.block g (by omega)]; exact h
    · rw [Array.getElem?_eq_none (by omega)] at h; cases h
def textS (k i : Nat) : ByteArray := ⟨#[33]⟩ ++ ⟨(Lib.itoa ((1048576 * k + i + 1 : Nat) : Int)).toArray⟩
theorem textS_size (k i : Nat) (hk : k ≤ 300) (hi : i ≤ 10000100) : (textS k i).size ≤ 22 := by
  have := Lib.itoa_length_le ((1048576 * k + i + 1 : Nat) : Int) (by omega) (by omega)
  unfold textS
  rw [ByteArray.size_append]
  show 1 + (Lib.itoa _).toArray.size ≤ 22
  rw [List.size_toArray]
  omega
set_option maxRecDepth 100000 in
theorem bag_text (k i : Nat) (hk : k ≤ 300) (hi : i ≤ 10000100) (w : World) (ht : HTab w) : Calls Tryd.prog 82 #[.int .i64 (k : Int), .int .i64 (i : Int)] w fun e w' => e = .returned (.string (textS k i)) ∧ Below w.heap.size w w' := by
  have hc := Tryd.strconv_Itoa ((1048576 * k + i + 1 : Nat) : Int) (by omega) (by omega) w ht
  have Hc := Lib.hid hc; clear hc
  have hlen := Lib.itoa_length_le ((1048576 * k + i + 1 : Nat) : Int) (by omega) (by omega)
  have hT : textS k i = ⟨#[33]⟩ ++ ⟨(Lib.itoa ((1048576 * k + i + 1 : Nat) : Int)).toArray⟩ := rfl
  have HT := Lib.hid hT; clear hT
  have he : ((1048576 * k + i + 1 : Nat) : Int) = 1048576 * (k : Int) + i + 1 := by omega
  rw [he] at hlen
  have He := Lib.hid he; clear he
  go_enter Tryd.func82, Tryd.ntmps82
  go_wp2_with fail
  refine (bag_num k i hk hi w).mono ?_
  rintro e w' ⟨rfl, rfl⟩
  go_wp2_with fail
  refine Hc.out.mono ?_
  rintro e w' ⟨rfl, kk, os, rfl⟩
  go_wp2_with fail
  go_ret
  refine ⟨?_, ⟨rfl, rfl, rfl, by simp [«Sort».grow], fun j hj => by simp [«Sort».grow, World.drewN]; rw [Array.getElem?_append_left hj]⟩⟩
  rw [HT.out, He.out]
  rfl
end Go.Proofs.YtndkhlafpcedbaaDoor
