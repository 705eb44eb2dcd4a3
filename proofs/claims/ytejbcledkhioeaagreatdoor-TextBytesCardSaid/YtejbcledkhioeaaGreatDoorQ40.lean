/- Part 40 of the proof: EnvW -/
import Derived.Test.YtejbcledkhioeaaGreatDoorRows
import Derived.LaidMore
import Derived.Stop.LaidErr
import Derived.MakeChecks
import Derived.Lib.LaidTab
import Derived.Test.YtejbcledkhioeaaGreatDoorQ13
namespace Go.Proofs.YtejbcledkhioeaaGreatDoor
set_option linter.unusedVariables false
set_option linter.unusedSimpArgs false
set_option maxRecDepth 100000
set_option maxHeartbeats 4000000
open Go.RowKit _root_.Go.Proofs.Tryz
theorem Pn {P:Program} {w w':World} {name:String} {cs:Array Value} (h:w.var? P name=some cs) {B:Nat} (hb:Below B w w') (hB:w.heap.size≤B):w'.var? P name=some cs:=by
 unfold World.var? at*
 cases hg:P.globalNamed name with
 | none=>simp [hg] at h
 | some g=>
  simp only [hg,Option.bind_some] at h⊢
  by_cases hlt:g<w.heap.size
  ·rw [hb.block g (by omega)];exact h
  ·rw [Array.getElem?_eq_none (by omega)] at h;cases h
theorem vT:Rows.laid_internal_strconv_uint64pow10=(Lib.tabData .u64 Lib.pow10Tab:DataW Unit):=by kernel_rfl
theorem kQ:Rows.laid_strings_asciiSpace=(Lib.tabData .u8 Lib.asciiSpaceTab:DataW Unit):=by kernel_rfl
theorem Zv: "*"++ "errors.errorString"= "*errors.errorString":=by decide
theorem vU (u:TypeId) (h:prog.typeName? 3 u=some "*errors.errorString"):u=293:=
 typeName_ptr_named (nm:= "errors.errorString") (by rw [Zv];kernel_rfl) (by kernel_rfl) (by decide) u (by rw [Zv];exact h)
theorem AAJ {W:World} (hL:laidMetH prog Rows.textBackRow.laid W) (hmx: ∃m:Int,W.cell? ⟨0,0,none⟩=some (.int .i64 m)):Dv W.heap.size W:=by
 rw [MakeChecks.laidMetH_plain _ _ _ (by kernel_rfl)] at hL
 have h2:=laidMet.tail (laidMet.tail hL)
 have h4:=laidMet.tail (laidMet.tail h2)
 have h5:=laidMet.tail h4
 have h7:=laidMet.tail (laidMet.tail h5)
 have hp:Lib.TabIs prog W "internal/strconv.uint64pow10" .u64 Lib.pow10Tab:=Lib.tabIs_of_head (g:=1) (n:=20) (by kernel_rfl) (by kernel_rfl) underlying251 underlying80 (by kernel_rfl) (by kernel_rfl) (by rw [←vT];exact h2)
 have ha:Lib.TabIs prog W "strings.asciiSpace" .u8 Lib.asciiSpaceTab:=Lib.tabIs_of_head (g:=2) (n:=256) (by kernel_rfl) (by kernel_rfl) underlying255 underlying5 (by kernel_rfl) (by kernel_rfl) (by rw [←kQ];exact h7)
 have hr: ∀u,prog.typeName? 3 u=some "*errors.errorString"→u=293:=fun u h=>vU u h
 obtain⟨a1,s1,hv1,_⟩:=laid_sentinel h4 (g:=9) (by kernel_rfl) (by kernel_rfl) underlying73 hr underlying293 underlying295 rfl rfl underlying9 (by kernel_rfl) (by kernel_rfl)
 obtain⟨a2,s2,hv2,_⟩:=laid_sentinel h5 (g:=8) (by kernel_rfl) (by kernel_rfl) underlying73 hr underlying293 underlying295 rfl rfl underlying9 (by kernel_rfl) (by kernel_rfl)
 obtain⟨mx,hmx⟩:=hmx
 have h0:0<W.heap.size:=by
  rcases Nat.eq_zero_or_pos W.heap.size with h | h
  ·exfalso
   have hn:W.heap[0]?=none:=Array.getElem?_eq_none (by omega)
   simp [World.cell?,hn] at hmx
  ·exact h
 refine⟨fun w' hb=>Pn hp hb (Nat.le_refl _),fun w' hb=>Pn ha hb (Nat.le_refl _),fun w' hb=>⟨_,_,Pn hv2 hb (Nat.le_refl _)⟩,fun w' hb=>⟨_,_,Pn hv1 hb (Nat.le_refl _)⟩,fun w' hb=>⟨mx,?_⟩⟩
 exact(hb.cell (p:=⟨0,0,none⟩) h0).trans hmx
end Go.Proofs.YtejbcledkhioeaaGreatDoor
