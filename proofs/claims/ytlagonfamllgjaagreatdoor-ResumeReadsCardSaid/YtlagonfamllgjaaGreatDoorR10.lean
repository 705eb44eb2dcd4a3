/- Part 10 of the proof: OpsR OpsQ OpsO -/
import Derived.Lib.AppendIntMem
import Derived.StillTailTactics
import Derived.Test.YtlagonfamllgjaaGreatDoorR05
import Derived.Test.YtlagonfamllgjaaGreatDoorR06
import Derived.Test.YtlagonfamllgjaaGreatDoorR09
namespace Go.Proofs.YtlagonfamllgjaaGreatDoor
set_option linter.unusedVariables false
set_option linter.unusedSimpArgs false
set_option maxRecDepth 100000
set_option maxHeartbeats 4000000
open Go.RowKit Tryz
def ascii (s:ByteArray):Prop:=s.size<4294967281∧ ∀(j:Nat) b,s.data.toList[j]?=some b→b.toNat<128
def kD (from_ op:Nat) (s ahead:ByteArray) (w:World) (e:Ending) (w':World):Prop:=
 Below w.heap.size w w'∧(((Lib.fields s.data.toList).length≤op-from_∧e= .returned (.tuple #[.slice none 0 0,.int .i64 (-1),.string ByteArray.empty]))∨
  (op-from_<(Lib.fields s.data.toList).length∧e= .returned (.tuple #[.slice (some ⟨w.heap.size,0,none⟩) (Lib.fields s.data.toList).length (Lib.fields s.data.toList).length,.int .i64 ((op-from_:Nat):Int),.string ahead])∧
   ∀j:Nat,∀x,(Lib.fields s.data.toList)[j]?=some x→w'.cell? ⟨w.heap.size,j,none⟩=some (.string ⟨x.toArray⟩)))
theorem JF (a:Addr) (from_ op:Nat) (s ahead:ByteArray) (w:World) (hs:ascii s) (hle:from_≤op) (hop:op<256) (hlen:(Lib.fields s.data.toList).length≤4294967281) (ha:w.cell? a=some (.int .u8 op)) (hab:a.block<w.heap.size) (htab:Lib.TabIs prog w "strings.asciiSpace" .u8 Lib.asciiSpaceTab):
 Calls prog 197 #[.int .u8 from_,.string s,.string ahead,.pointer (some a)] w (kD from_ op s ahead w):=by
 have H1:=AA htab
 have Hs:=AA hs
 clear htab hs
 go_enter func197,ntmps197
 go_wp2_with fail
 refine(strings_Fields s w Hs.out.1 Hs.out.2 H1.out).mono ?_
 rintro e w1 ⟨rfl,rfl⟩
 generalize hL:Lib.fields s.data.toList=L at*
 have hgr:Below w.heap.size w (w.alloc (.cells (L.map fun l=>Value.string ⟨l.toArray⟩).toArray 9)):=(Below.refl _ _).alloc (Nat.le_refl _) _
 have ha1:(w.alloc (.cells (L.map fun l=>Value.string ⟨l.toArray⟩).toArray 9)).cell? a=some (.int .u8 op):=by rw [hgr.cell hab];exact ha
 have HB:=AA hgr
 have Hc:Hid (∀(j:Nat) x,L[j]?=some x→(w.alloc (.cells (L.map fun l=>Value.string ⟨l.toArray⟩).toArray 9)).cell? ⟨w.heap.size,j,none⟩=some (.string ⟨x.toArray⟩)):=AA (fun j x hx=>by
  have hb:=AQ.new w 9 (L.map fun l=>Value.string ⟨l.toArray⟩)
  rw [hb.cell,List.getElem?_map,hx];rfl)
 generalize w.alloc (.cells (L.map fun l=>Value.string ⟨l.toArray⟩).toArray 9)=w1 at*
 clear hgr ha
 obtain⟨n,rfl⟩: ∃n,op=from_+n:=⟨op-from_,by omega⟩
 have hsub:from_+n-from_=n:=by omega
 have hw8:IntKind.u8.wrap (((from_+n:Nat):Int)-(from_:Int))=(n:Int):=by rw [show((from_+n:Nat):Int)-(from_:Int)=(n:Int)by omega];exact IntWalk.u8_in _ ⟨by omega,by omega⟩
 by_cases hn:L.length≤n
 ·go_wp2_with fail
  go_ret3
  refine⟨HB.out,?_⟩
  rw [hL,hsub]
  exact .inl ⟨hn,rfl⟩
 ·go_wp2_with fail
  go_quiet (fail)
  go_wp2_with fail
  go_ret3
  refine⟨below_drewN HB.out _,?_⟩
  rw [hL,hsub]
  refine .inr ⟨by omega,?_,fun j x hx=>Hc.out j x hx⟩
  simp
  omega
theorem Kt {w:World} {a:Addr} {v:Value} (h:w.cell? a=some v):a.block<w.heap.size:=by
 unfold World.cell? at h
 by_cases hlt:a.block<w.heap.size
 ·exact hlt
 ·rw [Array.getElem?_eq_none (by omega)] at h
  simp at h
theorem KI {s:ByteArray} (h1:s.size<4294967281) (h2:s.data.toList.all (fun b=>b.toNat<128)=true):ascii s:=
 ⟨h1,fun j b hb=>by simpa using List.all_eq_true.1 h2 b (List.mem_of_getElem? hb)⟩
def Po:ByteArray:=⟨#[116,114,97,112,32,110,111,112,32,98,108,111,99,107,32,108,111,111,112,32,105,102,32,101,108,115,101,32,101,110,100,32,98,114,32,98,114,105,102,32,98,114,116,97,98,108,101,32,114,101,116,117,114,110,32,99,97,108,108,32,104,111,115,116]⟩
def KJ:ByteArray:=⟨#[100,114,111,112,32,115,101,108,101,99,116,32,103,101,116,32,115,101,116,32,116,101,101,32,103,103,101,116,32,103,115,101,116]⟩
def Ir:ByteArray:=⟨#[119,46,99,111,110,115,116,32,108,46,99,111,110,115,116]⟩
def Iu:ByteArray:=⟨#[119,46,108,111,97,100,56,117,32,119,46,108,111,97,100,56,115,32,119,46,108,111,97,100,49,54,117,32,119,46,108,111,97,100,49,54,115,32,119,46,108,111,97,100,32,108,46,108,111,97,100,32,119,46,115,116,111,114,101,56,32,119,46,115,116,111,114,101,49,54,32,119,46,115,116,111,114,101,32,108,46,115,116,111,114,101,32,115,105,122,101,32,103,114,111,119]⟩
def EB:ByteArray:=⟨#[101,113,122,32,101,113,32,110,101,32,108,116,115,32,108,116,117,32,108,101,115,32,108,101,117,32,99,108,122,32,99,116,122,32,112,111,112,32,97,100,100,32,115,117,98,32,109,117,108,32,100,105,118,115,32,100,105,118,117,32,114,101,109,115,32,114,101,109,117,32,97,110,100,32,111,114,32,120,111,114,32,115,104,108,32,115,104,114,115,32,115,104,114,117,32,114,111,116,108,32,114,111,116,114]⟩
def KM:ByteArray:=⟨#[119,46,119,114,97,112,32,108,46,101,120,116,101,110,100,115,32,108,46,101,120,116,101,110,100,117,32,119,46,101,120,116,56,32,119,46,101,120,116,49,54,32,108,46,101,120,116,51,50]⟩
theorem qX:ascii Po:=KI (by decide) (by decide)
theorem fF:ascii KJ:=KI (by decide) (by decide)
theorem ZO:ascii Ir:=KI (by decide) (by decide)
theorem ZP:ascii Iu:=KI (by decide) (by decide)
theorem QT:ascii EB:=KI (by decide) (by decide)
theorem fH:ascii KM:=KI (by decide) (by decide)
theorem yM:(Lib.fields Po.data.toList).length=13:=by kernel_rfl
theorem kE:(Lib.fields KJ.data.toList).length=7:=by kernel_rfl
theorem fI:(Lib.fields Ir.data.toList).length=2:=by kernel_rfl
theorem fJ:(Lib.fields Iu.data.toList).length=12:=by kernel_rfl
theorem R8:(Lib.fields EB.data.toList).length=25:=by kernel_rfl
theorem kF:(Lib.fields KM.data.toList).length=6:=by kernel_rfl
def Cw (n:Nat):Nat×ByteArray×ByteArray:=
 if n<16 then(0,Po,ByteArray.empty) else if n<24 then(16,KJ,ByteArray.empty) else if n<32 then(24,Ir,ByteArray.empty) else if n<48 then(32,Iu,ByteArray.empty) else if n<80 then(48,EB,⟨#[119,46]⟩) else if n<112 then(80,EB,⟨#[108,46]⟩) else(112,KM,ByteArray.empty)
def qY (op:Nat) (w:World) (e:Ending) (w':World):Prop:=
 Below w.heap.size w w'∧(((Lib.fields (Cw op).2.1.data.toList).length≤op-(Cw op).1∧e= .returned (.tuple #[.slice none 0 0,.int .i64 (-1),.string ByteArray.empty]))∨
  (op-(Cw op).1<(Lib.fields (Cw op).2.1.data.toList).length∧ ∃g,e= .returned (.tuple #[.slice (some ⟨g,0,none⟩) (Lib.fields (Cw op).2.1.data.toList).length (Lib.fields (Cw op).2.1.data.toList).length,.int .i64 ((op-(Cw op).1:Nat):Int),.string (Cw op).2.2])∧w.heap.size≤g∧g<w'.heap.size∧
   ∀j:Nat,∀x,(Lib.fields (Cw op).2.1.data.toList)[j]?=some x→w'.cell? ⟨g,j,none⟩=some (.string ⟨x.toArray⟩)))
theorem qZ (op:Nat) (w:World) (hop:op<256) (htab:Lib.TabIs prog w "strings.asciiSpace" .u8 Lib.asciiSpaceTab):
 Calls prog 190 #[.int .u8 op] w (qY op w):=by
 have Ht:=AA (Lib.tabBelow_of_tabIs htab)
 clear htab
 go_enter func190,ntmps190
 by_cases h0:op<16
 case pos=>
  have d0:decide ((op:Int)<16)=true:=decide_eq_true (by omega)
  have hr:Cw op=(0,Po,ByteArray.empty):=by unfold Cw;rw [if_pos h0]
  have Hr:=AA hr;clear hr
  go_wp2_with fail
  generalize hw:w.alloc _=w1
  have hb1:w1.cell? ⟨w.heap.size,0,none⟩=some (.int .u8 op):=by rw [←hw];exact(AQ.new w 5 [.int .u8 op]).cell 0
  have hsz:w.heap.size<w1.heap.size:=by rw [←hw];simp
  have H1:Hid (Below w.heap.size w w1):=by rw [←hw];exact AA ((Below.refl _ _).alloc (Nat.le_refl _) _)
  clear hw
  refine(JF ⟨w.heap.size,0,none⟩ 0 op Po ByteArray.empty w1 qX (by omega) hop (by rw [yM];omega) hb1 hsz (Ht.out _ H1.out)).mono ?_
  rintro e w2 ⟨hbe,⟨hl,rfl⟩ | ⟨hl,rfl,hc⟩⟩
  ·have H2:=AA (H1.out.trans (hbe.mono H1.out.size));clear hbe
   go_wp2_with fail
   go_ret3
   refine⟨H2.out,.inl ⟨?_,rfl⟩⟩
   rw [Hr.out]
   exact hl
  ·have H2:=AA (H1.out.trans (hbe.mono H1.out.size))
   have hg2:w1.heap.size<w2.heap.size:=by
    obtain⟨y,hy⟩: ∃y,(Lib.fields Po.data.toList)[0]?=some y:=⟨_,List.getElem?_eq_getElem (by omega)⟩
    exact Kt (hc 0 y hy)
   have Hc:=AA hc;clear hbe hc
   go_wp2_with fail
   go_ret3
   refine⟨H2.out,.inr ?_⟩
   rw [Hr.out]
   exact⟨hl,w1.heap.size,rfl,Nat.le_of_lt hsz,hg2,Hc.out⟩
 have d0:decide ((op:Int)<16)=false:=decide_eq_false (by omega)
 by_cases h1:op<24
 case pos=>
  have d1:decide ((op:Int)<24)=true:=decide_eq_true (by omega)
  have hr:Cw op=(16,KJ,ByteArray.empty):=by unfold Cw;rw [if_neg h0];rw [if_pos h1]
  have Hr:=AA hr;clear hr
  go_wp2_with fail
  generalize hw:w.alloc _=w1
  have hb1:w1.cell? ⟨w.heap.size,0,none⟩=some (.int .u8 op):=by rw [←hw];exact(AQ.new w 5 [.int .u8 op]).cell 0
  have hsz:w.heap.size<w1.heap.size:=by rw [←hw];simp
  have H1:Hid (Below w.heap.size w w1):=by rw [←hw];exact AA ((Below.refl _ _).alloc (Nat.le_refl _) _)
  clear hw
  refine(JF ⟨w.heap.size,0,none⟩ 16 op KJ ByteArray.empty w1 fF (by omega) hop (by rw [kE];omega) hb1 hsz (Ht.out _ H1.out)).mono ?_
  rintro e w2 ⟨hbe,⟨hl,rfl⟩ | ⟨hl,rfl,hc⟩⟩
  ·have H2:=AA (H1.out.trans (hbe.mono H1.out.size));clear hbe
   go_wp2_with fail
   go_ret3
   refine⟨H2.out,.inl ⟨?_,rfl⟩⟩
   rw [Hr.out]
   exact hl
  ·have H2:=AA (H1.out.trans (hbe.mono H1.out.size))
   have hg2:w1.heap.size<w2.heap.size:=by
    obtain⟨y,hy⟩: ∃y,(Lib.fields KJ.data.toList)[0]?=some y:=⟨_,List.getElem?_eq_getElem (by omega)⟩
    exact Kt (hc 0 y hy)
   have Hc:=AA hc;clear hbe hc
   go_wp2_with fail
   go_ret3
   refine⟨H2.out,.inr ?_⟩
   rw [Hr.out]
   exact⟨hl,w1.heap.size,rfl,Nat.le_of_lt hsz,hg2,Hc.out⟩
 have d1:decide ((op:Int)<24)=false:=decide_eq_false (by omega)
 by_cases h2:op<32
 case pos=>
  have d2:decide ((op:Int)<32)=true:=decide_eq_true (by omega)
  have hr:Cw op=(24,Ir,ByteArray.empty):=by unfold Cw;rw [if_neg h0];rw [if_neg h1];rw [if_pos h2]
  have Hr:=AA hr;clear hr
  go_wp2_with fail
  generalize hw:w.alloc _=w1
  have hb1:w1.cell? ⟨w.heap.size,0,none⟩=some (.int .u8 op):=by rw [←hw];exact(AQ.new w 5 [.int .u8 op]).cell 0
  have hsz:w.heap.size<w1.heap.size:=by rw [←hw];simp
  have H1:Hid (Below w.heap.size w w1):=by rw [←hw];exact AA ((Below.refl _ _).alloc (Nat.le_refl _) _)
  clear hw
  refine(JF ⟨w.heap.size,0,none⟩ 24 op Ir ByteArray.empty w1 ZO (by omega) hop (by rw [fI];omega) hb1 hsz (Ht.out _ H1.out)).mono ?_
  rintro e w2 ⟨hbe,⟨hl,rfl⟩ | ⟨hl,rfl,hc⟩⟩
  ·have H2:=AA (H1.out.trans (hbe.mono H1.out.size));clear hbe
   go_wp2_with fail
   go_ret3
   refine⟨H2.out,.inl ⟨?_,rfl⟩⟩
   rw [Hr.out]
   exact hl
  ·have H2:=AA (H1.out.trans (hbe.mono H1.out.size))
   have hg2:w1.heap.size<w2.heap.size:=by
    obtain⟨y,hy⟩: ∃y,(Lib.fields Ir.data.toList)[0]?=some y:=⟨_,List.getElem?_eq_getElem (by omega)⟩
    exact Kt (hc 0 y hy)
   have Hc:=AA hc;clear hbe hc
   go_wp2_with fail
   go_ret3
   refine⟨H2.out,.inr ?_⟩
   rw [Hr.out]
   exact⟨hl,w1.heap.size,rfl,Nat.le_of_lt hsz,hg2,Hc.out⟩
 have d2:decide ((op:Int)<32)=false:=decide_eq_false (by omega)
 by_cases h3:op<48
 case pos=>
  have d3:decide ((op:Int)<48)=true:=decide_eq_true (by omega)
  have hr:Cw op=(32,Iu,ByteArray.empty):=by unfold Cw;rw [if_neg h0];rw [if_neg h1];rw [if_neg h2];rw [if_pos h3]
  have Hr:=AA hr;clear hr
  go_wp2_with fail
  generalize hw:w.alloc _=w1
  have hb1:w1.cell? ⟨w.heap.size,0,none⟩=some (.int .u8 op):=by rw [←hw];exact(AQ.new w 5 [.int .u8 op]).cell 0
  have hsz:w.heap.size<w1.heap.size:=by rw [←hw];simp
  have H1:Hid (Below w.heap.size w w1):=by rw [←hw];exact AA ((Below.refl _ _).alloc (Nat.le_refl _) _)
  clear hw
  refine(JF ⟨w.heap.size,0,none⟩ 32 op Iu ByteArray.empty w1 ZP (by omega) hop (by rw [fJ];omega) hb1 hsz (Ht.out _ H1.out)).mono ?_
  rintro e w2 ⟨hbe,⟨hl,rfl⟩ | ⟨hl,rfl,hc⟩⟩
  ·have H2:=AA (H1.out.trans (hbe.mono H1.out.size));clear hbe
   go_wp2_with fail
   go_ret3
   refine⟨H2.out,.inl ⟨?_,rfl⟩⟩
   rw [Hr.out]
   exact hl
  ·have H2:=AA (H1.out.trans (hbe.mono H1.out.size))
   have hg2:w1.heap.size<w2.heap.size:=by
    obtain⟨y,hy⟩: ∃y,(Lib.fields Iu.data.toList)[0]?=some y:=⟨_,List.getElem?_eq_getElem (by omega)⟩
    exact Kt (hc 0 y hy)
   have Hc:=AA hc;clear hbe hc
   go_wp2_with fail
   go_ret3
   refine⟨H2.out,.inr ?_⟩
   rw [Hr.out]
   exact⟨hl,w1.heap.size,rfl,Nat.le_of_lt hsz,hg2,Hc.out⟩
 have d3:decide ((op:Int)<48)=false:=decide_eq_false (by omega)
 by_cases h4:op<80
 case pos=>
  have d4:decide ((op:Int)<80)=true:=decide_eq_true (by omega)
  have hr:Cw op=(48,EB,⟨#[119,46]⟩):=by unfold Cw;rw [if_neg h0];rw [if_neg h1];rw [if_neg h2];rw [if_neg h3];rw [if_pos h4]
  have Hr:=AA hr;clear hr
  go_wp2_with fail
  generalize hw:w.alloc _=w1
  have hb1:w1.cell? ⟨w.heap.size,0,none⟩=some (.int .u8 op):=by rw [←hw];exact(AQ.new w 5 [.int .u8 op]).cell 0
  have hsz:w.heap.size<w1.heap.size:=by rw [←hw];simp
  have H1:Hid (Below w.heap.size w w1):=by rw [←hw];exact AA ((Below.refl _ _).alloc (Nat.le_refl _) _)
  clear hw
  refine(JF ⟨w.heap.size,0,none⟩ 48 op EB ⟨#[119,46]⟩ w1 QT (by omega) hop (by rw [R8];omega) hb1 hsz (Ht.out _ H1.out)).mono ?_
  rintro e w2 ⟨hbe,⟨hl,rfl⟩ | ⟨hl,rfl,hc⟩⟩
  ·have H2:=AA (H1.out.trans (hbe.mono H1.out.size));clear hbe
   go_wp2_with fail
   go_ret3
   refine⟨H2.out,.inl ⟨?_,rfl⟩⟩
   rw [Hr.out]
   exact hl
  ·have H2:=AA (H1.out.trans (hbe.mono H1.out.size))
   have hg2:w1.heap.size<w2.heap.size:=by
    obtain⟨y,hy⟩: ∃y,(Lib.fields EB.data.toList)[0]?=some y:=⟨_,List.getElem?_eq_getElem (by omega)⟩
    exact Kt (hc 0 y hy)
   have Hc:=AA hc;clear hbe hc
   go_wp2_with fail
   go_ret3
   refine⟨H2.out,.inr ?_⟩
   rw [Hr.out]
   exact⟨hl,w1.heap.size,rfl,Nat.le_of_lt hsz,hg2,Hc.out⟩
 have d4:decide ((op:Int)<80)=false:=decide_eq_false (by omega)
 by_cases h5:op<112
 case pos=>
  have d5:decide ((op:Int)<112)=true:=decide_eq_true (by omega)
  have hr:Cw op=(80,EB,⟨#[108,46]⟩):=by unfold Cw;rw [if_neg h0];rw [if_neg h1];rw [if_neg h2];rw [if_neg h3];rw [if_neg h4];rw [if_pos h5]
  have Hr:=AA hr;clear hr
  go_wp2_with fail
  generalize hw:w.alloc _=w1
  have hb1:w1.cell? ⟨w.heap.size,0,none⟩=some (.int .u8 op):=by rw [←hw];exact(AQ.new w 5 [.int .u8 op]).cell 0
  have hsz:w.heap.size<w1.heap.size:=by rw [←hw];simp
  have H1:Hid (Below w.heap.size w w1):=by rw [←hw];exact AA ((Below.refl _ _).alloc (Nat.le_refl _) _)
  clear hw
  refine(JF ⟨w.heap.size,0,none⟩ 80 op EB ⟨#[108,46]⟩ w1 QT (by omega) hop (by rw [R8];omega) hb1 hsz (Ht.out _ H1.out)).mono ?_
  rintro e w2 ⟨hbe,⟨hl,rfl⟩ | ⟨hl,rfl,hc⟩⟩
  ·have H2:=AA (H1.out.trans (hbe.mono H1.out.size));clear hbe
   go_wp2_with fail
   go_ret3
   refine⟨H2.out,.inl ⟨?_,rfl⟩⟩
   rw [Hr.out]
   exact hl
  ·have H2:=AA (H1.out.trans (hbe.mono H1.out.size))
   have hg2:w1.heap.size<w2.heap.size:=by
    obtain⟨y,hy⟩: ∃y,(Lib.fields EB.data.toList)[0]?=some y:=⟨_,List.getElem?_eq_getElem (by omega)⟩
    exact Kt (hc 0 y hy)
   have Hc:=AA hc;clear hbe hc
   go_wp2_with fail
   go_ret3
   refine⟨H2.out,.inr ?_⟩
   rw [Hr.out]
   exact⟨hl,w1.heap.size,rfl,Nat.le_of_lt hsz,hg2,Hc.out⟩
 have d5:decide ((op:Int)<112)=false:=decide_eq_false (by omega)
 have hr:Cw op=(112,KM,ByteArray.empty):=by unfold Cw;rw [if_neg h0];rw [if_neg h1];rw [if_neg h2];rw [if_neg h3];rw [if_neg h4];rw [if_neg h5]
 have Hr:=AA hr;clear hr
 go_wp2_with fail
 generalize hw:w.alloc _=w1
 have hb1:w1.cell? ⟨w.heap.size,0,none⟩=some (.int .u8 op):=by rw [←hw];exact(AQ.new w 5 [.int .u8 op]).cell 0
 have hsz:w.heap.size<w1.heap.size:=by rw [←hw];simp
 have H1:Hid (Below w.heap.size w w1):=by rw [←hw];exact AA ((Below.refl _ _).alloc (Nat.le_refl _) _)
 clear hw
 refine(JF ⟨w.heap.size,0,none⟩ 112 op KM ByteArray.empty w1 fH (by omega) hop (by rw [kF];omega) hb1 hsz (Ht.out _ H1.out)).mono ?_
 rintro e w2 ⟨hbe,⟨hl,rfl⟩ | ⟨hl,rfl,hc⟩⟩
 ·have H2:=AA (H1.out.trans (hbe.mono H1.out.size));clear hbe
  go_wp2_with fail
  go_ret3
  refine⟨H2.out,.inl ⟨?_,rfl⟩⟩
  rw [Hr.out]
  exact hl
 ·have H2:=AA (H1.out.trans (hbe.mono H1.out.size))
  have hg2:w1.heap.size<w2.heap.size:=by
   obtain⟨y,hy⟩: ∃y,(Lib.fields KM.data.toList)[0]?=some y:=⟨_,List.getElem?_eq_getElem (by omega)⟩
   exact Kt (hc 0 y hy)
  have Hc:=AA hc;clear hbe hc
  go_wp2_with fail
  go_ret3
  refine⟨H2.out,.inr ?_⟩
  rw [Hr.out]
  exact⟨hl,w1.heap.size,rfl,Nat.le_of_lt hsz,hg2,Hc.out⟩
section
def opC (r:Yz):Array Value:= #[.int .u8 (r.op:Nat),.string r.word,.int .i8 r.takes,.string r.pops,.string r.pushes,.bool r.plain]
def fK:Array Value:= #[.int .u8 0,.string ⟨#[]⟩,.int .i8 0,.string ⟨#[]⟩,.string ⟨#[]⟩,.bool false]
def EZ (op:Nat):Value:=match Au op with
 | none=> .tuple #[.agg fK,.bool false]
 | some r=> .tuple #[.agg (opC r),.bool true]
def ay (op:Nat):Bool:=match Au op with
 | none=>decide ((Lib.fields (Cw op).2.1.data.toList).length≤op-(Cw op).1)
 | some r=>match (Lib.fields (Cw op).2.1.data.toList)[op-(Cw op).1]? with
  | none=>false
  | some x=>decide ((Cw op).2.2.data.toList++x=r.word.data.toList)
theorem fM:(List.range 256).all ay=true:=by kernel_rfl
theorem Xl {op:Nat} (h:op<256):ay op=true:=List.all_eq_true.1 fM op (List.mem_range.2 h)
theorem ZQ {op:Nat} (h:op<256) (hr:Au op=none):(Lib.fields (Cw op).2.1.data.toList).length≤op-(Cw op).1:=by
 have:=Xl h
 unfold ay at this
 rw [hr] at this
 exact of_decide_eq_true this
theorem R9 {op:Nat} {r:Yz} (h:op<256) (hr:Au op=some r): ∃x,(Lib.fields (Cw op).2.1.data.toList)[op-(Cw op).1]?=some x∧(Cw op).2.2++(⟨x.toArray⟩:ByteArray)=r.word:=by
 have:=Xl h
 unfold ay at this
 rw [hr] at this
 simp only at this
 split at this
 ·cases this
 ·rename_i x hx
  refine⟨x,hx,?_⟩
  have h2:=of_decide_eq_true this
  apply ByteArray.ext
  apply Array.toList_inj.1
  rw [ByteArray.data_append,Array.toList_append]
  exact h2
theorem fO: ∀r∈Dk,r.word.size≤64:=by
 have h:Dk.all (fun r=>decide (r.word.size≤64))=true:=by kernel_rfl
 exact fun r hr=>of_decide_eq_true (List.all_eq_true.1 h r hr)
attribute [local irreducible] Au Cw
theorem Eb {fn:Func} {p u:Tmp} {ty:TypeId} {tmps:Array Value} {P:Program} {w:World} {a:Addr} {v v2:Value} (h:fn.results= #[.cell p ty,.tmp u]) (hp:tmps.getD p undef= .pointer (some a)) (hu:tmps.getD u undef=v2) (hl:(loadVar ty a).run P w= .ok v w):
 (results fn tmps).run P w= .ok (.tuple #[v,v2]) w:=by
 rw [results_cell_tmp h,hp,hu]
 show((loadVar ty a).run P w).andThen _=_
 rw [hl]
 rfl
theorem Xm {W:World} {g:Nat} {y0 y1 y2 y3 y4 y5:Value} (h:AQ W g 236 [y0,y1,y2,y3,y4,y5]):(loadVar 236 ⟨g,0,none⟩).run prog W= .ok (.agg #[y0,y1,y2,y3,y4,y5]) W:=
 run_loadVar_row W g 236 236 #[y0,y1,y2,y3,y4,y5] (0,0) _ h underlying236 rfl (by kernel_rfl)
theorem ZR (op:Nat) (w:World) (hop:op<256) (htab:Lib.TabIs prog w "strings.asciiSpace" .u8 Lib.asciiSpaceTab):
 Calls prog 170 #[.int .u8 op] w fun e w'=>Below w.heap.size w w'∧e= .returned (EZ op):=by
 have Ht:=AA (Lib.tabBelow_of_tabIs htab)
 clear htab
 go_enter func170,ntmps170
 go_wp2_with fail
 generalize hw:w.alloc _=w1
 have H1:Hid (Below w.heap.size w w1):=by rw [←hw];exact AA ((Below.refl _ _).alloc (Nat.le_refl _) _)
 have Hb1:Hid (AQ w1 w.heap.size 236 fK.toList):=by rw [←hw];exact AA (AQ.new w 236 fK.toList)
 clear hw
 refine(qZ op w1 hop (Ht.out _ H1.out)).mono ?_
 rintro e w2 ⟨hbe,⟨hl,rfl⟩ | ⟨hl,g,rfl,hg1,hg2,hc⟩⟩
 ·have H2:=AA (H1.out.trans (hbe.mono H1.out.size))
  have Hb2:=AA (Hb1.out.below hbe Hb1.out.lt)
  clear hbe
  have he0:=Hb2.out.q 0 rfl
  have hf0:=Hb2.out.frozen 0
  have he1:=Hb2.out.q 1 rfl
  have hf1:=Hb2.out.frozen 1
  have he2:=Hb2.out.q 2 rfl
  have hf2:=Hb2.out.frozen 2
  have he3:=Hb2.out.q 3 rfl
  have hf3:=Hb2.out.frozen 3
  have jv:=Hb2.out.q 4 rfl
  have XZ:=Hb2.out.frozen 4
  have he5:=Hb2.out.q 5 rfl
  have hf5:=Hb2.out.frozen 5
  go_wp2_with fail
  have hblk:=(AQ.set (AQ.set (AQ.set (AQ.set (AQ.set (AQ.set Hb2.out 0 (.int .u8 0)) 1 (.string ⟨#[]⟩)) 2 (.int .i8 0)) 3 (.string ⟨#[]⟩)) 4 (.string ⟨#[]⟩)) 5 (.bool false))
  have hno:Au op=none:=by
   cases hr:Au op with
   | none=>rfl
   | some r=>
    obtain⟨x,hx,_⟩:=R9 hop hr
    have:=(List.getElem?_eq_some_iff.1 hx).1
    omega
  refine bodyPost_ret (Eb rfl rfl rfl (Xm hblk)) rfl ⟨(Below.setCell (Below.setCell (Below.setCell (Below.setCell (Below.setCell (Below.setCell H2.out (p:=⟨w.heap.size,0,none⟩) (Nat.le_refl _) (.int .u8 0)) (p:=⟨w.heap.size,1,none⟩) (Nat.le_refl _) (.string ⟨#[]⟩)) (p:=⟨w.heap.size,2,none⟩) (Nat.le_refl _) (.int .i8 0)) (p:=⟨w.heap.size,3,none⟩) (Nat.le_refl _) (.string ⟨#[]⟩)) (p:=⟨w.heap.size,4,none⟩) (Nat.le_refl _) (.string ⟨#[]⟩)) (p:=⟨w.heap.size,5,none⟩) (Nat.le_refl _) (.bool false)),?_⟩
  unfold EZ
  rw [hno]
  rfl
 ·have H2:=AA (H1.out.trans (hbe.mono H1.out.size))
  have Hb2:=AA (Hb1.out.below hbe Hb1.out.lt)
  clear hbe
  obtain⟨r,hr⟩: ∃r,Au op=some r:=by
   cases hr:Au op with
   | none=>have:=ZQ hop hr;omega
   | some r=>exact⟨r,rfl⟩
  obtain⟨hm,rfl⟩:=Iq hr
  obtain⟨y,hy,hwd⟩:=R9 hop hr
  have hcw:w2.cell? ⟨g,r.op-(Cw r.op).1,none⟩=some (.string ⟨y.toArray⟩):=hc _ y hy
  have Hr:=AA hr
  clear hc hy hr
  generalize (Cw r.op).2.2=ah at*
  generalize hfl:(Lib.fields (Cw r.op).2.1.data.toList).length=fl at*
  generalize r.op-(Cw r.op).1=n at*
  clear hfl
  have HT:Hid (∀W,Calls prog 192 #[.int .u8 (r.op:Nat)] W fun e w'=>e= .returned (.int .i8 r.takes)∧w'=W):=AA (fun W=>(Tj W r hm).mono fun e w' h=>⟨h.2,h.1.symm⟩)
  have HP:=AA (Ti w2 r hm)
  have hsum:ah.size+y.length≤64:=by
   have h1:=fO r hm
   rw [←hwd,ByteArray.size_append] at h1
   have h3:(⟨y.toArray⟩:ByteArray).size=y.length:=List.size_toArray
   rwa [h3] at h1
  have hsum2: ¬(9223372036854775807<ah.size+y.length):=by omega
  clear hm
  have hn0:(0:Int)≤n:=by omega
  have hn1:decide ((n:Int)<0)=false:=decide_eq_false (by omega)
  go_wp2_with fail
  refine HP.out.mono ?_
  rintro e w' ⟨rfl,rfl⟩
  go_wp2_with fail
  go_still_tail 13,(by kernel_rfl)
  repeat still_step
  still_call (HT.out _)
  repeat still_step
  refine wpStill_nil ?_
  change wpList _ _ _ _ _ w2.drew
  have H2:=AA (below_drewN H2.out 1)
  have Hb2:Hid (AQ w2.drew w.heap.size 236 fK.toList):=AA (Hb2.out.drewN 1)
  change Hid (Below w.heap.size w w2.drew)at H2
  clear hcw
  generalize w2.drew=w3 at*
  have he0:=Hb2.out.q 0 rfl
  have hf0:w3.frozen? ⟨w.heap.size,0,none⟩=false:=Hb2.out.frozen 0
  have he1:=Hb2.out.q 1 rfl
  have hf1:w3.frozen? ⟨w.heap.size,1,none⟩=false:=Hb2.out.frozen 1
  have he2:=Hb2.out.q 2 rfl
  have hf2:w3.frozen? ⟨w.heap.size,2,none⟩=false:=Hb2.out.frozen 2
  have he3:=Hb2.out.q 3 rfl
  have hf3:w3.frozen? ⟨w.heap.size,3,none⟩=false:=Hb2.out.frozen 3
  have jv:=Hb2.out.q 4 rfl
  have XZ:w3.frozen? ⟨w.heap.size,4,none⟩=false:=Hb2.out.frozen 4
  have he5:=Hb2.out.q 5 rfl
  have hf5:w3.frozen? ⟨w.heap.size,5,none⟩=false:=Hb2.out.frozen 5
  go_wp2_with fail
  have hblk:=(AQ.set (AQ.set (AQ.set (AQ.set (AQ.set (AQ.set Hb2.out 0 (.int .u8 (r.op:Nat))) 1 (.string r.word)) 2 (.int .i8 r.takes)) 3 (.string r.pops)) 4 (.string r.pushes)) 5 (.bool r.plain))
  refine bodyPost_ret (Eb rfl rfl rfl (Xm hblk)) rfl ⟨(Below.setCell (Below.setCell (Below.setCell (Below.setCell (Below.setCell (Below.setCell H2.out (p:=⟨w.heap.size,0,none⟩) (Nat.le_refl _) (.int .u8 (r.op:Nat))) (p:=⟨w.heap.size,1,none⟩) (Nat.le_refl _) (.string r.word)) (p:=⟨w.heap.size,2,none⟩) (Nat.le_refl _) (.int .i8 r.takes)) (p:=⟨w.heap.size,3,none⟩) (Nat.le_refl _) (.string r.pops)) (p:=⟨w.heap.size,4,none⟩) (Nat.le_refl _) (.string r.pushes)) (p:=⟨w.heap.size,5,none⟩) (Nat.le_refl _) (.bool r.plain)),?_⟩
  unfold EZ
  rw [Hr.out]
  rfl
end
end Go.Proofs.YtlagonfamllgjaaGreatDoor
