/- Part 15 of the proof: OpsR OpsQ -/
import Derived.Lib.AppendIntMem
import Derived.Test.YtlagonfamllgjaaGreatDoorK06
import Derived.Test.YtlagonfamllgjaaGreatDoorK14
namespace Go.Proofs.YtlagonfamllgjaaGreatDoor
set_option linter.unusedVariables false
set_option linter.unusedSimpArgs false
set_option maxRecDepth 100000
set_option maxHeartbeats 4000000
open Go.RowKit Tryz
def ascii (s:ByteArray):Prop:=s.size<4294967281∧ ∀(j:Nat) b,s.data.toList[j]?=some b→b.toNat<128
def mH (from_ op:Nat) (s ahead:ByteArray) (w:World) (e:Ending) (w':World):Prop:=
 Below w.heap.size w w'∧(((Lib.fields s.data.toList).length≤op-from_∧e= .returned (.tuple #[.slice none 0 0,.int .i64 (-1),.string ByteArray.empty]))∨
  (op-from_<(Lib.fields s.data.toList).length∧e= .returned (.tuple #[.slice (some ⟨w.heap.size,0,none⟩) (Lib.fields s.data.toList).length (Lib.fields s.data.toList).length,.int .i64 ((op-from_:Nat):Int),.string ahead])∧
   ∀j:Nat,∀x,(Lib.fields s.data.toList)[j]?=some x→w'.cell? ⟨w.heap.size,j,none⟩=some (.string ⟨x.toArray⟩)))
theorem Jj (a:Addr) (from_ op:Nat) (s ahead:ByteArray) (w:World) (hs:ascii s) (hle:from_≤op) (hop:op<256) (hlen:(Lib.fields s.data.toList).length≤4294967281) (ha:w.cell? a=some (.int .u8 op)) (hab:a.block<w.heap.size) (htab:Lib.TabIs prog w "strings.asciiSpace" .u8 Lib.asciiSpaceTab):
 Calls prog 197 #[.int .u8 from_,.string s,.string ahead,.pointer (some a)] w (mH from_ op s ahead w):=by
 have H1:=AA htab
 have Hs:=AA hs
 clear htab hs
 go_enter func197,ntmps197
 go_wp2_with fail
 refine(strings_Fields s w Hs.out.1 Hs.out.2 H1.out).mono ?_
 rintro e w1 ⟨rfl,rfl⟩
 generalize hL:Lib.fields s.data.toList=L at*
 have hgr:Below w.heap.size w (w.alloc (.cells (L.map fun l=>Value.string ⟨l.toArray⟩).toArray 9)):=(Below.refl _ _).alloc (Nat.le_refl _) _
 have ha1:(w.alloc (.cells (L.map fun l=>Value.string ⟨l.toArray⟩).toArray 9)).cell? a=some (.int .u8 op):=by rw [hgr.cell hab];exact ha
 have HB:=AA hgr
 have Hc:Hid (∀(j:Nat) x,L[j]?=some x→(w.alloc (.cells (L.map fun l=>Value.string ⟨l.toArray⟩).toArray 9)).cell? ⟨w.heap.size,j,none⟩=some (.string ⟨x.toArray⟩)):=AA (fun j x hx=>by
  have hb:=AQ.new w 9 (L.map fun l=>Value.string ⟨l.toArray⟩)
  rw [hb.cell,List.getElem?_map,hx];rfl)
 generalize w.alloc (.cells (L.map fun l=>Value.string ⟨l.toArray⟩).toArray 9)=w1 at*
 clear hgr ha
 obtain⟨n,rfl⟩: ∃n,op=from_+n:=⟨op-from_,by omega⟩
 have hsub:from_+n-from_=n:=by omega
 have hw8:IntKind.u8.wrap (((from_+n:Nat):Int)-(from_:Int))=(n:Int):=by rw [show((from_+n:Nat):Int)-(from_:Int)=(n:Int)by omega];exact IntWalk.u8_in _ ⟨by omega,by omega⟩
 by_cases hn:L.length≤n
 ·go_wp2_with fail
  go_ret3
  refine⟨HB.out,?_⟩
  rw [hL,hsub]
  exact .inl ⟨hn,rfl⟩
 ·go_wp2_with fail
  go_quiet (fail)
  go_wp2_with fail
  go_ret3
  refine⟨below_drewN HB.out _,?_⟩
  rw [hL,hsub]
  refine .inr ⟨by omega,?_,fun j x hx=>Hc.out j x hx⟩
  simp
  omega
theorem Lb {w:World} {a:Addr} {v:Value} (h:w.cell? a=some v):a.block<w.heap.size:=by
 unfold World.cell? at h
 by_cases hlt:a.block<w.heap.size
 ·exact hlt
 ·rw [Array.getElem?_eq_none (by omega)] at h
  simp at h
theorem Kk {s:ByteArray} (h1:s.size<4294967281) (h2:s.data.toList.all (fun b=>b.toNat<128)=true):ascii s:=
 ⟨h1,fun j b hb=>by simpa using List.all_eq_true.1 h2 b (List.mem_of_getElem? hb)⟩
def QJ:ByteArray:=⟨#[116,114,97,112,32,110,111,112,32,98,108,111,99,107,32,108,111,111,112,32,105,102,32,101,108,115,101,32,101,110,100,32,98,114,32,98,114,105,102,32,98,114,116,97,98,108,101,32,114,101,116,117,114,110,32,99,97,108,108,32,104,111,115,116]⟩
def Kl:ByteArray:=⟨#[100,114,111,112,32,115,101,108,101,99,116,32,103,101,116,32,115,101,116,32,116,101,101,32,103,103,101,116,32,103,115,101,116]⟩
def JJ:ByteArray:=⟨#[119,46,99,111,110,115,116,32,108,46,99,111,110,115,116]⟩
def JK:ByteArray:=⟨#[119,46,108,111,97,100,56,117,32,119,46,108,111,97,100,56,115,32,119,46,108,111,97,100,49,54,117,32,119,46,108,111,97,100,49,54,115,32,119,46,108,111,97,100,32,108,46,108,111,97,100,32,119,46,115,116,111,114,101,56,32,119,46,115,116,111,114,101,49,54,32,119,46,115,116,111,114,101,32,108,46,115,116,111,114,101,32,115,105,122,101,32,103,114,111,119]⟩
def EA:ByteArray:=⟨#[101,113,122,32,101,113,32,110,101,32,108,116,115,32,108,116,117,32,108,101,115,32,108,101,117,32,99,108,122,32,99,116,122,32,112,111,112,32,97,100,100,32,115,117,98,32,109,117,108,32,100,105,118,115,32,100,105,118,117,32,114,101,109,115,32,114,101,109,117,32,97,110,100,32,111,114,32,120,111,114,32,115,104,108,32,115,104,114,115,32,115,104,114,117,32,114,111,116,108,32,114,111,116,114]⟩
def Km:ByteArray:=⟨#[119,46,119,114,97,112,32,108,46,101,120,116,101,110,100,115,32,108,46,101,120,116,101,110,100,117,32,119,46,101,120,116,56,32,119,46,101,120,116,49,54,32,108,46,101,120,116,51,50]⟩
theorem tL:ascii QJ:=Kk (by decide) (by decide)
theorem gL:ascii Kl:=Kk (by decide) (by decide)
theorem Zw:ascii JJ:=Kk (by decide) (by decide)
theorem Zx:ascii JK:=Kk (by decide) (by decide)
theorem Qu:ascii EA:=Kk (by decide) (by decide)
theorem gM:ascii Km:=Kk (by decide) (by decide)
theorem AAB:(Lib.fields QJ.data.toList).length=13:=by kernel_rfl
theorem mI:(Lib.fields Kl.data.toList).length=7:=by kernel_rfl
theorem gN:(Lib.fields JJ.data.toList).length=2:=by kernel_rfl
theorem gP:(Lib.fields JK.data.toList).length=12:=by kernel_rfl
theorem Sj:(Lib.fields EA.data.toList).length=25:=by kernel_rfl
theorem mJ:(Lib.fields Km.data.toList).length=6:=by kernel_rfl
def DI (n:Nat):Nat×ByteArray×ByteArray:=
 if n<16 then(0,QJ,ByteArray.empty) else if n<24 then(16,Kl,ByteArray.empty) else if n<32 then(24,JJ,ByteArray.empty) else if n<48 then(32,JK,ByteArray.empty) else if n<80 then(48,EA,⟨#[119,46]⟩) else if n<112 then(80,EA,⟨#[108,46]⟩) else(112,Km,ByteArray.empty)
def tN (op:Nat) (w:World) (e:Ending) (w':World):Prop:=
 Below w.heap.size w w'∧(((Lib.fields (DI op).2.1.data.toList).length≤op-(DI op).1∧e= .returned (.tuple #[.slice none 0 0,.int .i64 (-1),.string ByteArray.empty]))∨
  (op-(DI op).1<(Lib.fields (DI op).2.1.data.toList).length∧ ∃g,e= .returned (.tuple #[.slice (some ⟨g,0,none⟩) (Lib.fields (DI op).2.1.data.toList).length (Lib.fields (DI op).2.1.data.toList).length,.int .i64 ((op-(DI op).1:Nat):Int),.string (DI op).2.2])∧w.heap.size≤g∧g<w'.heap.size∧
   ∀j:Nat,∀x,(Lib.fields (DI op).2.1.data.toList)[j]?=some x→w'.cell? ⟨g,j,none⟩=some (.string ⟨x.toArray⟩)))
theorem tO (op:Nat) (w:World) (hop:op<256) (htab:Lib.TabIs prog w "strings.asciiSpace" .u8 Lib.asciiSpaceTab):
 Calls prog 190 #[.int .u8 op] w (tN op w):=by
 have Ht:=AA (Lib.tabBelow_of_tabIs htab)
 clear htab
 go_enter func190,ntmps190
 by_cases h0:op<16
 case pos=>
  have d0:decide ((op:Int)<16)=true:=decide_eq_true (by omega)
  have hr:DI op=(0,QJ,ByteArray.empty):=by unfold DI;rw [if_pos h0]
  have Hr:=AA hr;clear hr
  go_wp2_with fail
  generalize hw:w.alloc _=w1
  have hb1:w1.cell? ⟨w.heap.size,0,none⟩=some (.int .u8 op):=by rw [←hw];exact(AQ.new w 5 [.int .u8 op]).cell 0
  have hsz:w.heap.size<w1.heap.size:=by rw [←hw];simp
  have H1:Hid (Below w.heap.size w w1):=by rw [←hw];exact AA ((Below.refl _ _).alloc (Nat.le_refl _) _)
  clear hw
  refine(Jj ⟨w.heap.size,0,none⟩ 0 op QJ ByteArray.empty w1 tL (by omega) hop (by rw [AAB];omega) hb1 hsz (Ht.out _ H1.out)).mono ?_
  rintro e w2 ⟨hbe,⟨hl,rfl⟩ | ⟨hl,rfl,hc⟩⟩
  ·have H2:=AA (H1.out.trans (hbe.mono H1.out.size));clear hbe
   go_wp2_with fail
   go_ret3
   refine⟨H2.out,.inl ⟨?_,rfl⟩⟩
   rw [Hr.out]
   exact hl
  ·have H2:=AA (H1.out.trans (hbe.mono H1.out.size))
   have hg2:w1.heap.size<w2.heap.size:=by
    obtain⟨y,hy⟩: ∃y,(Lib.fields QJ.data.toList)[0]?=some y:=⟨_,List.getElem?_eq_getElem (by omega)⟩
    exact Lb (hc 0 y hy)
   have Hc:=AA hc;clear hbe hc
   go_wp2_with fail
   go_ret3
   refine⟨H2.out,.inr ?_⟩
   rw [Hr.out]
   exact⟨hl,w1.heap.size,rfl,Nat.le_of_lt hsz,hg2,Hc.out⟩
 have d0:decide ((op:Int)<16)=false:=decide_eq_false (by omega)
 by_cases h1:op<24
 case pos=>
  have d1:decide ((op:Int)<24)=true:=decide_eq_true (by omega)
  have hr:DI op=(16,Kl,ByteArray.empty):=by unfold DI;rw [if_neg h0];rw [if_pos h1]
  have Hr:=AA hr;clear hr
  go_wp2_with fail
  generalize hw:w.alloc _=w1
  have hb1:w1.cell? ⟨w.heap.size,0,none⟩=some (.int .u8 op):=by rw [←hw];exact(AQ.new w 5 [.int .u8 op]).cell 0
  have hsz:w.heap.size<w1.heap.size:=by rw [←hw];simp
  have H1:Hid (Below w.heap.size w w1):=by rw [←hw];exact AA ((Below.refl _ _).alloc (Nat.le_refl _) _)
  clear hw
  refine(Jj ⟨w.heap.size,0,none⟩ 16 op Kl ByteArray.empty w1 gL (by omega) hop (by rw [mI];omega) hb1 hsz (Ht.out _ H1.out)).mono ?_
  rintro e w2 ⟨hbe,⟨hl,rfl⟩ | ⟨hl,rfl,hc⟩⟩
  ·have H2:=AA (H1.out.trans (hbe.mono H1.out.size));clear hbe
   go_wp2_with fail
   go_ret3
   refine⟨H2.out,.inl ⟨?_,rfl⟩⟩
   rw [Hr.out]
   exact hl
  ·have H2:=AA (H1.out.trans (hbe.mono H1.out.size))
   have hg2:w1.heap.size<w2.heap.size:=by
    obtain⟨y,hy⟩: ∃y,(Lib.fields Kl.data.toList)[0]?=some y:=⟨_,List.getElem?_eq_getElem (by omega)⟩
    exact Lb (hc 0 y hy)
   have Hc:=AA hc;clear hbe hc
   go_wp2_with fail
   go_ret3
   refine⟨H2.out,.inr ?_⟩
   rw [Hr.out]
   exact⟨hl,w1.heap.size,rfl,Nat.le_of_lt hsz,hg2,Hc.out⟩
 have d1:decide ((op:Int)<24)=false:=decide_eq_false (by omega)
 by_cases h2:op<32
 case pos=>
  have d2:decide ((op:Int)<32)=true:=decide_eq_true (by omega)
  have hr:DI op=(24,JJ,ByteArray.empty):=by unfold DI;rw [if_neg h0];rw [if_neg h1];rw [if_pos h2]
  have Hr:=AA hr;clear hr
  go_wp2_with fail
  generalize hw:w.alloc _=w1
  have hb1:w1.cell? ⟨w.heap.size,0,none⟩=some (.int .u8 op):=by rw [←hw];exact(AQ.new w 5 [.int .u8 op]).cell 0
  have hsz:w.heap.size<w1.heap.size:=by rw [←hw];simp
  have H1:Hid (Below w.heap.size w w1):=by rw [←hw];exact AA ((Below.refl _ _).alloc (Nat.le_refl _) _)
  clear hw
  refine(Jj ⟨w.heap.size,0,none⟩ 24 op JJ ByteArray.empty w1 Zw (by omega) hop (by rw [gN];omega) hb1 hsz (Ht.out _ H1.out)).mono ?_
  rintro e w2 ⟨hbe,⟨hl,rfl⟩ | ⟨hl,rfl,hc⟩⟩
  ·have H2:=AA (H1.out.trans (hbe.mono H1.out.size));clear hbe
   go_wp2_with fail
   go_ret3
   refine⟨H2.out,.inl ⟨?_,rfl⟩⟩
   rw [Hr.out]
   exact hl
  ·have H2:=AA (H1.out.trans (hbe.mono H1.out.size))
   have hg2:w1.heap.size<w2.heap.size:=by
    obtain⟨y,hy⟩: ∃y,(Lib.fields JJ.data.toList)[0]?=some y:=⟨_,List.getElem?_eq_getElem (by omega)⟩
    exact Lb (hc 0 y hy)
   have Hc:=AA hc;clear hbe hc
   go_wp2_with fail
   go_ret3
   refine⟨H2.out,.inr ?_⟩
   rw [Hr.out]
   exact⟨hl,w1.heap.size,rfl,Nat.le_of_lt hsz,hg2,Hc.out⟩
 have d2:decide ((op:Int)<32)=false:=decide_eq_false (by omega)
 by_cases h3:op<48
 case pos=>
  have d3:decide ((op:Int)<48)=true:=decide_eq_true (by omega)
  have hr:DI op=(32,JK,ByteArray.empty):=by unfold DI;rw [if_neg h0];rw [if_neg h1];rw [if_neg h2];rw [if_pos h3]
  have Hr:=AA hr;clear hr
  go_wp2_with fail
  generalize hw:w.alloc _=w1
  have hb1:w1.cell? ⟨w.heap.size,0,none⟩=some (.int .u8 op):=by rw [←hw];exact(AQ.new w 5 [.int .u8 op]).cell 0
  have hsz:w.heap.size<w1.heap.size:=by rw [←hw];simp
  have H1:Hid (Below w.heap.size w w1):=by rw [←hw];exact AA ((Below.refl _ _).alloc (Nat.le_refl _) _)
  clear hw
  refine(Jj ⟨w.heap.size,0,none⟩ 32 op JK ByteArray.empty w1 Zx (by omega) hop (by rw [gP];omega) hb1 hsz (Ht.out _ H1.out)).mono ?_
  rintro e w2 ⟨hbe,⟨hl,rfl⟩ | ⟨hl,rfl,hc⟩⟩
  ·have H2:=AA (H1.out.trans (hbe.mono H1.out.size));clear hbe
   go_wp2_with fail
   go_ret3
   refine⟨H2.out,.inl ⟨?_,rfl⟩⟩
   rw [Hr.out]
   exact hl
  ·have H2:=AA (H1.out.trans (hbe.mono H1.out.size))
   have hg2:w1.heap.size<w2.heap.size:=by
    obtain⟨y,hy⟩: ∃y,(Lib.fields JK.data.toList)[0]?=some y:=⟨_,List.getElem?_eq_getElem (by omega)⟩
    exact Lb (hc 0 y hy)
   have Hc:=AA hc;clear hbe hc
   go_wp2_with fail
   go_ret3
   refine⟨H2.out,.inr ?_⟩
   rw [Hr.out]
   exact⟨hl,w1.heap.size,rfl,Nat.le_of_lt hsz,hg2,Hc.out⟩
 have d3:decide ((op:Int)<48)=false:=decide_eq_false (by omega)
 by_cases h4:op<80
 case pos=>
  have d4:decide ((op:Int)<80)=true:=decide_eq_true (by omega)
  have hr:DI op=(48,EA,⟨#[119,46]⟩):=by unfold DI;rw [if_neg h0];rw [if_neg h1];rw [if_neg h2];rw [if_neg h3];rw [if_pos h4]
  have Hr:=AA hr;clear hr
  go_wp2_with fail
  generalize hw:w.alloc _=w1
  have hb1:w1.cell? ⟨w.heap.size,0,none⟩=some (.int .u8 op):=by rw [←hw];exact(AQ.new w 5 [.int .u8 op]).cell 0
  have hsz:w.heap.size<w1.heap.size:=by rw [←hw];simp
  have H1:Hid (Below w.heap.size w w1):=by rw [←hw];exact AA ((Below.refl _ _).alloc (Nat.le_refl _) _)
  clear hw
  refine(Jj ⟨w.heap.size,0,none⟩ 48 op EA ⟨#[119,46]⟩ w1 Qu (by omega) hop (by rw [Sj];omega) hb1 hsz (Ht.out _ H1.out)).mono ?_
  rintro e w2 ⟨hbe,⟨hl,rfl⟩ | ⟨hl,rfl,hc⟩⟩
  ·have H2:=AA (H1.out.trans (hbe.mono H1.out.size));clear hbe
   go_wp2_with fail
   go_ret3
   refine⟨H2.out,.inl ⟨?_,rfl⟩⟩
   rw [Hr.out]
   exact hl
  ·have H2:=AA (H1.out.trans (hbe.mono H1.out.size))
   have hg2:w1.heap.size<w2.heap.size:=by
    obtain⟨y,hy⟩: ∃y,(Lib.fields EA.data.toList)[0]?=some y:=⟨_,List.getElem?_eq_getElem (by omega)⟩
    exact Lb (hc 0 y hy)
   have Hc:=AA hc;clear hbe hc
   go_wp2_with fail
   go_ret3
   refine⟨H2.out,.inr ?_⟩
   rw [Hr.out]
   exact⟨hl,w1.heap.size,rfl,Nat.le_of_lt hsz,hg2,Hc.out⟩
 have d4:decide ((op:Int)<80)=false:=decide_eq_false (by omega)
 by_cases h5:op<112
 case pos=>
  have d5:decide ((op:Int)<112)=true:=decide_eq_true (by omega)
  have hr:DI op=(80,EA,⟨#[108,46]⟩):=by unfold DI;rw [if_neg h0];rw [if_neg h1];rw [if_neg h2];rw [if_neg h3];rw [if_neg h4];rw [if_pos h5]
  have Hr:=AA hr;clear hr
  go_wp2_with fail
  generalize hw:w.alloc _=w1
  have hb1:w1.cell? ⟨w.heap.size,0,none⟩=some (.int .u8 op):=by rw [←hw];exact(AQ.new w 5 [.int .u8 op]).cell 0
  have hsz:w.heap.size<w1.heap.size:=by rw [←hw];simp
  have H1:Hid (Below w.heap.size w w1):=by rw [←hw];exact AA ((Below.refl _ _).alloc (Nat.le_refl _) _)
  clear hw
  refine(Jj ⟨w.heap.size,0,none⟩ 80 op EA ⟨#[108,46]⟩ w1 Qu (by omega) hop (by rw [Sj];omega) hb1 hsz (Ht.out _ H1.out)).mono ?_
  rintro e w2 ⟨hbe,⟨hl,rfl⟩ | ⟨hl,rfl,hc⟩⟩
  ·have H2:=AA (H1.out.trans (hbe.mono H1.out.size));clear hbe
   go_wp2_with fail
   go_ret3
   refine⟨H2.out,.inl ⟨?_,rfl⟩⟩
   rw [Hr.out]
   exact hl
  ·have H2:=AA (H1.out.trans (hbe.mono H1.out.size))
   have hg2:w1.heap.size<w2.heap.size:=by
    obtain⟨y,hy⟩: ∃y,(Lib.fields EA.data.toList)[0]?=some y:=⟨_,List.getElem?_eq_getElem (by omega)⟩
    exact Lb (hc 0 y hy)
   have Hc:=AA hc;clear hbe hc
   go_wp2_with fail
   go_ret3
   refine⟨H2.out,.inr ?_⟩
   rw [Hr.out]
   exact⟨hl,w1.heap.size,rfl,Nat.le_of_lt hsz,hg2,Hc.out⟩
 have d5:decide ((op:Int)<112)=false:=decide_eq_false (by omega)
 have hr:DI op=(112,Km,ByteArray.empty):=by unfold DI;rw [if_neg h0];rw [if_neg h1];rw [if_neg h2];rw [if_neg h3];rw [if_neg h4];rw [if_neg h5]
 have Hr:=AA hr;clear hr
 go_wp2_with fail
 generalize hw:w.alloc _=w1
 have hb1:w1.cell? ⟨w.heap.size,0,none⟩=some (.int .u8 op):=by rw [←hw];exact(AQ.new w 5 [.int .u8 op]).cell 0
 have hsz:w.heap.size<w1.heap.size:=by rw [←hw];simp
 have H1:Hid (Below w.heap.size w w1):=by rw [←hw];exact AA ((Below.refl _ _).alloc (Nat.le_refl _) _)
 clear hw
 refine(Jj ⟨w.heap.size,0,none⟩ 112 op Km ByteArray.empty w1 gM (by omega) hop (by rw [mJ];omega) hb1 hsz (Ht.out _ H1.out)).mono ?_
 rintro e w2 ⟨hbe,⟨hl,rfl⟩ | ⟨hl,rfl,hc⟩⟩
 ·have H2:=AA (H1.out.trans (hbe.mono H1.out.size));clear hbe
  go_wp2_with fail
  go_ret3
  refine⟨H2.out,.inl ⟨?_,rfl⟩⟩
  rw [Hr.out]
  exact hl
 ·have H2:=AA (H1.out.trans (hbe.mono H1.out.size))
  have hg2:w1.heap.size<w2.heap.size:=by
   obtain⟨y,hy⟩: ∃y,(Lib.fields Km.data.toList)[0]?=some y:=⟨_,List.getElem?_eq_getElem (by omega)⟩
   exact Lb (hc 0 y hy)
  have Hc:=AA hc;clear hbe hc
  go_wp2_with fail
  go_ret3
  refine⟨H2.out,.inr ?_⟩
  rw [Hr.out]
  exact⟨hl,w1.heap.size,rfl,Nat.le_of_lt hsz,hg2,Hc.out⟩
end Go.Proofs.YtlagonfamllgjaaGreatDoor
