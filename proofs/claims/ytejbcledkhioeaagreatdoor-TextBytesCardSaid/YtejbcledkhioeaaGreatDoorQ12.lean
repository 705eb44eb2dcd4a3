/- Part 12 of the proof: OpsR OpsQ TypesD TypesE TypesF TypesQ -/
import Derived.Lib.AppendIntMem
import Derived.Laws.ResultCell
import Derived.Laws.Rows
import Derived.Lib.IndexMore
import Derived.Lib.IndexLaws
import Derived.Test.YtejbcledkhioeaaGreatDoorQ05
import Derived.Test.YtejbcledkhioeaaGreatDoorQ11
namespace Go.Proofs.YtejbcledkhioeaaGreatDoor
set_option linter.unusedVariables false
set_option linter.unusedSimpArgs false
set_option maxRecDepth 100000
set_option maxHeartbeats 4000000
open Go.RowKit Tryz
def ascii (s:ByteArray):Prop:=s.size<4294967281∧ ∀(j:Nat) b,s.data.toList[j]?=some b→b.toNat<128
def nN (from_ op:Nat) (s ahead:ByteArray) (w:World) (e:Ending) (w':World):Prop:=
 Below w.heap.size w w'∧(((Lib.fields s.data.toList).length≤op-from_∧e= .returned (.tuple #[.slice none 0 0,.int .i64 (-1),.string ByteArray.empty]))∨
  (op-from_<(Lib.fields s.data.toList).length∧e= .returned (.tuple #[.slice (some ⟨w.heap.size,0,none⟩) (Lib.fields s.data.toList).length (Lib.fields s.data.toList).length,.int .i64 ((op-from_:Nat):Int),.string ahead])∧
   ∀j:Nat,∀x,(Lib.fields s.data.toList)[j]?=some x→w'.cell? ⟨w.heap.size,j,none⟩=some (.string ⟨x.toArray⟩)))
theorem Lp (a:Addr) (from_ op:Nat) (s ahead:ByteArray) (w:World) (hs:ascii s) (hle:from_≤op) (hop:op<256) (hlen:(Lib.fields s.data.toList).length≤4294967281) (ha:w.cell? a=some (.int .u8 op)) (hab:a.block<w.heap.size) (htab:Lib.TabIs prog w "strings.asciiSpace" .u8 Lib.asciiSpaceTab):
 Calls prog 170 #[.int .u8 from_,.string s,.string ahead,.pointer (some a)] w (nN from_ op s ahead w):=by
 have H1:=AA htab
 have Hs:=AA hs
 clear htab hs
 go_enter func170,ntmps170
 go_wp2_with fail
 refine(strings_Fields s w Hs.out.1 Hs.out.2 H1.out).mono ?_
 rintro e w1 ⟨rfl,rfl⟩
 generalize hL:Lib.fields s.data.toList=L at*
 have hgr:Below w.heap.size w (w.alloc (.cells (L.map fun l=>Value.string ⟨l.toArray⟩).toArray 9)):=(Below.refl _ _).alloc (Nat.le_refl _) _
 have ha1:(w.alloc (.cells (L.map fun l=>Value.string ⟨l.toArray⟩).toArray 9)).cell? a=some (.int .u8 op):=by rw [hgr.cell hab];exact ha
 have HB:=AA hgr
 have Hc:Hid (∀(j:Nat) x,L[j]?=some x→(w.alloc (.cells (L.map fun l=>Value.string ⟨l.toArray⟩).toArray 9)).cell? ⟨w.heap.size,j,none⟩=some (.string ⟨x.toArray⟩)):=AA (fun j x hx=>by
  have hb:=AL.new w 9 (L.map fun l=>Value.string ⟨l.toArray⟩)
  rw [hb.cell,List.getElem?_map,hx];rfl)
 generalize w.alloc (.cells (L.map fun l=>Value.string ⟨l.toArray⟩).toArray 9)=w1 at*
 clear hgr ha
 obtain⟨n,rfl⟩: ∃n,op=from_+n:=⟨op-from_,by omega⟩
 have hsub:from_+n-from_=n:=by omega
 have hw8:IntKind.u8.wrap (((from_+n:Nat):Int)-(from_:Int))=(n:Int):=by rw [show((from_+n:Nat):Int)-(from_:Int)=(n:Int)by omega];exact IntWalk.u8_in _ ⟨by omega,by omega⟩
 by_cases hn:L.length≤n
 ·go_wp2_with fail
  go_ret3
  refine⟨HB.out,?_⟩
  rw [hL,hsub]
  exact .inl ⟨hn,rfl⟩
 ·go_wp2_with fail
  go_quiet (fail)
  go_wp2_with fail
  go_ret3
  refine⟨below_drewN HB.out _,?_⟩
  rw [hL,hsub]
  refine .inr ⟨by omega,?_,fun j x hx=>Hc.out j x hx⟩
  simp
  omega
theorem Ns {w:World} {a:Addr} {v:Value} (h:w.cell? a=some v):a.block<w.heap.size:=by
 unfold World.cell? at h
 by_cases hlt:a.block<w.heap.size
 ·exact hlt
 ·rw [Array.getElem?_eq_none (by omega)] at h
  simp at h
theorem NA {s:ByteArray} (h1:s.size<4294967281) (h2:s.data.toList.all (fun b=>b.toNat<128)=true):ascii s:=
 ⟨h1,fun j b hb=>by simpa using List.all_eq_true.1 h2 b (List.mem_of_getElem? hb)⟩
def SH:ByteArray:=⟨#[116,114,97,112,32,110,111,112,32,98,108,111,99,107,32,108,111,111,112,32,105,102,32,101,108,115,101,32,101,110,100,32,98,114,32,98,114,105,102,32,98,114,116,97,98,108,101,32,114,101,116,117,114,110,32,99,97,108,108,32,104,111,115,116]⟩
def NC:ByteArray:=⟨#[100,114,111,112,32,115,101,108,101,99,116,32,103,101,116,32,115,101,116,32,116,101,101,32,103,103,101,116,32,103,115,101,116]⟩
def Lc:ByteArray:=⟨#[119,46,99,111,110,115,116,32,108,46,99,111,110,115,116]⟩
def Ld:ByteArray:=⟨#[119,46,108,111,97,100,56,117,32,119,46,108,111,97,100,56,115,32,119,46,108,111,97,100,49,54,117,32,119,46,108,111,97,100,49,54,115,32,119,46,108,111,97,100,32,108,46,108,111,97,100,32,119,46,115,116,111,114,101,56,32,119,46,115,116,111,114,101,49,54,32,119,46,115,116,111,114,101,32,108,46,115,116,111,114,101,32,115,105,122,101,32,103,114,111,119]⟩
def Eh:ByteArray:=⟨#[101,113,122,32,101,113,32,110,101,32,108,116,115,32,108,116,117,32,108,101,115,32,108,101,117,32,99,108,122,32,99,116,122,32,112,111,112,32,97,100,100,32,115,117,98,32,109,117,108,32,100,105,118,115,32,100,105,118,117,32,114,101,109,115,32,114,101,109,117,32,97,110,100,32,111,114,32,120,111,114,32,115,104,108,32,115,104,114,115,32,115,104,114,117,32,114,111,116,108,32,114,111,116,114]⟩
def ND:ByteArray:=⟨#[119,46,119,114,97,112,32,108,46,101,120,116,101,110,100,115,32,108,46,101,120,116,101,110,100,117,32,119,46,101,120,116,56,32,119,46,101,120,116,49,54,32,108,46,101,120,116,51,50]⟩
theorem sW:ascii SH:=NA (by decide) (by decide)
theorem iM:ascii NC:=NA (by decide) (by decide)
theorem au:ascii Lc:=NA (by decide) (by decide)
theorem av:ascii Ld:=NA (by decide) (by decide)
theorem TK:ascii Eh:=NA (by decide) (by decide)
theorem iN:ascii ND:=NA (by decide) (by decide)
theorem yM:(Lib.fields SH.data.toList).length=13:=by kernel_rfl
theorem nO:(Lib.fields NC.data.toList).length=7:=by kernel_rfl
theorem iO:(Lib.fields Lc.data.toList).length=2:=by kernel_rfl
theorem iP:(Lib.fields Ld.data.toList).length=12:=by kernel_rfl
theorem U1:(Lib.fields Eh.data.toList).length=25:=by kernel_rfl
theorem nP:(Lib.fields ND.data.toList).length=6:=by kernel_rfl
def DF (n:Nat):Nat×ByteArray×ByteArray:=
 if n<16 then(0,SH,ByteArray.empty) else if n<24 then(16,NC,ByteArray.empty) else if n<32 then(24,Lc,ByteArray.empty) else if n<48 then(32,Ld,ByteArray.empty) else if n<80 then(48,Eh,⟨#[119,46]⟩) else if n<112 then(80,Eh,⟨#[108,46]⟩) else(112,ND,ByteArray.empty)
def sZ (op:Nat) (w:World) (e:Ending) (w':World):Prop:=
 Below w.heap.size w w'∧(((Lib.fields (DF op).2.1.data.toList).length≤op-(DF op).1∧e= .returned (.tuple #[.slice none 0 0,.int .i64 (-1),.string ByteArray.empty]))∨
  (op-(DF op).1<(Lib.fields (DF op).2.1.data.toList).length∧ ∃g,e= .returned (.tuple #[.slice (some ⟨g,0,none⟩) (Lib.fields (DF op).2.1.data.toList).length (Lib.fields (DF op).2.1.data.toList).length,.int .i64 ((op-(DF op).1:Nat):Int),.string (DF op).2.2])∧w.heap.size≤g∧g<w'.heap.size∧
   ∀j:Nat,∀x,(Lib.fields (DF op).2.1.data.toList)[j]?=some x→w'.cell? ⟨g,j,none⟩=some (.string ⟨x.toArray⟩)))
theorem eU (op:Nat) (w:World) (hop:op<256) (htab:Lib.TabIs prog w "strings.asciiSpace" .u8 Lib.asciiSpaceTab):
 Calls prog 130 #[.int .u8 op] w (sZ op w):=by
 have Ht:=AA (Lib.tabBelow_of_tabIs htab)
 clear htab
 go_enter func130,ntmps130
 by_cases h0:op<16
 case pos=>
  have d0:decide ((op:Int)<16)=true:=decide_eq_true (by omega)
  have hr:DF op=(0,SH,ByteArray.empty):=by unfold DF;rw [if_pos h0]
  have Hr:=AA hr;clear hr
  go_wp2_with fail
  generalize hw:w.alloc _=w1
  have hb1:w1.cell? ⟨w.heap.size,0,none⟩=some (.int .u8 op):=by rw [←hw];exact(AL.new w 5 [.int .u8 op]).cell 0
  have hsz:w.heap.size<w1.heap.size:=by rw [←hw];simp
  have H1:Hid (Below w.heap.size w w1):=by rw [←hw];exact AA ((Below.refl _ _).alloc (Nat.le_refl _) _)
  clear hw
  refine(Lp ⟨w.heap.size,0,none⟩ 0 op SH ByteArray.empty w1 sW (by omega) hop (by rw [yM];omega) hb1 hsz (Ht.out _ H1.out)).mono ?_
  rintro e w2 ⟨hbe,⟨hl,rfl⟩ | ⟨hl,rfl,hc⟩⟩
  ·have H2:=AA (H1.out.trans (hbe.mono H1.out.size));clear hbe
   go_wp2_with fail
   go_ret3
   refine⟨H2.out,.inl ⟨?_,rfl⟩⟩
   rw [Hr.out]
   exact hl
  ·have H2:=AA (H1.out.trans (hbe.mono H1.out.size))
   have hg2:w1.heap.size<w2.heap.size:=by
    obtain⟨y,hy⟩: ∃y,(Lib.fields SH.data.toList)[0]?=some y:=⟨_,List.getElem?_eq_getElem (by omega)⟩
    exact Ns (hc 0 y hy)
   have Hc:=AA hc;clear hbe hc
   go_wp2_with fail
   go_ret3
   refine⟨H2.out,.inr ?_⟩
   rw [Hr.out]
   exact⟨hl,w1.heap.size,rfl,Nat.le_of_lt hsz,hg2,Hc.out⟩
 have d0:decide ((op:Int)<16)=false:=decide_eq_false (by omega)
 by_cases h1:op<24
 case pos=>
  have d1:decide ((op:Int)<24)=true:=decide_eq_true (by omega)
  have hr:DF op=(16,NC,ByteArray.empty):=by unfold DF;rw [if_neg h0];rw [if_pos h1]
  have Hr:=AA hr;clear hr
  go_wp2_with fail
  generalize hw:w.alloc _=w1
  have hb1:w1.cell? ⟨w.heap.size,0,none⟩=some (.int .u8 op):=by rw [←hw];exact(AL.new w 5 [.int .u8 op]).cell 0
  have hsz:w.heap.size<w1.heap.size:=by rw [←hw];simp
  have H1:Hid (Below w.heap.size w w1):=by rw [←hw];exact AA ((Below.refl _ _).alloc (Nat.le_refl _) _)
  clear hw
  refine(Lp ⟨w.heap.size,0,none⟩ 16 op NC ByteArray.empty w1 iM (by omega) hop (by rw [nO];omega) hb1 hsz (Ht.out _ H1.out)).mono ?_
  rintro e w2 ⟨hbe,⟨hl,rfl⟩ | ⟨hl,rfl,hc⟩⟩
  ·have H2:=AA (H1.out.trans (hbe.mono H1.out.size));clear hbe
   go_wp2_with fail
   go_ret3
   refine⟨H2.out,.inl ⟨?_,rfl⟩⟩
   rw [Hr.out]
   exact hl
  ·have H2:=AA (H1.out.trans (hbe.mono H1.out.size))
   have hg2:w1.heap.size<w2.heap.size:=by
    obtain⟨y,hy⟩: ∃y,(Lib.fields NC.data.toList)[0]?=some y:=⟨_,List.getElem?_eq_getElem (by omega)⟩
    exact Ns (hc 0 y hy)
   have Hc:=AA hc;clear hbe hc
   go_wp2_with fail
   go_ret3
   refine⟨H2.out,.inr ?_⟩
   rw [Hr.out]
   exact⟨hl,w1.heap.size,rfl,Nat.le_of_lt hsz,hg2,Hc.out⟩
 have d1:decide ((op:Int)<24)=false:=decide_eq_false (by omega)
 by_cases h2:op<32
 case pos=>
  have d2:decide ((op:Int)<32)=true:=decide_eq_true (by omega)
  have hr:DF op=(24,Lc,ByteArray.empty):=by unfold DF;rw [if_neg h0];rw [if_neg h1];rw [if_pos h2]
  have Hr:=AA hr;clear hr
  go_wp2_with fail
  generalize hw:w.alloc _=w1
  have hb1:w1.cell? ⟨w.heap.size,0,none⟩=some (.int .u8 op):=by rw [←hw];exact(AL.new w 5 [.int .u8 op]).cell 0
  have hsz:w.heap.size<w1.heap.size:=by rw [←hw];simp
  have H1:Hid (Below w.heap.size w w1):=by rw [←hw];exact AA ((Below.refl _ _).alloc (Nat.le_refl _) _)
  clear hw
  refine(Lp ⟨w.heap.size,0,none⟩ 24 op Lc ByteArray.empty w1 au (by omega) hop (by rw [iO];omega) hb1 hsz (Ht.out _ H1.out)).mono ?_
  rintro e w2 ⟨hbe,⟨hl,rfl⟩ | ⟨hl,rfl,hc⟩⟩
  ·have H2:=AA (H1.out.trans (hbe.mono H1.out.size));clear hbe
   go_wp2_with fail
   go_ret3
   refine⟨H2.out,.inl ⟨?_,rfl⟩⟩
   rw [Hr.out]
   exact hl
  ·have H2:=AA (H1.out.trans (hbe.mono H1.out.size))
   have hg2:w1.heap.size<w2.heap.size:=by
    obtain⟨y,hy⟩: ∃y,(Lib.fields Lc.data.toList)[0]?=some y:=⟨_,List.getElem?_eq_getElem (by omega)⟩
    exact Ns (hc 0 y hy)
   have Hc:=AA hc;clear hbe hc
   go_wp2_with fail
   go_ret3
   refine⟨H2.out,.inr ?_⟩
   rw [Hr.out]
   exact⟨hl,w1.heap.size,rfl,Nat.le_of_lt hsz,hg2,Hc.out⟩
 have d2:decide ((op:Int)<32)=false:=decide_eq_false (by omega)
 by_cases h3:op<48
 case pos=>
  have d3:decide ((op:Int)<48)=true:=decide_eq_true (by omega)
  have hr:DF op=(32,Ld,ByteArray.empty):=by unfold DF;rw [if_neg h0];rw [if_neg h1];rw [if_neg h2];rw [if_pos h3]
  have Hr:=AA hr;clear hr
  go_wp2_with fail
  generalize hw:w.alloc _=w1
  have hb1:w1.cell? ⟨w.heap.size,0,none⟩=some (.int .u8 op):=by rw [←hw];exact(AL.new w 5 [.int .u8 op]).cell 0
  have hsz:w.heap.size<w1.heap.size:=by rw [←hw];simp
  have H1:Hid (Below w.heap.size w w1):=by rw [←hw];exact AA ((Below.refl _ _).alloc (Nat.le_refl _) _)
  clear hw
  refine(Lp ⟨w.heap.size,0,none⟩ 32 op Ld ByteArray.empty w1 av (by omega) hop (by rw [iP];omega) hb1 hsz (Ht.out _ H1.out)).mono ?_
  rintro e w2 ⟨hbe,⟨hl,rfl⟩ | ⟨hl,rfl,hc⟩⟩
  ·have H2:=AA (H1.out.trans (hbe.mono H1.out.size));clear hbe
   go_wp2_with fail
   go_ret3
   refine⟨H2.out,.inl ⟨?_,rfl⟩⟩
   rw [Hr.out]
   exact hl
  ·have H2:=AA (H1.out.trans (hbe.mono H1.out.size))
   have hg2:w1.heap.size<w2.heap.size:=by
    obtain⟨y,hy⟩: ∃y,(Lib.fields Ld.data.toList)[0]?=some y:=⟨_,List.getElem?_eq_getElem (by omega)⟩
    exact Ns (hc 0 y hy)
   have Hc:=AA hc;clear hbe hc
   go_wp2_with fail
   go_ret3
   refine⟨H2.out,.inr ?_⟩
   rw [Hr.out]
   exact⟨hl,w1.heap.size,rfl,Nat.le_of_lt hsz,hg2,Hc.out⟩
 have d3:decide ((op:Int)<48)=false:=decide_eq_false (by omega)
 by_cases h4:op<80
 case pos=>
  have d4:decide ((op:Int)<80)=true:=decide_eq_true (by omega)
  have hr:DF op=(48,Eh,⟨#[119,46]⟩):=by unfold DF;rw [if_neg h0];rw [if_neg h1];rw [if_neg h2];rw [if_neg h3];rw [if_pos h4]
  have Hr:=AA hr;clear hr
  go_wp2_with fail
  generalize hw:w.alloc _=w1
  have hb1:w1.cell? ⟨w.heap.size,0,none⟩=some (.int .u8 op):=by rw [←hw];exact(AL.new w 5 [.int .u8 op]).cell 0
  have hsz:w.heap.size<w1.heap.size:=by rw [←hw];simp
  have H1:Hid (Below w.heap.size w w1):=by rw [←hw];exact AA ((Below.refl _ _).alloc (Nat.le_refl _) _)
  clear hw
  refine(Lp ⟨w.heap.size,0,none⟩ 48 op Eh ⟨#[119,46]⟩ w1 TK (by omega) hop (by rw [U1];omega) hb1 hsz (Ht.out _ H1.out)).mono ?_
  rintro e w2 ⟨hbe,⟨hl,rfl⟩ | ⟨hl,rfl,hc⟩⟩
  ·have H2:=AA (H1.out.trans (hbe.mono H1.out.size));clear hbe
   go_wp2_with fail
   go_ret3
   refine⟨H2.out,.inl ⟨?_,rfl⟩⟩
   rw [Hr.out]
   exact hl
  ·have H2:=AA (H1.out.trans (hbe.mono H1.out.size))
   have hg2:w1.heap.size<w2.heap.size:=by
    obtain⟨y,hy⟩: ∃y,(Lib.fields Eh.data.toList)[0]?=some y:=⟨_,List.getElem?_eq_getElem (by omega)⟩
    exact Ns (hc 0 y hy)
   have Hc:=AA hc;clear hbe hc
   go_wp2_with fail
   go_ret3
   refine⟨H2.out,.inr ?_⟩
   rw [Hr.out]
   exact⟨hl,w1.heap.size,rfl,Nat.le_of_lt hsz,hg2,Hc.out⟩
 have d4:decide ((op:Int)<80)=false:=decide_eq_false (by omega)
 by_cases h5:op<112
 case pos=>
  have d5:decide ((op:Int)<112)=true:=decide_eq_true (by omega)
  have hr:DF op=(80,Eh,⟨#[108,46]⟩):=by unfold DF;rw [if_neg h0];rw [if_neg h1];rw [if_neg h2];rw [if_neg h3];rw [if_neg h4];rw [if_pos h5]
  have Hr:=AA hr;clear hr
  go_wp2_with fail
  generalize hw:w.alloc _=w1
  have hb1:w1.cell? ⟨w.heap.size,0,none⟩=some (.int .u8 op):=by rw [←hw];exact(AL.new w 5 [.int .u8 op]).cell 0
  have hsz:w.heap.size<w1.heap.size:=by rw [←hw];simp
  have H1:Hid (Below w.heap.size w w1):=by rw [←hw];exact AA ((Below.refl _ _).alloc (Nat.le_refl _) _)
  clear hw
  refine(Lp ⟨w.heap.size,0,none⟩ 80 op Eh ⟨#[108,46]⟩ w1 TK (by omega) hop (by rw [U1];omega) hb1 hsz (Ht.out _ H1.out)).mono ?_
  rintro e w2 ⟨hbe,⟨hl,rfl⟩ | ⟨hl,rfl,hc⟩⟩
  ·have H2:=AA (H1.out.trans (hbe.mono H1.out.size));clear hbe
   go_wp2_with fail
   go_ret3
   refine⟨H2.out,.inl ⟨?_,rfl⟩⟩
   rw [Hr.out]
   exact hl
  ·have H2:=AA (H1.out.trans (hbe.mono H1.out.size))
   have hg2:w1.heap.size<w2.heap.size:=by
    obtain⟨y,hy⟩: ∃y,(Lib.fields Eh.data.toList)[0]?=some y:=⟨_,List.getElem?_eq_getElem (by omega)⟩
    exact Ns (hc 0 y hy)
   have Hc:=AA hc;clear hbe hc
   go_wp2_with fail
   go_ret3
   refine⟨H2.out,.inr ?_⟩
   rw [Hr.out]
   exact⟨hl,w1.heap.size,rfl,Nat.le_of_lt hsz,hg2,Hc.out⟩
 have d5:decide ((op:Int)<112)=false:=decide_eq_false (by omega)
 have hr:DF op=(112,ND,ByteArray.empty):=by unfold DF;rw [if_neg h0];rw [if_neg h1];rw [if_neg h2];rw [if_neg h3];rw [if_neg h4];rw [if_neg h5]
 have Hr:=AA hr;clear hr
 go_wp2_with fail
 generalize hw:w.alloc _=w1
 have hb1:w1.cell? ⟨w.heap.size,0,none⟩=some (.int .u8 op):=by rw [←hw];exact(AL.new w 5 [.int .u8 op]).cell 0
 have hsz:w.heap.size<w1.heap.size:=by rw [←hw];simp
 have H1:Hid (Below w.heap.size w w1):=by rw [←hw];exact AA ((Below.refl _ _).alloc (Nat.le_refl _) _)
 clear hw
 refine(Lp ⟨w.heap.size,0,none⟩ 112 op ND ByteArray.empty w1 iN (by omega) hop (by rw [nP];omega) hb1 hsz (Ht.out _ H1.out)).mono ?_
 rintro e w2 ⟨hbe,⟨hl,rfl⟩ | ⟨hl,rfl,hc⟩⟩
 ·have H2:=AA (H1.out.trans (hbe.mono H1.out.size));clear hbe
  go_wp2_with fail
  go_ret3
  refine⟨H2.out,.inl ⟨?_,rfl⟩⟩
  rw [Hr.out]
  exact hl
 ·have H2:=AA (H1.out.trans (hbe.mono H1.out.size))
  have hg2:w1.heap.size<w2.heap.size:=by
   obtain⟨y,hy⟩: ∃y,(Lib.fields ND.data.toList)[0]?=some y:=⟨_,List.getElem?_eq_getElem (by omega)⟩
   exact Ns (hc 0 y hy)
  have Hc:=AA hc;clear hbe hc
  go_wp2_with fail
  go_ret3
  refine⟨H2.out,.inr ?_⟩
  rw [Hr.out]
  exact⟨hl,w1.heap.size,rfl,Nat.le_of_lt hsz,hg2,Hc.out⟩

def dash:ByteArray:=⟨#[45]⟩
def arrow:ByteArray:=⟨#[32,45,62,32]⟩
def none_:ByteArray:=⟨#[]⟩
def DV (s:ByteArray):ByteArray:=if s=none_ then dash else s
def DW (s:ByteArray):ByteArray×Bool:=if s=dash then(none_,true) else(s,decide (s≠none_))
theorem Ud {s:ByteArray} (h:s≠none_):s.toList.isEmpty=false:=by
 rw [ByteArray.toList_eq]
 cases hl:s.data.toList with
 | nil=>exact absurd (by cases s;simp at hl;subst hl;rfl) h
 | cons a l=>rfl
theorem dO {s:ByteArray} (h:s≠dash):(s.toList== [45])=false:=by
 rw [ByteArray.toList_eq]
 refine beq_eq_false_iff_ne.2 fun he=>h ?_
 cases s
 have he':=Array.toList_inj.1 (show _=(#[45]:Array UInt8).toList from he)
 unfold dash
 rw [←he']
theorem Ue (s:ByteArray) (w:World):Calls prog 76 #[.string s] w fun e w'=>w=w'∧e= .returned (.string (DV s)):=by
 by_cases h:s=none_
 ·subst h
  have hE:none_.toList.isEmpty=true:=by decide+kernel
  go_enter func76,ntmps76
  go_wp2
  go_ret
  exact⟨rfl,rfl⟩
 ·have HF:Hid (DV s=s):=AA (if_neg h)
  have hE:=Ud h
  clear h
  go_enter func76,ntmps76
  go_wp2
  go_ret
  exact⟨rfl,by rw [HF.out];rfl⟩
theorem TB (s:ByteArray) (w:World):Calls prog 185 #[.string s] w fun e w'=>w=w'∧e= .returned (.tuple #[.string (DW s).1,.bool (DW s).2]):=by
 by_cases h:s=dash
 ·subst h
  have hE:(dash.toList== [45])=true:=by decide+kernel
  go_enter func185,ntmps185
  go_wp2
  go_ret2
  exact⟨rfl,rfl⟩
 ·have hE:=dO h
  by_cases h0:s=none_
  ·have HF:Hid (DW s=(s,false)):=AA (by unfold DW;rw [if_neg h];simp [h0])
   have hE2:s.toList.isEmpty=true:=by rw [h0];decide+kernel
   clear h h0
   go_enter func185,ntmps185
   go_wp2
   go_ret2
   exact⟨rfl,by rw [HF.out];rfl⟩
  ·have HF:Hid (DW s=(s,true)):=AA (by unfold DW;rw [if_neg h];simp [h0])
   have hE2:=Ud h0
   clear h h0
   go_enter func185,ntmps185
   go_wp2
   go_ret2
   exact⟨rfl,by rw [HF.out];rfl⟩
def aI (p r:ByteArray):Bool:=KV 8 p.data.toList&&KV 8 r.data.toList
theorem WI (p r:ByteArray) (hp:p.size≤140737488351232) (hr:r.size≤140737488351232) (w:World):
 Calls prog 75 #[.agg #[.string p,.string r]] w fun e w'=>Below w.heap.size w w'∧e= .returned (.bool (aI p r)):=by
 have HP:=AA (fun W=>Mj p 8 hp (by omega) W)
 have HR:=AA (fun W=>Mj r 8 hr (by omega) W)
 have HE:Hid (aI p r=(KV 8 p.data.toList&&KV 8 r.data.toList)):=AA rfl
 generalize KV 8 p.data.toList=bp at*
 generalize KV 8 r.data.toList=br at*
 go_enter func75,ntmps75
 go_wp2_with fail
 generalize hw:w.alloc (.cells #[.string p,.string r] 51)=w1
 have hblk:AL w1 w.heap.size 51 [.string p,.string r]:=by rw [←hw];exact AL.new w 51 [.string p,.string r]
 have H1:Hid (Below w.heap.size w w1):=by rw [←hw];exact AA ((Below.refl _ _).alloc (Nat.le_refl _) _)
 have Hb:=AA hblk;clear hblk hw
 refine(HP.out w1).mono ?_
 rintro e w2 ⟨h2,rfl⟩
 have H2:Hid (Below w.heap.size w w2):=AA (H1.out.trans (h2.mono H1.out.size))
 have Hb2:Hid (AL w2 w.heap.size 51 [.string p,.string r]):=AA (Hb.out.below h2 Hb.out.lt)
 clear h2 Hb H1
 have hc1:=Hb2.out.q 1 rfl
 cases bp with
 | false=>
  go_wp2_with fail
  go_ret
  exact⟨H2.out,by rw [HE.out];rfl⟩
 | true=>
  go_wp2_with fail
  refine(HR.out w2).mono ?_
  rintro e w3 ⟨h3,rfl⟩
  have H3:Hid (Below w.heap.size w w3):=AA (H2.out.trans (h3.mono H2.out.size))
  go_wp2_with fail
  go_ret
  exact⟨H3.out,by rw [HE.out];rfl⟩
theorem Yh {p r:ByteArray} (h:aI p r=true):p.size≤8∧r.size≤8:=by
 unfold aI KV at h
 simp only [Bool.and_eq_true,decide_eq_true_eq] at h
 have h1:p.data.toList.length=p.size:=by simp
 have h2:r.data.toList.length=r.size:=by simp
 omega
def OJ (p r:ByteArray):ByteArray×Nat:=if aI p r=true then(DV p++arrow++DV r,0) else(none_,15)
theorem aJ (p r:ByteArray) (hp:p.size≤140737488351232) (hr:r.size≤140737488351232) (w:World):
 Calls prog 31 #[.agg #[.string p,.string r]] w fun e w'=>Below w.heap.size w w'∧e= .returned (.tuple #[.string (OJ p r).1,.int .i64 (OJ p r).2]):=by
 have HS:=AA (fun W=>WI p r hp hr W)
 have HP:=AA (fun W=>Ue p W)
 have HR:=AA (fun W=>Ue r W)
 cases hb:aI p r with
 | false=>
  have HE:Hid (OJ p r=(none_,15)):=AA (by unfold OJ;rw [hb];rfl)
  rw [hb] at HS
  clear hb
  go_enter func31,ntmps31
  go_wp2_with fail
  refine(HS.out _).mono ?_
  rintro e w1 ⟨h1,rfl⟩
  have H1:Hid (Below w.heap.size w w1):=AA (((Below.refl _ _).alloc (Nat.le_refl _) _).trans (h1.mono (by simp)))
  clear h1
  go_wp2_with fail
  go_ret2
  exact⟨H1.out,by rw [HE.out];rfl⟩
 | true=>
  have HE:Hid (OJ p r=(DV p++⟨#[32,45,62,32]⟩++DV r,0)):=AA (by unfold OJ;rw [hb];rfl)
  have hpa:(DV p).size≤100:=by have:=(Yh hb).1;unfold DV;split<;>(try (have:dash.size=1:=rfl))<;>omega
  have hra:(DV r).size≤100:=by have:=(Yh hb).2;unfold DV;split<;>(try (have:dash.size=1:=rfl))<;>omega
  have hsz:(DV p++(⟨#[32,45,62,32]⟩:ByteArray)).size=(DV p).size+4:=ByteArray.size_append
  have hs4:(⟨#[32,45,62,32]⟩:ByteArray).size=4:=rfl
  rw [hb] at HS
  clear hb
  go_enter func31,ntmps31
  go_wp2_with fail
  generalize hw:w.alloc (.cells #[.string p,.string r] 51)=w1
  have hblk:AL w1 w.heap.size 51 [.string p,.string r]:=by rw [←hw];exact AL.new w 51 [.string p,.string r]
  have H1:Hid (Below w.heap.size w w1):=by rw [←hw];exact AA ((Below.refl _ _).alloc (Nat.le_refl _) _)
  have Hb:=AA hblk;clear hblk hw
  refine(HS.out w1).mono ?_
  rintro e w2 ⟨h2,rfl⟩
  have H2:Hid (Below w.heap.size w w2):=AA (H1.out.trans (h2.mono H1.out.size))
  have Hb2:Hid (AL w2 w.heap.size 51 [.string p,.string r]):=AA (Hb.out.below h2 Hb.out.lt)
  clear h2 Hb H1
  have hc0:=Hb2.out.q 0 rfl
  have hc1:=Hb2.out.q 1 rfl
  go_wp2_with fail
  generalize DV p=a at*
  generalize DV r=b at*
  go_quiet ((go_at_call 76;first | exact Ya (HP.out _) | exact Ya (HR.out _)))
  go_wp2_with fail
  go_ret2
  exact⟨below_drewN H2.out _,by rw [HE.out];rfl⟩
def Nk (s:ByteArray):ByteArray:=⟨(Lib.cut s.data.toList [32,45,62,32]).1.toArray⟩
def Nl (s:ByteArray):ByteArray:=⟨(Lib.cut s.data.toList [32,45,62,32]).2.1.toArray⟩
def gV (s:ByteArray):Bool:=(Lib.cut s.data.toList [32,45,62,32]).2.2
theorem Qo (s:ByteArray):(Nk s).size≤s.size∧(Nl s).size≤s.size:=by
 have h:s.data.toList.length=s.size:=by simp
 unfold Nk Nl Lib.cut
 constructor
 ·show(List.toArray _).size≤_
  split<;>simp<;>omega
 ·show(List.toArray _).size≤_
  split<;>simp<;>omega
theorem J4 (s:ByteArray):(DW s).1.size≤s.size:=by
 unfold DW
 split
 ·exact Nat.zero_le _
 ·exact Nat.le_refl _
def El (s:ByteArray):ByteArray×ByteArray×Nat:=
 if gV s=true∧(DW (Nk s)).2=true∧(DW (Nl s)).2=true∧aI (DW (Nk s)).1 (DW (Nl s)).1=true then((DW (Nk s)).1,(DW (Nl s)).1,0) else(none_,none_,15)
theorem lI:(prog.info? 51).map (·.size)=some 2:=by kernel_rfl
theorem lJ {W:World} {g:Nat} {a b:ByteArray} (h:AL W g 51 [.string a,.string b]):(loadVar 51 ⟨g,0,none⟩).run prog W= .ok (.agg #[.string a,.string b]) W:=
 run_loadVar_row W g 51 51 #[.string a,.string b] (0,0) _ h underlying51 rfl lI
theorem XJ {W:World} {tmps:Array Value} {g:Nat} {x:Value} {a b:ByteArray} {Q:Ending→World→Prop} (h:AL W g 51 [.string a,.string b])
 (h2:tmps.getD 2 undef= .pointer (some ⟨g,0,none⟩)) (h3:tmps.getD 3 undef=x) (hq:Q (.returned (.tuple #[.agg #[.string a,.string b],x])) W):
 bodyPost prog f141 Q Exit.ret ⟨tmps,[]⟩ W:=by
 refine bodyPost_ret (v:= .tuple #[.agg #[.string a,.string b],x]) ?_ rfl hq
 rw [results_cell_tmp rfl]
 simp only [h2,h3,asAddr,Sem.run_pure,Result.andThen,lJ h]
theorem QC (s:ByteArray) (hs:s.size<4294967281) (m:Int) (w:World) (hm:w.cell? ⟨0,0,none⟩=some (.int .i64 m)):
 Calls prog 141 #[.string s] w fun e w'=>Below w.heap.size w w'∧e= .returned (.tuple #[.agg #[.string (El s).1,.string (El s).2.1],.int .i64 (El s).2.2]):=by
 have h0:0<w.heap.size:=by
  rcases Nat.eq_zero_or_pos w.heap.size with h | h
  ·exfalso
   have:w.heap[0]?=none:=Array.getElem?_eq_none (by omega)
   simp [World.cell?,this] at hm
  ·exact h
 have Hm:=AA hm;clear hm
 have hca:=(Qo s).1
 have hcb:=(Qo s).2
 have hma:=J4 (Nk s)
 have hmb:=J4 (Nl s)
 have HC:Hid (∀W:World,W.cell? ⟨0,0,none⟩=some (.int .i64 m)→Calls prog 184 #[.string s,.string ⟨#[32,45,62,32]⟩] W fun e w'=>e= .returned (.tuple #[.string (Nk s),.string (Nl s),.bool (gV s)])∧ ∃n,w'=W.drewN n):=
  AA (fun W hW=>strings_Cut s ⟨#[32,45,62,32]⟩ m W hs hW)
 have HA:=AA (fun W=>TB (Nk s) W)
 have HB:=AA (fun W=>TB (Nl s) W)
 have HS:=AA (fun W=>WI (DW (Nk s)).1 (DW (Nl s)).1 (by omega) (by omega) W)
 have HR:Hid (El s=if gV s=true∧(DW (Nk s)).2=true∧(DW (Nl s)).2=true∧aI (DW (Nk s)).1 (DW (Nl s)).1=true then((DW (Nk s)).1,(DW (Nl s)).1,0) else(none_,none_,15)):=AA rfl
 clear hca hcb hma hmb
 generalize DW (Nk s)=pa at*
 generalize DW (Nl s)=pb at*
 generalize Nk s=ca at*
 generalize Nl s=cb at*
 generalize gV s=ck at*
 obtain⟨p,bp⟩:=pa
 obtain⟨r,br⟩:=pb
 simp only at HA HB HS HR
 generalize aI p r=sg at*
 go_enter func141,ntmps141
 go_wp2_with fail
 generalize hw:w.alloc (.cells #[.string ⟨#[]⟩,.string ⟨#[]⟩] 51)=w1
 have Hb:Hid (AL w1 w.heap.size 51 [.string ⟨#[]⟩,.string ⟨#[]⟩]):=by rw [←hw];exact AA (AL.new w 51 [.string ⟨#[]⟩,.string ⟨#[]⟩])
 have H1:Hid (Below w.heap.size w w1):=by rw [←hw];exact AA ((Below.refl _ _).alloc (Nat.le_refl _) _)
 clear hw
 refine(HC.out w1 (by rw [H1.out.cell (p:=⟨0,0,none⟩) h0];exact Hm.out)).mono ?_
 rintro e w' ⟨rfl,nd,rfl⟩
 have Hb2:Hid (AL (w1.drewN nd) w.heap.size 51 [.string ⟨#[]⟩,.string ⟨#[]⟩]):=AA (Hb.out.drewN nd)
 have H2:Hid (Below w.heap.size w (w1.drewN nd)):=AA (below_drewN H1.out nd)
 generalize w1.drewN nd=w2 at*
 clear Hb H1
 go_wp2_with fail
 refine(HA.out w2).mono ?_
 rintro e w' ⟨rfl,rfl⟩
 go_wp2_with fail
 refine(HB.out w2).mono ?_
 rintro e w' ⟨rfl,rfl⟩
 have AAl:=Hb2.out.frozen 0
 have AAm:=Hb2.out.frozen 1
 have hq0:(w2.alloc (.cells #[.string p,.string r] 51)).cell? ⟨w.heap.size,0,none⟩=some (.string ⟨#[]⟩):=(Hb2.out.alloc _).cell 0
 have hq1:(w2.alloc (.cells #[.string p,.string r] 51)).cell? ⟨w.heap.size,1,none⟩=some (.string ⟨#[]⟩):=(Hb2.out.alloc _).cell 1
 have hqf0:=(Hb2.out.alloc (.cells #[.string p,.string r] 51)).frozen 0
 have hqf1:=(Hb2.out.alloc (.cells #[.string p,.string r] 51)).frozen 1
 have JR:Hid (Below w.heap.size w (((w2.alloc (.cells #[.string p,.string r] 51)).setCell ⟨w.heap.size,0,none⟩ (.string ⟨#[]⟩)).setCell ⟨w.heap.size,1,none⟩ (.string ⟨#[]⟩))):=
  AA (((H2.out.alloc H2.out.size _).setCell (p:=⟨w.heap.size,0,none⟩) (Nat.le_refl _) _).setCell (p:=⟨w.heap.size,1,none⟩) (Nat.le_refl _) _)
 have AAn:Hid (AL (((w2.alloc (.cells #[.string p,.string r] 51)).setCell ⟨w.heap.size,0,none⟩ (.string ⟨#[]⟩)).setCell ⟨w.heap.size,1,none⟩ (.string ⟨#[]⟩)) w.heap.size 51 [.string ⟨#[]⟩,.string ⟨#[]⟩]):=
  AA (((Hb2.out.alloc _).set 0 (.string ⟨#[]⟩)).set 1 (.string ⟨#[]⟩))
 cases ck<;>cases bp<;>cases br
 case true.true.true=>
  clear JR AAn hq0 hq1 hqf0 hqf1 AAl AAm
  go_wp2_with fail
  generalize hw:w2.alloc (.cells #[.string p,.string r] 51)=w3
  have Hx:Hid (AL w3 w2.heap.size 51 [.string p,.string r]):=by rw [←hw];exact AA (AL.new w2 51 [.string p,.string r])
  have Hb3:Hid (AL w3 w.heap.size 51 [.string ⟨#[]⟩,.string ⟨#[]⟩]):=by rw [←hw];exact AA (Hb2.out.alloc _)
  have H3:Hid (Below w.heap.size w w3):=by rw [←hw];exact AA (H2.out.alloc H2.out.size _)
  clear hw
  refine(HS.out w3).mono ?_
  rintro e w4 ⟨h4,rfl⟩
  have H4:Hid (Below w.heap.size w w4):=AA (H3.out.trans (h4.mono H3.out.size))
  have Hx4:Hid (AL w4 w2.heap.size 51 [.string p,.string r]):=AA (Hx.out.below h4 Hx.out.lt)
  have Hb4:Hid (AL w4 w.heap.size 51 [.string ⟨#[]⟩,.string ⟨#[]⟩]):=AA (Hb3.out.below h4 Hb3.out.lt)
  clear h4 Hx Hb3
  have AAl:=Hb4.out.frozen 0
  have AAm:=Hb4.out.frozen 1
  have hq0:=Hb4.out.q 0 rfl
  have hq1:=Hb4.out.q 1 rfl
  have hx0:=Hx4.out.q 0 rfl
  have hx1:=Hx4.out.q 1 rfl
  cases sg with
  | false=>
   have hf:El s=(none_,none_,15):=by rw [HR.out];simp
   go_wp2_with fail
   exact XJ ((Hb4.out.set 0 (.string ⟨#[]⟩)).set 1 (.string ⟨#[]⟩)) rfl rfl ⟨(H4.out.setCell (p:=⟨w.heap.size,0,none⟩) (Nat.le_refl _) _).setCell (p:=⟨w.heap.size,1,none⟩) (Nat.le_refl _) _,by rw [hf];rfl⟩
  | true=>
   have hf:El s=(p,r,0):=by rw [HR.out];simp
   go_wp2_with fail
   exact XJ ((Hb4.out.set 0 (.string p)).set 1 (.string r)) rfl rfl ⟨(H4.out.setCell (p:=⟨w.heap.size,0,none⟩) (Nat.le_refl _) _).setCell (p:=⟨w.heap.size,1,none⟩) (Nat.le_refl _) _,by rw [hf];rfl⟩
 all_goals
  have hf:El s=(none_,none_,15):=by rw [HR.out];simp
  go_wp2_with fail
  exact XJ AAn.out rfl rfl ⟨JR.out,by rw [hf];rfl⟩
def arr:List UInt8:= [32,45,62,32]
theorem rU (a b:List UInt8):Lib.occAt (a++(arr++b)) arr a.length=true:=by
 unfold Lib.occAt
 rw [List.drop_left' rfl]
 rfl
theorem occ_no (a b:List UInt8) (h: ∀c∈a,c≠32): ∀j,j<a.length→Lib.occAt (a++(arr++b)) arr j=false:=by
 intro j hj
 unfold Lib.occAt
 rw [List.drop_append_of_le_length (by omega),List.drop_eq_getElem_cons hj]
 have hc:=h _ (List.getElem_mem hj)
 have hb:(32==a[j])=false:=by simpa using fun e:(32:UInt8)=a[j]=>hc e.symm
 show(32==a[j]&&_)=false
 rw [hb,Bool.false_and]
theorem rV (a b:List UInt8) (h: ∀c∈a,c≠32):Lib.cut (a++(arr++b)) arr=(a,b,true):=by
 have hi:=Lib.index_first (s:=a++(arr++b)) (sub:=arr) (i:=a.length) (by rw [List.length_append];omega) (rU a b) (occ_no a b h)
 unfold Lib.cut
 rw [hi,if_pos (by omega),Int.toNat_natCast,List.take_left' rfl]
 have:(a++(arr++b)).drop (a.length+arr.length)=b:=by
  rw [←List.drop_drop,List.drop_left' rfl,List.drop_left' rfl]
 rw [this]
theorem dR:bl dash= [45]:=rfl
theorem gZ {c:UInt8} (h:Tw c=true):c≠32∧c≠45:=by
 constructor<;>(rintro rfl;exact absurd h (by decide))
theorem gu {m:Nat} {p:ByteArray} (h:KV m (bl p)=true): ∀c∈bl (DV p),c≠32:=by
 intro c hc
 unfold DV at hc
 split at hc
 ·rw [dR] at hc
  simp at hc
  subst hc
  decide
 ·exact(gZ (((Yr _ _).1 h).2 c hc)).1
theorem Uh {m:Nat} {p:ByteArray} (h:KV m (bl p)=true):DW (DV p)=(p,true):=by
 unfold DV
 by_cases hp:p=none_
 ·rw [if_pos hp,hp];rfl
 ·rw [if_neg hp]
  unfold DW
  rw [if_neg,decide_eq_true hp]
  rintro rfl
  have:=((Yr _ _).1 h).2 45 (by rw [dR];simp)
  exact absurd this (by decide)
theorem vX (s:ByteArray):(⟨(bl s).toArray⟩:ByteArray)=s:=by cases s;unfold bl;simp
theorem dS (p r:ByteArray):aI p r=true↔KV 8 (bl p)=true∧KV 8 (bl r)=true:=by unfold aI bl;rw [Bool.and_eq_true]
theorem gy {p r s:ByteArray} (h:OJ p r=(s,0)):El s=(p,r,0):=by
 unfold OJ at h
 split at h
 case isFalse=>injection h with _ h;cases h
 case isTrue hs=>
  injection h with h _
  obtain⟨hp,hr⟩:=(dS p r).1 hs
  have hb:bl s=bl (DV p)++(arr++bl (DV r)):=by
   rw [←h,Ug,Ug,List.append_assoc];rfl
  have hc:Lib.cut s.data.toList [32,45,62,32]=(bl (DV p),bl (DV r),true):=by
   rw [show s.data.toList=bl s from rfl,hb]
   exact rV _ _ (gu hp)
  have ha:Nk s=DV p:=by unfold Nk;rw [hc];exact vX _
  have hbb:Nl s=DV r:=by unfold Nl;rw [hc];exact vX _
  have hk:gV s=true:=by unfold gV;rw [hc]
  unfold El
  rw [ha,hbb,Uh hp,Uh hr,hk,if_pos ⟨rfl,rfl,rfl,hs⟩]
end Go.Proofs.YtejbcledkhioeaaGreatDoor
