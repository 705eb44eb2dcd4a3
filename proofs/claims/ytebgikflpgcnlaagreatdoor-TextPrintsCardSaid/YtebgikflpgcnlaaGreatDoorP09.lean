/- Part 9 of the proof: OpsR OpsQ OpsO PrtA -/
import Derived.StillTailTactics
import Derived.Deep.RegionHeld3
import Derived.Lib.ItoaLen
import Derived.Test.YtebgikflpgcnlaaGreatDoorP07
import Derived.Test.YtebgikflpgcnlaaGreatDoorP08
namespace Go.Proofs.YtebgikflpgcnlaaGreatDoor
set_option linter.unusedVariables false
set_option linter.unusedSimpArgs false
set_option maxRecDepth 100000
set_option maxHeartbeats 4000000
open Go.RowKit Tryz
def ascii (s:ByteArray):Prop:=s.size<4294967281∧ ∀(j:Nat) b,s.data.toList[j]?=some b→b.toNat<128
def tZ (from_ op:Nat) (s ahead:ByteArray) (w:World) (e:Ending) (w':World):Prop:=
 Below w.heap.size w w'∧(((Lib.fields s.data.toList).length≤op-from_∧e= .returned (.tuple #[.slice none 0 0,.int .i64 (-1),.string ByteArray.empty]))∨
  (op-from_<(Lib.fields s.data.toList).length∧e= .returned (.tuple #[.slice (some ⟨w.heap.size,0,none⟩) (Lib.fields s.data.toList).length (Lib.fields s.data.toList).length,.int .i64 ((op-from_:Nat):Int),.string ahead])∧
   ∀j:Nat,∀x,(Lib.fields s.data.toList)[j]?=some x→w'.cell? ⟨w.heap.size,j,none⟩=some (.string ⟨x.toArray⟩)))
theorem OH (a:Addr) (from_ op:Nat) (s ahead:ByteArray) (w:World) (hs:ascii s) (hle:from_≤op) (hop:op<256) (hlen:(Lib.fields s.data.toList).length≤4294967281) (ha:w.cell? a=some (.int .u8 op)) (hab:a.block<w.heap.size) (htab:Lib.TabIs prog w "strings.asciiSpace" .u8 Lib.asciiSpaceTab):
 Calls prog 170 #[.int .u8 from_,.string s,.string ahead,.pointer (some a)] w (tZ from_ op s ahead w):=by
 have H1:=AA htab
 have Hs:=AA hs
 clear htab hs
 go_enter func170,ntmps170
 go_wp2_with fail
 refine(strings_Fields s w Hs.out.1 Hs.out.2 H1.out).mono ?_
 rintro e w1 ⟨rfl,rfl⟩
 generalize hL:Lib.fields s.data.toList=L at*
 have hgr:Below w.heap.size w (w.alloc (.cells (L.map fun l=>Value.string ⟨l.toArray⟩).toArray 9)):=(Below.refl _ _).alloc (Nat.le_refl _) _
 have ha1:(w.alloc (.cells (L.map fun l=>Value.string ⟨l.toArray⟩).toArray 9)).cell? a=some (.int .u8 op):=by rw [hgr.cell hab];exact ha
 have HB:=AA hgr
 have Hc:Hid (∀(j:Nat) x,L[j]?=some x→(w.alloc (.cells (L.map fun l=>Value.string ⟨l.toArray⟩).toArray 9)).cell? ⟨w.heap.size,j,none⟩=some (.string ⟨x.toArray⟩)):=AA (fun j x hx=>by
  have hb:=AV.new w 9 (L.map fun l=>Value.string ⟨l.toArray⟩)
  rw [hb.cell,List.getElem?_map,hx];rfl)
 generalize w.alloc (.cells (L.map fun l=>Value.string ⟨l.toArray⟩).toArray 9)=w1 at*
 clear hgr ha
 obtain⟨n,rfl⟩: ∃n,op=from_+n:=⟨op-from_,by omega⟩
 have hsub:from_+n-from_=n:=by omega
 have hw8:IntKind.u8.wrap (((from_+n:Nat):Int)-(from_:Int))=(n:Int):=by rw [show((from_+n:Nat):Int)-(from_:Int)=(n:Int)by omega];exact IntWalk.u8_in _ ⟨by omega,by omega⟩
 by_cases hn:L.length≤n
 ·go_wp2_with fail
  go_ret3
  refine⟨HB.out,?_⟩
  rw [hL,hsub]
  exact .inl ⟨hn,rfl⟩
 ·go_wp2_with fail
  go_quiet (fail)
  go_wp2_with fail
  go_ret3
  refine⟨below_drewN HB.out _,?_⟩
  rw [hL,hsub]
  refine .inr ⟨by omega,?_,fun j x hx=>Hc.out j x hx⟩
  simp
  omega
theorem QG {w:World} {a:Addr} {v:Value} (h:w.cell? a=some v):a.block<w.heap.size:=by
 unfold World.cell? at h
 by_cases hlt:a.block<w.heap.size
 ·exact hlt
 ·rw [Array.getElem?_eq_none (by omega)] at h
  simp at h
theorem PZ {s:ByteArray} (h1:s.size<4294967281) (h2:s.data.toList.all (fun b=>b.toNat<128)=true):ascii s:=
 ⟨h1,fun j b hb=>by simpa using List.all_eq_true.1 h2 b (List.mem_of_getElem? hb)⟩
def Um:ByteArray:=⟨#[116,114,97,112,32,110,111,112,32,98,108,111,99,107,32,108,111,111,112,32,105,102,32,101,108,115,101,32,101,110,100,32,98,114,32,98,114,105,102,32,98,114,116,97,98,108,101,32,114,101,116,117,114,110,32,99,97,108,108,32,104,111,115,116]⟩
def Pb:ByteArray:=⟨#[100,114,111,112,32,115,101,108,101,99,116,32,103,101,116,32,115,101,116,32,116,101,101,32,103,103,101,116,32,103,115,101,116]⟩
def Ny:ByteArray:=⟨#[119,46,99,111,110,115,116,32,108,46,99,111,110,115,116]⟩
def Nz:ByteArray:=⟨#[119,46,108,111,97,100,56,117,32,119,46,108,111,97,100,56,115,32,119,46,108,111,97,100,49,54,117,32,119,46,108,111,97,100,49,54,115,32,119,46,108,111,97,100,32,108,46,108,111,97,100,32,119,46,115,116,111,114,101,56,32,119,46,115,116,111,114,101,49,54,32,119,46,115,116,111,114,101,32,108,46,115,116,111,114,101,32,115,105,122,101,32,103,114,111,119]⟩
def Gv:ByteArray:=⟨#[101,113,122,32,101,113,32,110,101,32,108,116,115,32,108,116,117,32,108,101,115,32,108,101,117,32,99,108,122,32,99,116,122,32,112,111,112,32,97,100,100,32,115,117,98,32,109,117,108,32,100,105,118,115,32,100,105,118,117,32,114,101,109,115,32,114,101,109,117,32,97,110,100,32,111,114,32,120,111,114,32,115,104,108,32,115,104,114,115,32,115,104,114,117,32,114,111,116,108,32,114,111,116,114]⟩
def Pf:ByteArray:=⟨#[119,46,119,114,97,112,32,108,46,101,120,116,101,110,100,115,32,108,46,101,120,116,101,110,100,117,32,119,46,101,120,116,56,32,119,46,101,120,116,49,54,32,108,46,101,120,116,51,50]⟩
theorem yh:ascii Um:=PZ (by decide) (by decide)
theorem mR:ascii Pb:=PZ (by decide) (by decide)
theorem gy:ascii Ny:=PZ (by decide) (by decide)
theorem g_:ascii Nz:=PZ (by decide) (by decide)
theorem VG:ascii Gv:=PZ (by decide) (by decide)
theorem mU:ascii Pf:=PZ (by decide) (by decide)
theorem AB4:(Lib.fields Um.data.toList).length=13:=by kernel_rfl
theorem tq:(Lib.fields Pb.data.toList).length=7:=by kernel_rfl
theorem mV:(Lib.fields Ny.data.toList).length=2:=by kernel_rfl
theorem mW:(Lib.fields Nz.data.toList).length=12:=by kernel_rfl
theorem XR:(Lib.fields Gv.data.toList).length=25:=by kernel_rfl
theorem tu:(Lib.fields Pf.data.toList).length=6:=by kernel_rfl
def Dw (n:Nat):Nat×ByteArray×ByteArray:=
 if n<16 then(0,Um,ByteArray.empty) else if n<24 then(16,Pb,ByteArray.empty) else if n<32 then(24,Ny,ByteArray.empty) else if n<48 then(32,Nz,ByteArray.empty) else if n<80 then(48,Gv,⟨#[119,46]⟩) else if n<112 then(80,Gv,⟨#[108,46]⟩) else(112,Pf,ByteArray.empty)
def yj (op:Nat) (w:World) (e:Ending) (w':World):Prop:=
 Below w.heap.size w w'∧(((Lib.fields (Dw op).2.1.data.toList).length≤op-(Dw op).1∧e= .returned (.tuple #[.slice none 0 0,.int .i64 (-1),.string ByteArray.empty]))∨
  (op-(Dw op).1<(Lib.fields (Dw op).2.1.data.toList).length∧ ∃g,e= .returned (.tuple #[.slice (some ⟨g,0,none⟩) (Lib.fields (Dw op).2.1.data.toList).length (Lib.fields (Dw op).2.1.data.toList).length,.int .i64 ((op-(Dw op).1:Nat):Int),.string (Dw op).2.2])∧w.heap.size≤g∧g<w'.heap.size∧
   ∀j:Nat,∀x,(Lib.fields (Dw op).2.1.data.toList)[j]?=some x→w'.cell? ⟨g,j,none⟩=some (.string ⟨x.toArray⟩)))
theorem kD (op:Nat) (w:World) (hop:op<256) (htab:Lib.TabIs prog w "strings.asciiSpace" .u8 Lib.asciiSpaceTab):
 Calls prog 130 #[.int .u8 op] w (yj op w):=by
 have Ht:=AA (Lib.tabBelow_of_tabIs htab)
 clear htab
 go_enter func130,ntmps130
 by_cases h0:op<16
 case pos=>
  have d0:decide ((op:Int)<16)=true:=decide_eq_true (by omega)
  have hr:Dw op=(0,Um,ByteArray.empty):=by unfold Dw;rw [if_pos h0]
  have Hr:=AA hr;clear hr
  go_wp2_with fail
  generalize hw:w.alloc _=w1
  have hb1:w1.cell? ⟨w.heap.size,0,none⟩=some (.int .u8 op):=by rw [←hw];exact(AV.new w 5 [.int .u8 op]).cell 0
  have hsz:w.heap.size<w1.heap.size:=by rw [←hw];simp
  have H1:Hid (Below w.heap.size w w1):=by rw [←hw];exact AA ((Below.refl _ _).alloc (Nat.le_refl _) _)
  clear hw
  refine(OH ⟨w.heap.size,0,none⟩ 0 op Um ByteArray.empty w1 yh (by omega) hop (by rw [AB4];omega) hb1 hsz (Ht.out _ H1.out)).mono ?_
  rintro e w2 ⟨hbe,⟨hl,rfl⟩ | ⟨hl,rfl,hc⟩⟩
  ·have H2:=AA (H1.out.trans (hbe.mono H1.out.size));clear hbe
   go_wp2_with fail
   go_ret3
   refine⟨H2.out,.inl ⟨?_,rfl⟩⟩
   rw [Hr.out]
   exact hl
  ·have H2:=AA (H1.out.trans (hbe.mono H1.out.size))
   have hg2:w1.heap.size<w2.heap.size:=by
    obtain⟨y,hy⟩: ∃y,(Lib.fields Um.data.toList)[0]?=some y:=⟨_,List.getElem?_eq_getElem (by omega)⟩
    exact QG (hc 0 y hy)
   have Hc:=AA hc;clear hbe hc
   go_wp2_with fail
   go_ret3
   refine⟨H2.out,.inr ?_⟩
   rw [Hr.out]
   exact⟨hl,w1.heap.size,rfl,Nat.le_of_lt hsz,hg2,Hc.out⟩
 have d0:decide ((op:Int)<16)=false:=decide_eq_false (by omega)
 by_cases h1:op<24
 case pos=>
  have d1:decide ((op:Int)<24)=true:=decide_eq_true (by omega)
  have hr:Dw op=(16,Pb,ByteArray.empty):=by unfold Dw;rw [if_neg h0];rw [if_pos h1]
  have Hr:=AA hr;clear hr
  go_wp2_with fail
  generalize hw:w.alloc _=w1
  have hb1:w1.cell? ⟨w.heap.size,0,none⟩=some (.int .u8 op):=by rw [←hw];exact(AV.new w 5 [.int .u8 op]).cell 0
  have hsz:w.heap.size<w1.heap.size:=by rw [←hw];simp
  have H1:Hid (Below w.heap.size w w1):=by rw [←hw];exact AA ((Below.refl _ _).alloc (Nat.le_refl _) _)
  clear hw
  refine(OH ⟨w.heap.size,0,none⟩ 16 op Pb ByteArray.empty w1 mR (by omega) hop (by rw [tq];omega) hb1 hsz (Ht.out _ H1.out)).mono ?_
  rintro e w2 ⟨hbe,⟨hl,rfl⟩ | ⟨hl,rfl,hc⟩⟩
  ·have H2:=AA (H1.out.trans (hbe.mono H1.out.size));clear hbe
   go_wp2_with fail
   go_ret3
   refine⟨H2.out,.inl ⟨?_,rfl⟩⟩
   rw [Hr.out]
   exact hl
  ·have H2:=AA (H1.out.trans (hbe.mono H1.out.size))
   have hg2:w1.heap.size<w2.heap.size:=by
    obtain⟨y,hy⟩: ∃y,(Lib.fields Pb.data.toList)[0]?=some y:=⟨_,List.getElem?_eq_getElem (by omega)⟩
    exact QG (hc 0 y hy)
   have Hc:=AA hc;clear hbe hc
   go_wp2_with fail
   go_ret3
   refine⟨H2.out,.inr ?_⟩
   rw [Hr.out]
   exact⟨hl,w1.heap.size,rfl,Nat.le_of_lt hsz,hg2,Hc.out⟩
 have d1:decide ((op:Int)<24)=false:=decide_eq_false (by omega)
 by_cases h2:op<32
 case pos=>
  have d2:decide ((op:Int)<32)=true:=decide_eq_true (by omega)
  have hr:Dw op=(24,Ny,ByteArray.empty):=by unfold Dw;rw [if_neg h0];rw [if_neg h1];rw [if_pos h2]
  have Hr:=AA hr;clear hr
  go_wp2_with fail
  generalize hw:w.alloc _=w1
  have hb1:w1.cell? ⟨w.heap.size,0,none⟩=some (.int .u8 op):=by rw [←hw];exact(AV.new w 5 [.int .u8 op]).cell 0
  have hsz:w.heap.size<w1.heap.size:=by rw [←hw];simp
  have H1:Hid (Below w.heap.size w w1):=by rw [←hw];exact AA ((Below.refl _ _).alloc (Nat.le_refl _) _)
  clear hw
  refine(OH ⟨w.heap.size,0,none⟩ 24 op Ny ByteArray.empty w1 gy (by omega) hop (by rw [mV];omega) hb1 hsz (Ht.out _ H1.out)).mono ?_
  rintro e w2 ⟨hbe,⟨hl,rfl⟩ | ⟨hl,rfl,hc⟩⟩
  ·have H2:=AA (H1.out.trans (hbe.mono H1.out.size));clear hbe
   go_wp2_with fail
   go_ret3
   refine⟨H2.out,.inl ⟨?_,rfl⟩⟩
   rw [Hr.out]
   exact hl
  ·have H2:=AA (H1.out.trans (hbe.mono H1.out.size))
   have hg2:w1.heap.size<w2.heap.size:=by
    obtain⟨y,hy⟩: ∃y,(Lib.fields Ny.data.toList)[0]?=some y:=⟨_,List.getElem?_eq_getElem (by omega)⟩
    exact QG (hc 0 y hy)
   have Hc:=AA hc;clear hbe hc
   go_wp2_with fail
   go_ret3
   refine⟨H2.out,.inr ?_⟩
   rw [Hr.out]
   exact⟨hl,w1.heap.size,rfl,Nat.le_of_lt hsz,hg2,Hc.out⟩
 have d2:decide ((op:Int)<32)=false:=decide_eq_false (by omega)
 by_cases h3:op<48
 case pos=>
  have d3:decide ((op:Int)<48)=true:=decide_eq_true (by omega)
  have hr:Dw op=(32,Nz,ByteArray.empty):=by unfold Dw;rw [if_neg h0];rw [if_neg h1];rw [if_neg h2];rw [if_pos h3]
  have Hr:=AA hr;clear hr
  go_wp2_with fail
  generalize hw:w.alloc _=w1
  have hb1:w1.cell? ⟨w.heap.size,0,none⟩=some (.int .u8 op):=by rw [←hw];exact(AV.new w 5 [.int .u8 op]).cell 0
  have hsz:w.heap.size<w1.heap.size:=by rw [←hw];simp
  have H1:Hid (Below w.heap.size w w1):=by rw [←hw];exact AA ((Below.refl _ _).alloc (Nat.le_refl _) _)
  clear hw
  refine(OH ⟨w.heap.size,0,none⟩ 32 op Nz ByteArray.empty w1 g_ (by omega) hop (by rw [mW];omega) hb1 hsz (Ht.out _ H1.out)).mono ?_
  rintro e w2 ⟨hbe,⟨hl,rfl⟩ | ⟨hl,rfl,hc⟩⟩
  ·have H2:=AA (H1.out.trans (hbe.mono H1.out.size));clear hbe
   go_wp2_with fail
   go_ret3
   refine⟨H2.out,.inl ⟨?_,rfl⟩⟩
   rw [Hr.out]
   exact hl
  ·have H2:=AA (H1.out.trans (hbe.mono H1.out.size))
   have hg2:w1.heap.size<w2.heap.size:=by
    obtain⟨y,hy⟩: ∃y,(Lib.fields Nz.data.toList)[0]?=some y:=⟨_,List.getElem?_eq_getElem (by omega)⟩
    exact QG (hc 0 y hy)
   have Hc:=AA hc;clear hbe hc
   go_wp2_with fail
   go_ret3
   refine⟨H2.out,.inr ?_⟩
   rw [Hr.out]
   exact⟨hl,w1.heap.size,rfl,Nat.le_of_lt hsz,hg2,Hc.out⟩
 have d3:decide ((op:Int)<48)=false:=decide_eq_false (by omega)
 by_cases h4:op<80
 case pos=>
  have d4:decide ((op:Int)<80)=true:=decide_eq_true (by omega)
  have hr:Dw op=(48,Gv,⟨#[119,46]⟩):=by unfold Dw;rw [if_neg h0];rw [if_neg h1];rw [if_neg h2];rw [if_neg h3];rw [if_pos h4]
  have Hr:=AA hr;clear hr
  go_wp2_with fail
  generalize hw:w.alloc _=w1
  have hb1:w1.cell? ⟨w.heap.size,0,none⟩=some (.int .u8 op):=by rw [←hw];exact(AV.new w 5 [.int .u8 op]).cell 0
  have hsz:w.heap.size<w1.heap.size:=by rw [←hw];simp
  have H1:Hid (Below w.heap.size w w1):=by rw [←hw];exact AA ((Below.refl _ _).alloc (Nat.le_refl _) _)
  clear hw
  refine(OH ⟨w.heap.size,0,none⟩ 48 op Gv ⟨#[119,46]⟩ w1 VG (by omega) hop (by rw [XR];omega) hb1 hsz (Ht.out _ H1.out)).mono ?_
  rintro e w2 ⟨hbe,⟨hl,rfl⟩ | ⟨hl,rfl,hc⟩⟩
  ·have H2:=AA (H1.out.trans (hbe.mono H1.out.size));clear hbe
   go_wp2_with fail
   go_ret3
   refine⟨H2.out,.inl ⟨?_,rfl⟩⟩
   rw [Hr.out]
   exact hl
  ·have H2:=AA (H1.out.trans (hbe.mono H1.out.size))
   have hg2:w1.heap.size<w2.heap.size:=by
    obtain⟨y,hy⟩: ∃y,(Lib.fields Gv.data.toList)[0]?=some y:=⟨_,List.getElem?_eq_getElem (by omega)⟩
    exact QG (hc 0 y hy)
   have Hc:=AA hc;clear hbe hc
   go_wp2_with fail
   go_ret3
   refine⟨H2.out,.inr ?_⟩
   rw [Hr.out]
   exact⟨hl,w1.heap.size,rfl,Nat.le_of_lt hsz,hg2,Hc.out⟩
 have d4:decide ((op:Int)<80)=false:=decide_eq_false (by omega)
 by_cases h5:op<112
 case pos=>
  have d5:decide ((op:Int)<112)=true:=decide_eq_true (by omega)
  have hr:Dw op=(80,Gv,⟨#[108,46]⟩):=by unfold Dw;rw [if_neg h0];rw [if_neg h1];rw [if_neg h2];rw [if_neg h3];rw [if_neg h4];rw [if_pos h5]
  have Hr:=AA hr;clear hr
  go_wp2_with fail
  generalize hw:w.alloc _=w1
  have hb1:w1.cell? ⟨w.heap.size,0,none⟩=some (.int .u8 op):=by rw [←hw];exact(AV.new w 5 [.int .u8 op]).cell 0
  have hsz:w.heap.size<w1.heap.size:=by rw [←hw];simp
  have H1:Hid (Below w.heap.size w w1):=by rw [←hw];exact AA ((Below.refl _ _).alloc (Nat.le_refl _) _)
  clear hw
  refine(OH ⟨w.heap.size,0,none⟩ 80 op Gv ⟨#[108,46]⟩ w1 VG (by omega) hop (by rw [XR];omega) hb1 hsz (Ht.out _ H1.out)).mono ?_
  rintro e w2 ⟨hbe,⟨hl,rfl⟩ | ⟨hl,rfl,hc⟩⟩
  ·have H2:=AA (H1.out.trans (hbe.mono H1.out.size));clear hbe
   go_wp2_with fail
   go_ret3
   refine⟨H2.out,.inl ⟨?_,rfl⟩⟩
   rw [Hr.out]
   exact hl
  ·have H2:=AA (H1.out.trans (hbe.mono H1.out.size))
   have hg2:w1.heap.size<w2.heap.size:=by
    obtain⟨y,hy⟩: ∃y,(Lib.fields Gv.data.toList)[0]?=some y:=⟨_,List.getElem?_eq_getElem (by omega)⟩
    exact QG (hc 0 y hy)
   have Hc:=AA hc;clear hbe hc
   go_wp2_with fail
   go_ret3
   refine⟨H2.out,.inr ?_⟩
   rw [Hr.out]
   exact⟨hl,w1.heap.size,rfl,Nat.le_of_lt hsz,hg2,Hc.out⟩
 have d5:decide ((op:Int)<112)=false:=decide_eq_false (by omega)
 have hr:Dw op=(112,Pf,ByteArray.empty):=by unfold Dw;rw [if_neg h0];rw [if_neg h1];rw [if_neg h2];rw [if_neg h3];rw [if_neg h4];rw [if_neg h5]
 have Hr:=AA hr;clear hr
 go_wp2_with fail
 generalize hw:w.alloc _=w1
 have hb1:w1.cell? ⟨w.heap.size,0,none⟩=some (.int .u8 op):=by rw [←hw];exact(AV.new w 5 [.int .u8 op]).cell 0
 have hsz:w.heap.size<w1.heap.size:=by rw [←hw];simp
 have H1:Hid (Below w.heap.size w w1):=by rw [←hw];exact AA ((Below.refl _ _).alloc (Nat.le_refl _) _)
 clear hw
 refine(OH ⟨w.heap.size,0,none⟩ 112 op Pf ByteArray.empty w1 mU (by omega) hop (by rw [tu];omega) hb1 hsz (Ht.out _ H1.out)).mono ?_
 rintro e w2 ⟨hbe,⟨hl,rfl⟩ | ⟨hl,rfl,hc⟩⟩
 ·have H2:=AA (H1.out.trans (hbe.mono H1.out.size));clear hbe
  go_wp2_with fail
  go_ret3
  refine⟨H2.out,.inl ⟨?_,rfl⟩⟩
  rw [Hr.out]
  exact hl
 ·have H2:=AA (H1.out.trans (hbe.mono H1.out.size))
  have hg2:w1.heap.size<w2.heap.size:=by
   obtain⟨y,hy⟩: ∃y,(Lib.fields Pf.data.toList)[0]?=some y:=⟨_,List.getElem?_eq_getElem (by omega)⟩
   exact QG (hc 0 y hy)
  have Hc:=AA hc;clear hbe hc
  go_wp2_with fail
  go_ret3
  refine⟨H2.out,.inr ?_⟩
  rw [Hr.out]
  exact⟨hl,w1.heap.size,rfl,Nat.le_of_lt hsz,hg2,Hc.out⟩
section
def opC (r:ZR):Array Value:= #[.int .u8 (r.op:Nat),.string r.word,.int .i8 r.takes,.string r.pops,.string r.pushes,.bool r.plain]
def mX:Array Value:= #[.int .u8 0,.string ⟨#[]⟩,.int .i8 0,.string ⟨#[]⟩,.string ⟨#[]⟩,.bool false]
def Eh (op:Nat):Value:=match CG op with
 | none=> .tuple #[.agg mX,.bool false]
 | some r=> .tuple #[.agg (opC r),.bool true]
def kE (op:Nat):Bool:=match CG op with
 | none=>decide ((Lib.fields (Dw op).2.1.data.toList).length≤op-(Dw op).1)
 | some r=>match (Lib.fields (Dw op).2.1.data.toList)[op-(Dw op).1]? with
  | none=>false
  | some x=>decide ((Dw op).2.2.data.toList++x=r.word.data.toList)
theorem mY:(List.range 256).all kE=true:=by kernel_rfl
theorem dG {op:Nat} (h:op<256):kE op=true:=List.all_eq_true.1 mY op (List.mem_range.2 h)
theorem XT {op:Nat} (h:op<256) (hr:CG op=none):(Lib.fields (Dw op).2.1.data.toList).length≤op-(Dw op).1:=by
 have:=dG h
 unfold kE at this
 rw [hr] at this
 exact of_decide_eq_true this
theorem R6 {op:Nat} {r:ZR} (h:op<256) (hr:CG op=some r): ∃x,(Lib.fields (Dw op).2.1.data.toList)[op-(Dw op).1]?=some x∧(Dw op).2.2++(⟨x.toArray⟩:ByteArray)=r.word:=by
 have:=dG h
 unfold kE at this
 rw [hr] at this
 simp only at this
 split at this
 ·cases this
 ·rename_i x hx
  refine⟨x,hx,?_⟩
  have h2:=of_decide_eq_true this
  apply ByteArray.ext
  apply Array.toList_inj.1
  rw [ByteArray.data_append,Array.toList_append]
  exact h2
theorem mZ: ∀r∈Dj,r.word.size≤64:=by
 have h:Dj.all (fun r=>decide (r.word.size≤64))=true:=by kernel_rfl
 exact fun r hr=>of_decide_eq_true (List.all_eq_true.1 h r hr)
attribute [local irreducible] CG Dw
theorem I9 {fn:Func} {p u:Tmp} {ty:TypeId} {tmps:Array Value} {P:Program} {w:World} {a:Addr} {v v2:Value} (h:fn.results= #[.cell p ty,.tmp u]) (hp:tmps.getD p undef= .pointer (some a)) (hu:tmps.getD u undef=v2) (hl:(loadVar ty a).run P w= .ok v w):
 (results fn tmps).run P w= .ok (.tuple #[v,v2]) w:=by
 rw [results_cell_tmp h,hp,hu]
 show((loadVar ty a).run P w).andThen _=_
 rw [hl]
 rfl
theorem dH {W:World} {g:Nat} {y0 y1 y2 y3 y4 y5:Value} (h:AV W g 136 [y0,y1,y2,y3,y4,y5]):(loadVar 136 ⟨g,0,none⟩).run prog W= .ok (.agg #[y0,y1,y2,y3,y4,y5]) W:=
 run_loadVar_row W g 136 136 #[y0,y1,y2,y3,y4,y5] (0,0) _ h underlying136 rfl (by kernel_rfl)
theorem XU (op:Nat) (w:World) (hop:op<256) (htab:Lib.TabIs prog w "strings.asciiSpace" .u8 Lib.asciiSpaceTab):
 Calls prog 78 #[.int .u8 op] w fun e w'=>Below w.heap.size w w'∧e= .returned (Eh op):=by
 have Ht:=AA (Lib.tabBelow_of_tabIs htab)
 clear htab
 go_enter func78,ntmps78
 go_wp2_with fail
 generalize hw:w.alloc _=w1
 have H1:Hid (Below w.heap.size w w1):=by rw [←hw];exact AA ((Below.refl _ _).alloc (Nat.le_refl _) _)
 have Hb1:Hid (AV w1 w.heap.size 136 mX.toList):=by rw [←hw];exact AA (AV.new w 136 mX.toList)
 clear hw
 refine(kD op w1 hop (Ht.out _ H1.out)).mono ?_
 rintro e w2 ⟨hbe,⟨hl,rfl⟩ | ⟨hl,g,rfl,hg1,hg2,hc⟩⟩
 ·have H2:=AA (H1.out.trans (hbe.mono H1.out.size))
  have Hb2:=AA (Hb1.out.below hbe Hb1.out.lt)
  clear hbe
  have he0:=Hb2.out.q 0 rfl
  have hf0:=Hb2.out.frozen 0
  have he1:=Hb2.out.q 1 rfl
  have hf1:=Hb2.out.frozen 1
  have he2:=Hb2.out.q 2 rfl
  have hf2:=Hb2.out.frozen 2
  have yw:=Hb2.out.q 3 rfl
  have hf3:=Hb2.out.frozen 3
  have he4:=Hb2.out.q 4 rfl
  have Y1:=Hb2.out.frozen 4
  have he5:=Hb2.out.q 5 rfl
  have hf5:=Hb2.out.frozen 5
  go_wp2_with fail
  have hblk:=(AV.set (AV.set (AV.set (AV.set (AV.set (AV.set Hb2.out 0 (.int .u8 0)) 1 (.string ⟨#[]⟩)) 2 (.int .i8 0)) 3 (.string ⟨#[]⟩)) 4 (.string ⟨#[]⟩)) 5 (.bool false))
  have hno:CG op=none:=by
   cases hr:CG op with
   | none=>rfl
   | some r=>
    obtain⟨x,hx,_⟩:=R6 hop hr
    have:=(List.getElem?_eq_some_iff.1 hx).1
    omega
  refine bodyPost_ret (I9 rfl rfl rfl (dH hblk)) rfl ⟨(Below.setCell (Below.setCell (Below.setCell (Below.setCell (Below.setCell (Below.setCell H2.out (p:=⟨w.heap.size,0,none⟩) (Nat.le_refl _) (.int .u8 0)) (p:=⟨w.heap.size,1,none⟩) (Nat.le_refl _) (.string ⟨#[]⟩)) (p:=⟨w.heap.size,2,none⟩) (Nat.le_refl _) (.int .i8 0)) (p:=⟨w.heap.size,3,none⟩) (Nat.le_refl _) (.string ⟨#[]⟩)) (p:=⟨w.heap.size,4,none⟩) (Nat.le_refl _) (.string ⟨#[]⟩)) (p:=⟨w.heap.size,5,none⟩) (Nat.le_refl _) (.bool false)),?_⟩
  unfold Eh
  rw [hno]
  rfl
 ·have H2:=AA (H1.out.trans (hbe.mono H1.out.size))
  have Hb2:=AA (Hb1.out.below hbe Hb1.out.lt)
  clear hbe
  obtain⟨r,hr⟩: ∃r,CG op=some r:=by
   cases hr:CG op with
   | none=>have:=XT hop hr;omega
   | some r=>exact⟨r,rfl⟩
  obtain⟨hm,rfl⟩:=Jh hr
  obtain⟨y,hy,hwd⟩:=R6 hop hr
  have hcw:w2.cell? ⟨g,r.op-(Dw r.op).1,none⟩=some (.string ⟨y.toArray⟩):=hc _ y hy
  have Hr:=AA hr
  clear hc hy hr
  generalize (Dw r.op).2.2=ah at*
  generalize hfl:(Lib.fields (Dw r.op).2.1.data.toList).length=fl at*
  generalize r.op-(Dw r.op).1=n at*
  clear hfl
  have HT:Hid (∀W,Calls prog 132 #[.int .u8 (r.op:Nat)] W fun e w'=>e= .returned (.int .i8 r.takes)∧w'=W):=AA (fun W=>(YW W r hm).mono fun e w' h=>⟨h.2,h.1.symm⟩)
  have HP:=AA (YV w2 r hm)
  have hsum:ah.size+y.length≤64:=by
   have h1:=mZ r hm
   rw [←hwd,ByteArray.size_append] at h1
   have h3:(⟨y.toArray⟩:ByteArray).size=y.length:=List.size_toArray
   rwa [h3] at h1
  have hsum2: ¬(9223372036854775807<ah.size+y.length):=by omega
  clear hm
  have hn0:(0:Int)≤n:=by omega
  have hn1:decide ((n:Int)<0)=false:=decide_eq_false (by omega)
  go_wp2_with fail
  refine HP.out.mono ?_
  rintro e w' ⟨rfl,rfl⟩
  go_wp2_with fail
  go_still_tail 13,(by kernel_rfl)
  repeat still_step
  still_call (HT.out _)
  repeat still_step
  refine wpStill_nil ?_
  change wpList _ _ _ _ _ w2.drew
  have H2:=AA (below_drewN H2.out 1)
  have Hb2:Hid (AV w2.drew w.heap.size 136 mX.toList):=AA (Hb2.out.drewN 1)
  change Hid (Below w.heap.size w w2.drew)at H2
  clear hcw
  generalize w2.drew=w3 at*
  have he0:=Hb2.out.q 0 rfl
  have hf0:w3.frozen? ⟨w.heap.size,0,none⟩=false:=Hb2.out.frozen 0
  have he1:=Hb2.out.q 1 rfl
  have hf1:w3.frozen? ⟨w.heap.size,1,none⟩=false:=Hb2.out.frozen 1
  have he2:=Hb2.out.q 2 rfl
  have hf2:w3.frozen? ⟨w.heap.size,2,none⟩=false:=Hb2.out.frozen 2
  have yw:=Hb2.out.q 3 rfl
  have hf3:w3.frozen? ⟨w.heap.size,3,none⟩=false:=Hb2.out.frozen 3
  have he4:=Hb2.out.q 4 rfl
  have Y1:w3.frozen? ⟨w.heap.size,4,none⟩=false:=Hb2.out.frozen 4
  have he5:=Hb2.out.q 5 rfl
  have hf5:w3.frozen? ⟨w.heap.size,5,none⟩=false:=Hb2.out.frozen 5
  go_wp2_with fail
  have hblk:=(AV.set (AV.set (AV.set (AV.set (AV.set (AV.set Hb2.out 0 (.int .u8 (r.op:Nat))) 1 (.string r.word)) 2 (.int .i8 r.takes)) 3 (.string r.pops)) 4 (.string r.pushes)) 5 (.bool r.plain))
  refine bodyPost_ret (I9 rfl rfl rfl (dH hblk)) rfl ⟨(Below.setCell (Below.setCell (Below.setCell (Below.setCell (Below.setCell (Below.setCell H2.out (p:=⟨w.heap.size,0,none⟩) (Nat.le_refl _) (.int .u8 (r.op:Nat))) (p:=⟨w.heap.size,1,none⟩) (Nat.le_refl _) (.string r.word)) (p:=⟨w.heap.size,2,none⟩) (Nat.le_refl _) (.int .i8 r.takes)) (p:=⟨w.heap.size,3,none⟩) (Nat.le_refl _) (.string r.pops)) (p:=⟨w.heap.size,4,none⟩) (Nat.le_refl _) (.string r.pushes)) (p:=⟨w.heap.size,5,none⟩) (Nat.le_refl _) (.bool r.plain)),?_⟩
  unfold Eh
  rw [Hr.out]
  rfl
end
theorem Np (a b:List UInt8):BA a++BA b=BA (a++b):=by
 apply ByteArray.ext
 simp [BA]
theorem ints_at {W:World} {lo hi:Nat} {A:Option Addr} {n c:Nat} {xs:List Int} (h:(Rd.i64.sl false).R W lo hi [.slice A n c] xs) {k:Nat} {t:Int} (hk:xs[k]?=some t): ∃b o,A=some ⟨b,o,none⟩∧lo≤b∧b<hi∧W.cell? ⟨b,o+k,none⟩=some (.int .i64 t)∧Rd.Ej t:=by
 obtain⟨b,o,e,h1,h2,cs,hc,hr⟩:=NW h hk
 obtain⟨rfl,hb⟩:=hr
 refine⟨b,o,e,h1,h2,?_,hb⟩
 have:=hc 0 _ rfl
 rwa [show o+k*Rd.i64.z+0=o+k from by show o+k*1+0=_;omega] at this
theorem iV (x:Ep) (w:World) (hv:x.v<18446744073709551616) (hf:x.l.toNat=119→x.v<4294967296):
 Calls prog 34 #[.agg #[.int .u8 (x.l.toNat:Int),.bool x.m,.int .u64 (x.v:Int)]] w fun e w'=>Below w.heap.size w w'∧e= .returned (.int .i64 (Au x)):=by
 by_cases h:x.l.toNat=119
 ·have hc:((x.l.toNat:Int)==119)=true:=by rw [h];rfl
  have hx:=hf h
  have HV:Hid (wrap64 (wrap32 (x.v:Int))=Au x):=AA (by
   unfold Au wrap64 wrap32
   simp only [h,true_and]
   (repeat' split)<;>omega)
  clear h hf hx hv
  go_enter func34,ntmps34
  go_wp2_with fail
  go_ret
  exact⟨(Below.refl _ _).alloc (Nat.le_refl _) _,by rw [HV.out];rfl⟩
 ·have hc:((x.l.toNat:Int)==119)=false:=by rw [beq_eq_false_iff_ne];omega
  have HV:Hid (wrap64 (x.v:Int)=Au x):=AA (by
   unfold Au wrap64
   simp only [h,false_and,if_false]
   (repeat' split)<;>omega)
  clear h hf hv
  go_enter func34,ntmps34
  go_wp2_with fail
  go_ret
  exact⟨(Below.refl _ _).alloc (Nat.le_refl _) _,by rw [HV.out];rfl⟩
theorem WU {n:Int} (h:Rd.Ej n):(Lib.itoa n).length≤21:=Lib.itoa_length_le n h.1 (by have:=h.2;omega)
def LV (x:Av) (k:Nat):List UInt8:= [32,32]++(Na x.op.toNat++((if KS x.op.toNat≠0∧KS x.op.toNat≠3 then 32::Lib.itoa x.a else [])++(x.l.take k).flatMap fun n=>32::Lib.itoa n))
theorem Xk {x:Av} {k:Nat} {n:Int} (h:x.l[k]?=some n):LV x (k+1)=LV x k++(32::Lib.itoa n):=by
 have hk:=(List.getElem?_eq_some_iff.1 h)
 unfold LV
 rw [List.take_succ_eq_append_getElem hk.1,hk.2,List.flatMap_append]
 simp
theorem oL (x:Av):LV x x.l.length= [32,32]++PO x:=by
 unfold LV PO
 rw [List.take_length]
theorem ZG {x:Av} (ha:Rd.Ej x.a) (hl: ∀n∈x.l,Rd.Ej n) (hw:(Na x.op.toNat).length≤64): ∀k:Nat,k≤x.l.length→(LV x k).length≤100+22*k
 | 0,_=>by
  have:=WU ha
  unfold LV
  simp only [List.length_append,List.take_zero,List.flatMap_nil,List.length_nil,List.length_cons]
  split
  ·simp only [List.length_cons];omega
  ·simp only [List.length_nil];omega
 | k+1,hk=>by
  have ih:=ZG ha hl hw k (by omega)
  have he:x.l[k]?=some x.l[k]:=List.getElem?_eq_getElem hk
  have:=WU (hl _ (List.mem_of_getElem? he))
  rw [Xk he,List.length_append,List.length_cons]
  omega
theorem ze (op:Nat): ∃(o:ZR) (b:Bool),Eh op= .tuple #[.agg #[.int .u8 (o.op:Nat),.string o.word,.int .i8 o.takes,.string o.pops,.string o.pushes,.bool o.plain],.bool b]∧Na op=o.word.data.toList∧KS op=o.takes∧o.word.size≤64:=by
 unfold Eh Na KS
 cases h:CG op with
 | none=>exact⟨⟨0,⟨#[]⟩,0,⟨#[]⟩,⟨#[]⟩,false⟩,false,rfl,rfl,rfl,Nat.zero_le _⟩
 | some r=>exact⟨r,true,rfl,rfl,rfl,(by decide+kernel: ∀r∈Dj,r.word.size≤64) r (Jh h).1⟩
def ACS (x:Av) (w:World) (v5 i:Value) (wr:World):Prop:= ∃k:Nat,k≤x.l.length∧i= .int .i64 k∧v5= .string (BA (LV x k))∧Below w.heap.size w wr
theorem Vd (x:Av) (A:Option Addr) (c hi hj:Nat) (w:World) (hx:(Rd.i64.sl false).R w 0 hi [.slice A x.l.length c] x.l) (hhi:hi≤w.heap.size) (ha:Rd.Ej x.a) (hE:Dt hj w) (KQ:hj≤w.heap.size) (hop:x.op.toNat<256) (hlen:x.l.length<140737488355328):
 Calls prog 36 #[.agg #[.int .u8 (x.op.toNat:Int),.int .i64 x.a,.slice A x.l.length c]] w fun e w'=>Below w.heap.size w w'∧e= .returned (.string (BA ([32,32]++PO x))):=by
 obtain⟨o,bb,hof,hwt,htt,hws⟩:=ze x.op.toNat
 obtain⟨T,hT⟩: ∃T,T=BA ([32,32]++PO x):=⟨_,rfl⟩
 rw [←hT]
 have hws2:({data:= #[32,32]}:ByteArray).size+o.word.size≤9223372036854775807:=by show 2+_≤_;omega
 have HLEN:=AA (ZG ha (fun n hn=>Rd.qg hx n hn) (by rw [hwt];simpa using hws))
 have HX:=AA hx;have HE:=AA hE;have HA:=AA ha;have HT:=AA hT
 have HOF:=AA hof;have HWT:=AA hwt;have HTT:=AA htt
 have HI0:Hid (LV x 0= [32,32]++(o.word.data.toList++(if o.takes≠0∧o.takes≠3 then 32::Lib.itoa x.a else []))):=AA (by unfold LV;rw [hwt,htt];simp)
 clear hx hE ha hof hwt htt hT
 go_enter func36,ntmps36
 go_wp2_with fail
 generalize hw1:World.alloc _ _=w1
 have hb1:Below w.heap.size w w1:=by rw [←hw1];exact(Below.refl _ _).alloc (Nat.le_refl _) _
 have hm1:AV w1 w.heap.size 53 [.int .u8 (x.op.toNat:Int),.int .i64 x.a,.slice A x.l.length c]:=by rw [←hw1];exact AV.new w _ _
 clear hw1
 refine(XU x.op.toNat w1 hop (HE.out.asc w1 (hb1.mono KQ))).mono ?_
 rintro e w2 ⟨hb2,rfl⟩
 rw [HOF.out]
 have hm2:=hm1.below hb2 hm1.lt
 have VF:=AA hm2
 have HB2:=AA (hb1.trans (hb2.mono hb1.size))
 have hs2:w.heap.size≤w2.heap.size:=HB2.out.size
 have q0:=hm2.q 0 rfl
 have q1:=hm2.q 1 rfl
 have q2:=hm2.q 2 rfl
 clear hb1 hm1 hb2 hm2
 go_upto_region 3 with fail
 generalize hw3:World.alloc _ _=w3
 have hb3:Below w2.heap.size w2 w3:=by rw [←hw3];exact(Below.refl _ _).alloc (Nat.le_refl _) _
 have ho3:AV w3 w2.heap.size 136 [.int .u8 (o.op:Nat),.string o.word,.int .i8 o.takes,.string o.pops,.string o.pushes,.bool o.plain]:=by rw [←hw3];exact AV.new w2 _ _
 have Gz:=AA (VF.out.below hb3 VF.out.lt)
 have HB3:=AA (HB2.out.trans (hb3.mono hs2))
 have hs3:w.heap.size≤w3.heap.size:=HB3.out.size
 have q1:=Gz.out.q 1 rfl
 have q2:=Gz.out.q 2 rfl
 have r2:=ho3.q 2 rfl
 clear hw3 hb3 ho3 VF HB2 q0
 have h3:(∃z:Bool,((o.takes !=0)=z∧(z=true→(o.takes !=3)=false)))∧LV x 0= [32,32]++o.word.data.toList∨((o.takes !=0)=true∧(o.takes !=3)=true)∧LV x 0= [32,32]++(o.word.data.toList++(32::Lib.itoa x.a)):=by
  by_cases h0:o.takes=0
  ·exact .inl ⟨⟨false,by rw [h0];rfl,fun h=>by cases h⟩,by rw [HI0.out,if_neg (fun h=>h.1 h0),List.append_nil]⟩
  ·by_cases h3:o.takes=3
   ·exact .inl ⟨⟨true,bne_iff_ne.2 h0,fun _=>by rw [h3];rfl⟩,by rw [HI0.out,if_neg (fun h=>h.2 h3),List.append_nil]⟩
   ·exact .inr ⟨⟨bne_iff_ne.2 h0,bne_iff_ne.2 h3⟩,by rw [HI0.out,if_pos ⟨h0,h3⟩]⟩
 rcases h3 with⟨⟨z,hz,hz3⟩,hi0⟩ | ⟨⟨hz,hz3⟩,hi0⟩
 case' inl=>
  have HS4:Hid (({data:= #[32,32]}:ByteArray)++o.word=BA (LV x 0)):=AA (by rw [hi0,←Np,O6];rfl)
  have Ke:Hid (Below w.heap.size w w3):=HB3
  clear hi0
  cases z
  case' true=>have hz3:=hz3 rfl
  all_goals
   go_upto_region 5 with fail
   rw [HS4.out]
 case' inr=>
  have hit:(Lib.itoa x.a).length≤21:=WU HA.out
  have HC3:=AA (Nw x.a HA.out w3 (HE.out.to (HB3.out.mono KQ)) (by omega))
  have hs1:({data:= #[32]}:ByteArray).size+({data:=(Lib.itoa x.a).toArray}:ByteArray).size≤9223372036854775807:=by
   show 1+(Lib.itoa x.a).toArray.size≤_
   simp;omega
  have hs5:(({data:= #[32,32]}:ByteArray)++o.word).size+(({data:= #[32]}:ByteArray)++ {data:=(Lib.itoa x.a).toArray}).size≤9223372036854775807:=by
   rw [ByteArray.size_append,ByteArray.size_append]
   show 2+_+(1+(Lib.itoa x.a).toArray.size)≤_
   simp;omega
  have HS4:Hid (({data:= #[32,32]}:ByteArray)++o.word++(({data:= #[32]}:ByteArray)++ {data:=(Lib.itoa x.a).toArray})=BA (LV x 0)):=AA (by
   rw [hi0,←Np,←Np,O6]
   have:BA (32::Lib.itoa x.a)=({data:= #[32]}:ByteArray)++ {data:=(Lib.itoa x.a).toArray}:=(Np [32] (Lib.itoa x.a)).symm
   rw [this,ByteArray.append_assoc]
   rfl)
  clear hi0 hit
  go_wp2_with fail
  refine HC3.out.mono ?_
  rintro e w4 ⟨hb4,rfl⟩
  have Ke:Hid (Below w.heap.size w w4):=AA (HB3.out.trans (hb4.mono hs3))
  have q2:=(Gz.out.below hb4 Gz.out.lt).q 2 rfl
  clear HC3 hb4
  go_upto_region 5 with fail
  rw [HS4.out]
 all_goals
  clear q1 r2 hz hz3 hws2
  go_wp2_with fail
  go_loopw [5,7,34] (fun v5 v7 i wr=>ACS x w v5 i wr) (fun _ _ i _=>x.l.length-(intOf i).toNat)
  case atStart=>exact⟨0,Nat.zero_le _,rfl,rfl,Ke.out⟩
  case round=>
   obtain⟨k,hk,rfl,rfl,hb⟩:=hrel
   have HB:=AA hb
   have hsb:w.heap.size≤wr.heap.size:=hb.size
   have hk0:(0:Int)≤k:=by omega
   clear hb
   by_cases hlt:k<x.l.length
   ·obtain⟨n,hn⟩: ∃n,x.l[k]?=some n:=⟨_,List.getElem?_eq_getElem hlt⟩
    have Lr:decide ((k:Int)<x.l.length)=true:=decide_eq_true (by omega)
    obtain⟨bk,ok,rfl,hbk1,hbk2,hck,Lp⟩:=ints_at (Rd.below HX.out HB.out hhi) hn
    have HC:=AA (QE n Lp wr (HE.out.to (HB.out.mono KQ)) (by omega))
    have hnl:=WU Lp
    have hs1:({data:= #[32]}:ByteArray).size+({data:=(Lib.itoa n).toArray}:ByteArray).size≤9223372036854775807:=by
     show 1+(Lib.itoa n).toArray.size≤_
     simp;omega
    have AEg:=HLEN.out k hk
    have hs5:(BA (LV x k)).size+(({data:= #[32]}:ByteArray)++ {data:=(Lib.itoa n).toArray}).size≤9223372036854775807:=by
     rw [ByteArray.size_append]
     show(LV x k).toArray.size+(1+(Lib.itoa n).toArray.size)≤_
     simp;omega
    have HS4:Hid (BA (LV x k)++(({data:= #[32]}:ByteArray)++ {data:=(Lib.itoa n).toArray})=BA (LV x (k+1))):=AA (by
     rw [Xk hn,←Np]
     exact congrArg (_++ ·) (Np [32] (Lib.itoa n)))
    clear hn Lp hnl AEg
    go_wp2_with fail
    refine HC.out.mono ?_
    rintro e w5 ⟨hb5,rfl⟩
    have I8:=AA (HB.out.trans (hb5.mono hsb))
    clear HC hb5
    go_wp2_with fail
    rw [HS4.out]
    exact⟨⟨k+1,hlt,by go_num,rfl,I8.out⟩,by simp [intOf];omega⟩
   ·obtain rfl:k=x.l.length:=by omega
    have Lr:decide ((x.l.length:Int)<x.l.length)=false:=decide_eq_false (by omega)
    have HS:Hid (BA (LV x x.l.length)=T):=AA (by rw [HT.out,oL])
    go_wp2_with fail
    rw [HS.out]
    go_ret
    exact⟨HB.out,rfl⟩
theorem oM (ws:List ByteArray):(⟨(Lib.join (ws.map (·.data.toList)) [32]).toArray⟩:ByteArray)++(⟨#[10]⟩:ByteArray)=BA (Cg (ws.map (·.data.toList))):=by
 unfold Cg
 exact Np _ [10]
theorem vD (B b:Nat) (l:List UInt8) (ws:List ByteArray) (n g o c:Nat) (w:World) (hn:ws.length=n) (h:Ot B b w l) (hB:B≤w.heap.size) (hcells: ∀(j:Nat) x,ws[j]?=some x→w.cell? ⟨g,o+j,none⟩=some (.string x)) (hg:g<w.heap.size) (hc:n≤c) (hlen:l.length+(Cg (ws.map (·.data.toList))).length≤140737488355328) (hw:ws.length≤1000):
 Calls prog 28 #[.slice (some ⟨g,o,none⟩) n c,.pointer (some ⟨b,0,none⟩)] w fun e w'=>e= .returned (.tuple #[])∧Ot B b w' (l++Cg (ws.map (·.data.toList)))∧Below B w w'∧VP b w w':=by
 have hjl:(Lib.join (ws.map (·.data.toList)) [32]).length+1=(Cg (ws.map (·.data.toList))).length:=by unfold Cg;rw [List.length_append];rfl
 have HJ:=AA (strings_Join g o c ws ⟨#[32]⟩ w hcells hg (by omega) (by omega) (by show(Lib.join _ [32]).length≤_;omega))
 rw [hn] at HJ
 have hs1:(⟨(Lib.join (ws.map (·.data.toList)) [32]).toArray⟩:ByteArray).size+(⟨#[10]⟩:ByteArray).size≤9223372036854775807:=by
  show(Lib.join (ws.map (·.data.toList)) [32]).toArray.size+1≤_
  simp only [List.size_toArray];omega
 have HL:=AA (oM ws)
 have H:=AA h
 obtain⟨T,hT⟩: ∃T,T=Cg (ws.map (·.data.toList)):=⟨_,rfl⟩
 have HT:=AA hT
 have hT2:l.length+T.length≤140737488355328:=by rw [hT];exact hlen
 rw [←hT]
 clear hcells h hlen hjl hT
 go_enter func28,ntmps28
 go_wp2_with fail
 refine HJ.out.mono ?_
 rintro e w1 ⟨rfl,hb1⟩
 have HB1:=AA hb1
 have hs1':=hb1.size
 clear HJ hb1
 go_wp2_with fail
 rw [HL.out,←HT.out]
 have hTs:(BA T).size=T.length:=by show T.toArray.size=_;simp
 have hTd:(BA T).data.toList=T:=by simp [BA]
 have HW:=AA (Vb B b l (BA T) w1 (H.out.below HB1.out) (by omega) (by omega))
 rw [hTd] at HW
 refine HW.out.mono ?_
 rintro e w2 ⟨rfl,hA,hBw,hK⟩
 have HA:=AA hA;have Eo:=AA hBw;have HK:=AA hK
 clear HW hA hBw hK
 go_wp2_with fail
 go_end0
 exact⟨rfl,HA.out,(HB1.out.mono hB).trans Eo.out,HK.out.below HB1.out⟩
end Go.Proofs.YtebgikflpgcnlaaGreatDoor
