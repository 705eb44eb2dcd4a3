/- Part 13 of the proof: OpsR OpsQ OpsB OpsO PrtA SlT -/
import Derived.StillTailTactics
import Derived.Deep.RegionHeld3
import Derived.Lib.ItoaLen
import Derived.Test.YtebgikflpgcnlaaGreatDoorT11
import Derived.Test.YtebgikflpgcnlaaGreatDoorT12
namespace Go.Proofs.YtebgikflpgcnlaaGreatDoor
set_option linter.unusedVariables false
set_option linter.unusedSimpArgs false
set_option maxRecDepth 100000
set_option maxHeartbeats 4000000
open Go.RowKit Tryz
def ascii (s:ByteArray):Prop:=s.size<4294967281∧ ∀(j:Nat) b,s.data.toList[j]?=some b→b.toNat<128
def FindPost (from_ op:Nat) (s ahead:ByteArray) (w:World) (e:Ending) (w':World):Prop:=
 Below w.heap.size w w'∧(((Lib.fields s.data.toList).length≤op-from_∧e= .returned (.tuple #[.slice none 0 0,.int .i64 (-1),.string ByteArray.empty]))∨
  (op-from_<(Lib.fields s.data.toList).length∧e= .returned (.tuple #[.slice (some ⟨w.heap.size,0,none⟩) (Lib.fields s.data.toList).length (Lib.fields s.data.toList).length,.int .i64 ((op-from_:Nat):Int),.string ahead])∧
   ∀j:Nat,∀x,(Lib.fields s.data.toList)[j]?=some x→w'.cell? ⟨w.heap.size,j,none⟩=some (.string ⟨x.toArray⟩)))
theorem ops_find (a:Addr) (from_ op:Nat) (s ahead:ByteArray) (w:World) (hs:ascii s) (hle:from_≤op) (hop:op<256) (hlen:(Lib.fields s.data.toList).length≤4294967281) (ha:w.cell? a=some (.int .u8 op)) (hab:a.block<w.heap.size) (htab:Lib.TabIs prog w "strings.asciiSpace" .u8 Lib.asciiSpaceTab):
 Calls prog 170 #[.int .u8 from_,.string s,.string ahead,.pointer (some a)] w (FindPost from_ op s ahead w):=by
 have H1:=hideIt htab
 have Hs:=hideIt hs
 clear htab hs
 go_enter func170,ntmps170
 go_wp2_with fail
 refine(strings_Fields s w Hs.out.1 Hs.out.2 H1.out).mono ?_
 rintro e w1 ⟨rfl,rfl⟩
 generalize hL:Lib.fields s.data.toList=L at*
 have hgr:Below w.heap.size w (w.alloc (.cells (L.map fun l=>Value.string ⟨l.toArray⟩).toArray 9)):=(Below.refl _ _).alloc (Nat.le_refl _) _
 have ha1:(w.alloc (.cells (L.map fun l=>Value.string ⟨l.toArray⟩).toArray 9)).cell? a=some (.int .u8 op):=by rw [hgr.cell hab];exact ha
 have HB:=hideIt hgr
 have Hc:Hid (∀(j:Nat) x,L[j]?=some x→(w.alloc (.cells (L.map fun l=>Value.string ⟨l.toArray⟩).toArray 9)).cell? ⟨w.heap.size,j,none⟩=some (.string ⟨x.toArray⟩)):=hideIt (fun j x hx=>by
  have hb:=Blk.new w 9 (L.map fun l=>Value.string ⟨l.toArray⟩)
  rw [hb.cell,List.getElem?_map,hx];rfl)
 generalize w.alloc (.cells (L.map fun l=>Value.string ⟨l.toArray⟩).toArray 9)=w1 at*
 clear hgr ha
 obtain⟨n,rfl⟩: ∃n,op=from_+n:=⟨op-from_,by omega⟩
 have hsub:from_+n-from_=n:=by omega
 have hw8:IntKind.u8.wrap (((from_+n:Nat):Int)-(from_:Int))=(n:Int):=by rw [show((from_+n:Nat):Int)-(from_:Int)=(n:Int)by omega];exact IntWalk.u8_in _ ⟨by omega,by omega⟩
 by_cases hn:L.length≤n
 ·go_wp2_with fail
  go_ret3
  refine⟨HB.out,?_⟩
  rw [hL,hsub]
  exact .inl ⟨hn,rfl⟩
 ·go_wp2_with fail
  go_quiet (fail)
  go_wp2_with fail
  go_ret3
  refine⟨below_drewN HB.out _,?_⟩
  rw [hL,hsub]
  refine .inr ⟨by omega,?_,fun j x hx=>Hc.out j x hx⟩
  simp
  omega
theorem lt_cell {w:World} {a:Addr} {v:Value} (h:w.cell? a=some v):a.block<w.heap.size:=by
 unfold World.cell? at h
 by_cases hlt:a.block<w.heap.size
 ·exact hlt
 ·rw [Array.getElem?_eq_none (by omega)] at h
  simp at h
theorem ascii_of {s:ByteArray} (h1:s.size<4294967281) (h2:s.data.toList.all (fun b=>b.toNat<128)=true):ascii s:=
 ⟨h1,fun j b hb=>by simpa using List.all_eq_true.1 h2 b (List.mem_of_getElem? hb)⟩
def wd_low:ByteArray:=⟨#[116,114,97,112,32,110,111,112,32,98,108,111,99,107,32,108,111,111,112,32,105,102,32,101,108,115,101,32,101,110,100,32,98,114,32,98,114,105,102,32,98,114,116,97,98,108,101,32,114,101,116,117,114,110,32,99,97,108,108,32,104,111,115,116]⟩
def wd_stack:ByteArray:=⟨#[100,114,111,112,32,115,101,108,101,99,116,32,103,101,116,32,115,101,116,32,116,101,101,32,103,103,101,116,32,103,115,101,116]⟩
def wd_consts:ByteArray:=⟨#[119,46,99,111,110,115,116,32,108,46,99,111,110,115,116]⟩
def wd_memory:ByteArray:=⟨#[119,46,108,111,97,100,56,117,32,119,46,108,111,97,100,56,115,32,119,46,108,111,97,100,49,54,117,32,119,46,108,111,97,100,49,54,115,32,119,46,108,111,97,100,32,108,46,108,111,97,100,32,119,46,115,116,111,114,101,56,32,119,46,115,116,111,114,101,49,54,32,119,46,115,116,111,114,101,32,108,46,115,116,111,114,101,32,115,105,122,101,32,103,114,111,119]⟩
def wd_numbers:ByteArray:=⟨#[101,113,122,32,101,113,32,110,101,32,108,116,115,32,108,116,117,32,108,101,115,32,108,101,117,32,99,108,122,32,99,116,122,32,112,111,112,32,97,100,100,32,115,117,98,32,109,117,108,32,100,105,118,115,32,100,105,118,117,32,114,101,109,115,32,114,101,109,117,32,97,110,100,32,111,114,32,120,111,114,32,115,104,108,32,115,104,114,115,32,115,104,114,117,32,114,111,116,108,32,114,111,116,114]⟩
def wd_turns:ByteArray:=⟨#[119,46,119,114,97,112,32,108,46,101,120,116,101,110,100,115,32,108,46,101,120,116,101,110,100,117,32,119,46,101,120,116,56,32,119,46,101,120,116,49,54,32,108,46,101,120,116,51,50]⟩
theorem asc_low:ascii wd_low:=ascii_of (by decide) (by decide)
theorem asc_stack:ascii wd_stack:=ascii_of (by decide) (by decide)
theorem asc_consts:ascii wd_consts:=ascii_of (by decide) (by decide)
theorem asc_memory:ascii wd_memory:=ascii_of (by decide) (by decide)
theorem asc_numbers:ascii wd_numbers:=ascii_of (by decide) (by decide)
theorem asc_turns:ascii wd_turns:=ascii_of (by decide) (by decide)
theorem fl_low:(Lib.fields wd_low.data.toList).length=13:=by kernel_rfl
theorem fl_stack:(Lib.fields wd_stack.data.toList).length=7:=by kernel_rfl
theorem fl_consts:(Lib.fields wd_consts.data.toList).length=2:=by kernel_rfl
theorem fl_memory:(Lib.fields wd_memory.data.toList).length=12:=by kernel_rfl
theorem fl_numbers:(Lib.fields wd_numbers.data.toList).length=25:=by kernel_rfl
theorem fl_turns:(Lib.fields wd_turns.data.toList).length=6:=by kernel_rfl
def runOf (n:Nat):Nat×ByteArray×ByteArray:=
 if n<16 then(0,wd_low,ByteArray.empty) else if n<24 then(16,wd_stack,ByteArray.empty) else if n<32 then(24,wd_consts,ByteArray.empty) else if n<48 then(32,wd_memory,ByteArray.empty) else if n<80 then(48,wd_numbers,⟨#[119,46]⟩) else if n<112 then(80,wd_numbers,⟨#[108,46]⟩) else(112,wd_turns,ByteArray.empty)
def RunPost (op:Nat) (w:World) (e:Ending) (w':World):Prop:=
 Below w.heap.size w w'∧(((Lib.fields (runOf op).2.1.data.toList).length≤op-(runOf op).1∧e= .returned (.tuple #[.slice none 0 0,.int .i64 (-1),.string ByteArray.empty]))∨
  (op-(runOf op).1<(Lib.fields (runOf op).2.1.data.toList).length∧ ∃g,e= .returned (.tuple #[.slice (some ⟨g,0,none⟩) (Lib.fields (runOf op).2.1.data.toList).length (Lib.fields (runOf op).2.1.data.toList).length,.int .i64 ((op-(runOf op).1:Nat):Int),.string (runOf op).2.2])∧w.heap.size≤g∧g<w'.heap.size∧
   ∀j:Nat,∀x,(Lib.fields (runOf op).2.1.data.toList)[j]?=some x→w'.cell? ⟨g,j,none⟩=some (.string ⟨x.toArray⟩)))
theorem ops_run (op:Nat) (w:World) (hop:op<256) (htab:Lib.TabIs prog w "strings.asciiSpace" .u8 Lib.asciiSpaceTab):
 Calls prog 130 #[.int .u8 op] w (RunPost op w):=by
 have Ht:=hideIt (Lib.tabBelow_of_tabIs htab)
 clear htab
 go_enter func130,ntmps130
 by_cases h0:op<16
 case pos=>
  have d0:decide ((op:Int)<16)=true:=decide_eq_true (by omega)
  have hr:runOf op=(0,wd_low,ByteArray.empty):=by unfold runOf;rw [if_pos h0]
  have Hr:=hideIt hr;clear hr
  go_wp2_with fail
  generalize hw:w.alloc _=w1
  have hb1:w1.cell? ⟨w.heap.size,0,none⟩=some (.int .u8 op):=by rw [←hw];exact(Blk.new w 5 [.int .u8 op]).cell 0
  have hsz:w.heap.size<w1.heap.size:=by rw [←hw];simp
  have H1:Hid (Below w.heap.size w w1):=by rw [←hw];exact hideIt ((Below.refl _ _).alloc (Nat.le_refl _) _)
  clear hw
  refine(ops_find ⟨w.heap.size,0,none⟩ 0 op wd_low ByteArray.empty w1 asc_low (by omega) hop (by rw [fl_low];omega) hb1 hsz (Ht.out _ H1.out)).mono ?_
  rintro e w2 ⟨hbe,⟨hl,rfl⟩ | ⟨hl,rfl,hc⟩⟩
  ·have H2:=hideIt (H1.out.trans (hbe.mono H1.out.size));clear hbe
   go_wp2_with fail
   go_ret3
   refine⟨H2.out,.inl ⟨?_,rfl⟩⟩
   rw [Hr.out]
   exact hl
  ·have H2:=hideIt (H1.out.trans (hbe.mono H1.out.size))
   have hg2:w1.heap.size<w2.heap.size:=by
    obtain⟨y,hy⟩: ∃y,(Lib.fields wd_low.data.toList)[0]?=some y:=⟨_,List.getElem?_eq_getElem (by omega)⟩
    exact lt_cell (hc 0 y hy)
   have Hc:=hideIt hc;clear hbe hc
   go_wp2_with fail
   go_ret3
   refine⟨H2.out,.inr ?_⟩
   rw [Hr.out]
   exact⟨hl,w1.heap.size,rfl,Nat.le_of_lt hsz,hg2,Hc.out⟩
 have d0:decide ((op:Int)<16)=false:=decide_eq_false (by omega)
 by_cases h1:op<24
 case pos=>
  have d1:decide ((op:Int)<24)=true:=decide_eq_true (by omega)
  have hr:runOf op=(16,wd_stack,ByteArray.empty):=by unfold runOf;rw [if_neg h0];rw [if_pos h1]
  have Hr:=hideIt hr;clear hr
  go_wp2_with fail
  generalize hw:w.alloc _=w1
  have hb1:w1.cell? ⟨w.heap.size,0,none⟩=some (.int .u8 op):=by rw [←hw];exact(Blk.new w 5 [.int .u8 op]).cell 0
  have hsz:w.heap.size<w1.heap.size:=by rw [←hw];simp
  have H1:Hid (Below w.heap.size w w1):=by rw [←hw];exact hideIt ((Below.refl _ _).alloc (Nat.le_refl _) _)
  clear hw
  refine(ops_find ⟨w.heap.size,0,none⟩ 16 op wd_stack ByteArray.empty w1 asc_stack (by omega) hop (by rw [fl_stack];omega) hb1 hsz (Ht.out _ H1.out)).mono ?_
  rintro e w2 ⟨hbe,⟨hl,rfl⟩ | ⟨hl,rfl,hc⟩⟩
  ·have H2:=hideIt (H1.out.trans (hbe.mono H1.out.size));clear hbe
   go_wp2_with fail
   go_ret3
   refine⟨H2.out,.inl ⟨?_,rfl⟩⟩
   rw [Hr.out]
   exact hl
  ·have H2:=hideIt (H1.out.trans (hbe.mono H1.out.size))
   have hg2:w1.heap.size<w2.heap.size:=by
    obtain⟨y,hy⟩: ∃y,(Lib.fields wd_stack.data.toList)[0]?=some y:=⟨_,List.getElem?_eq_getElem (by omega)⟩
    exact lt_cell (hc 0 y hy)
   have Hc:=hideIt hc;clear hbe hc
   go_wp2_with fail
   go_ret3
   refine⟨H2.out,.inr ?_⟩
   rw [Hr.out]
   exact⟨hl,w1.heap.size,rfl,Nat.le_of_lt hsz,hg2,Hc.out⟩
 have d1:decide ((op:Int)<24)=false:=decide_eq_false (by omega)
 by_cases h2:op<32
 case pos=>
  have d2:decide ((op:Int)<32)=true:=decide_eq_true (by omega)
  have hr:runOf op=(24,wd_consts,ByteArray.empty):=by unfold runOf;rw [if_neg h0];rw [if_neg h1];rw [if_pos h2]
  have Hr:=hideIt hr;clear hr
  go_wp2_with fail
  generalize hw:w.alloc _=w1
  have hb1:w1.cell? ⟨w.heap.size,0,none⟩=some (.int .u8 op):=by rw [←hw];exact(Blk.new w 5 [.int .u8 op]).cell 0
  have hsz:w.heap.size<w1.heap.size:=by rw [←hw];simp
  have H1:Hid (Below w.heap.size w w1):=by rw [←hw];exact hideIt ((Below.refl _ _).alloc (Nat.le_refl _) _)
  clear hw
  refine(ops_find ⟨w.heap.size,0,none⟩ 24 op wd_consts ByteArray.empty w1 asc_consts (by omega) hop (by rw [fl_consts];omega) hb1 hsz (Ht.out _ H1.out)).mono ?_
  rintro e w2 ⟨hbe,⟨hl,rfl⟩ | ⟨hl,rfl,hc⟩⟩
  ·have H2:=hideIt (H1.out.trans (hbe.mono H1.out.size));clear hbe
   go_wp2_with fail
   go_ret3
   refine⟨H2.out,.inl ⟨?_,rfl⟩⟩
   rw [Hr.out]
   exact hl
  ·have H2:=hideIt (H1.out.trans (hbe.mono H1.out.size))
   have hg2:w1.heap.size<w2.heap.size:=by
    obtain⟨y,hy⟩: ∃y,(Lib.fields wd_consts.data.toList)[0]?=some y:=⟨_,List.getElem?_eq_getElem (by omega)⟩
    exact lt_cell (hc 0 y hy)
   have Hc:=hideIt hc;clear hbe hc
   go_wp2_with fail
   go_ret3
   refine⟨H2.out,.inr ?_⟩
   rw [Hr.out]
   exact⟨hl,w1.heap.size,rfl,Nat.le_of_lt hsz,hg2,Hc.out⟩
 have d2:decide ((op:Int)<32)=false:=decide_eq_false (by omega)
 by_cases h3:op<48
 case pos=>
  have d3:decide ((op:Int)<48)=true:=decide_eq_true (by omega)
  have hr:runOf op=(32,wd_memory,ByteArray.empty):=by unfold runOf;rw [if_neg h0];rw [if_neg h1];rw [if_neg h2];rw [if_pos h3]
  have Hr:=hideIt hr;clear hr
  go_wp2_with fail
  generalize hw:w.alloc _=w1
  have hb1:w1.cell? ⟨w.heap.size,0,none⟩=some (.int .u8 op):=by rw [←hw];exact(Blk.new w 5 [.int .u8 op]).cell 0
  have hsz:w.heap.size<w1.heap.size:=by rw [←hw];simp
  have H1:Hid (Below w.heap.size w w1):=by rw [←hw];exact hideIt ((Below.refl _ _).alloc (Nat.le_refl _) _)
  clear hw
  refine(ops_find ⟨w.heap.size,0,none⟩ 32 op wd_memory ByteArray.empty w1 asc_memory (by omega) hop (by rw [fl_memory];omega) hb1 hsz (Ht.out _ H1.out)).mono ?_
  rintro e w2 ⟨hbe,⟨hl,rfl⟩ | ⟨hl,rfl,hc⟩⟩
  ·have H2:=hideIt (H1.out.trans (hbe.mono H1.out.size));clear hbe
   go_wp2_with fail
   go_ret3
   refine⟨H2.out,.inl ⟨?_,rfl⟩⟩
   rw [Hr.out]
   exact hl
  ·have H2:=hideIt (H1.out.trans (hbe.mono H1.out.size))
   have hg2:w1.heap.size<w2.heap.size:=by
    obtain⟨y,hy⟩: ∃y,(Lib.fields wd_memory.data.toList)[0]?=some y:=⟨_,List.getElem?_eq_getElem (by omega)⟩
    exact lt_cell (hc 0 y hy)
   have Hc:=hideIt hc;clear hbe hc
   go_wp2_with fail
   go_ret3
   refine⟨H2.out,.inr ?_⟩
   rw [Hr.out]
   exact⟨hl,w1.heap.size,rfl,Nat.le_of_lt hsz,hg2,Hc.out⟩
 have d3:decide ((op:Int)<48)=false:=decide_eq_false (by omega)
 by_cases h4:op<80
 case pos=>
  have d4:decide ((op:Int)<80)=true:=decide_eq_true (by omega)
  have hr:runOf op=(48,wd_numbers,⟨#[119,46]⟩):=by unfold runOf;rw [if_neg h0];rw [if_neg h1];rw [if_neg h2];rw [if_neg h3];rw [if_pos h4]
  have Hr:=hideIt hr;clear hr
  go_wp2_with fail
  generalize hw:w.alloc _=w1
  have hb1:w1.cell? ⟨w.heap.size,0,none⟩=some (.int .u8 op):=by rw [←hw];exact(Blk.new w 5 [.int .u8 op]).cell 0
  have hsz:w.heap.size<w1.heap.size:=by rw [←hw];simp
  have H1:Hid (Below w.heap.size w w1):=by rw [←hw];exact hideIt ((Below.refl _ _).alloc (Nat.le_refl _) _)
  clear hw
  refine(ops_find ⟨w.heap.size,0,none⟩ 48 op wd_numbers ⟨#[119,46]⟩ w1 asc_numbers (by omega) hop (by rw [fl_numbers];omega) hb1 hsz (Ht.out _ H1.out)).mono ?_
  rintro e w2 ⟨hbe,⟨hl,rfl⟩ | ⟨hl,rfl,hc⟩⟩
  ·have H2:=hideIt (H1.out.trans (hbe.mono H1.out.size));clear hbe
   go_wp2_with fail
   go_ret3
   refine⟨H2.out,.inl ⟨?_,rfl⟩⟩
   rw [Hr.out]
   exact hl
  ·have H2:=hideIt (H1.out.trans (hbe.mono H1.out.size))
   have hg2:w1.heap.size<w2.heap.size:=by
    obtain⟨y,hy⟩: ∃y,(Lib.fields wd_numbers.data.toList)[0]?=some y:=⟨_,List.getElem?_eq_getElem (by omega)⟩
    exact lt_cell (hc 0 y hy)
   have Hc:=hideIt hc;clear hbe hc
   go_wp2_with fail
   go_ret3
   refine⟨H2.out,.inr ?_⟩
   rw [Hr.out]
   exact⟨hl,w1.heap.size,rfl,Nat.le_of_lt hsz,hg2,Hc.out⟩
 have d4:decide ((op:Int)<80)=false:=decide_eq_false (by omega)
 by_cases h5:op<112
 case pos=>
  have d5:decide ((op:Int)<112)=true:=decide_eq_true (by omega)
  have hr:runOf op=(80,wd_numbers,⟨#[108,46]⟩):=by unfold runOf;rw [if_neg h0];rw [if_neg h1];rw [if_neg h2];rw [if_neg h3];rw [if_neg h4];rw [if_pos h5]
  have Hr:=hideIt hr;clear hr
  go_wp2_with fail
  generalize hw:w.alloc _=w1
  have hb1:w1.cell? ⟨w.heap.size,0,none⟩=some (.int .u8 op):=by rw [←hw];exact(Blk.new w 5 [.int .u8 op]).cell 0
  have hsz:w.heap.size<w1.heap.size:=by rw [←hw];simp
  have H1:Hid (Below w.heap.size w w1):=by rw [←hw];exact hideIt ((Below.refl _ _).alloc (Nat.le_refl _) _)
  clear hw
  refine(ops_find ⟨w.heap.size,0,none⟩ 80 op wd_numbers ⟨#[108,46]⟩ w1 asc_numbers (by omega) hop (by rw [fl_numbers];omega) hb1 hsz (Ht.out _ H1.out)).mono ?_
  rintro e w2 ⟨hbe,⟨hl,rfl⟩ | ⟨hl,rfl,hc⟩⟩
  ·have H2:=hideIt (H1.out.trans (hbe.mono H1.out.size));clear hbe
   go_wp2_with fail
   go_ret3
   refine⟨H2.out,.inl ⟨?_,rfl⟩⟩
   rw [Hr.out]
   exact hl
  ·have H2:=hideIt (H1.out.trans (hbe.mono H1.out.size))
   have hg2:w1.heap.size<w2.heap.size:=by
    obtain⟨y,hy⟩: ∃y,(Lib.fields wd_numbers.data.toList)[0]?=some y:=⟨_,List.getElem?_eq_getElem (by omega)⟩
    exact lt_cell (hc 0 y hy)
   have Hc:=hideIt hc;clear hbe hc
   go_wp2_with fail
   go_ret3
   refine⟨H2.out,.inr ?_⟩
   rw [Hr.out]
   exact⟨hl,w1.heap.size,rfl,Nat.le_of_lt hsz,hg2,Hc.out⟩
 have d5:decide ((op:Int)<112)=false:=decide_eq_false (by omega)
 have hr:runOf op=(112,wd_turns,ByteArray.empty):=by unfold runOf;rw [if_neg h0];rw [if_neg h1];rw [if_neg h2];rw [if_neg h3];rw [if_neg h4];rw [if_neg h5]
 have Hr:=hideIt hr;clear hr
 go_wp2_with fail
 generalize hw:w.alloc _=w1
 have hb1:w1.cell? ⟨w.heap.size,0,none⟩=some (.int .u8 op):=by rw [←hw];exact(Blk.new w 5 [.int .u8 op]).cell 0
 have hsz:w.heap.size<w1.heap.size:=by rw [←hw];simp
 have H1:Hid (Below w.heap.size w w1):=by rw [←hw];exact hideIt ((Below.refl _ _).alloc (Nat.le_refl _) _)
 clear hw
 refine(ops_find ⟨w.heap.size,0,none⟩ 112 op wd_turns ByteArray.empty w1 asc_turns (by omega) hop (by rw [fl_turns];omega) hb1 hsz (Ht.out _ H1.out)).mono ?_
 rintro e w2 ⟨hbe,⟨hl,rfl⟩ | ⟨hl,rfl,hc⟩⟩
 ·have H2:=hideIt (H1.out.trans (hbe.mono H1.out.size));clear hbe
  go_wp2_with fail
  go_ret3
  refine⟨H2.out,.inl ⟨?_,rfl⟩⟩
  rw [Hr.out]
  exact hl
 ·have H2:=hideIt (H1.out.trans (hbe.mono H1.out.size))
  have hg2:w1.heap.size<w2.heap.size:=by
   obtain⟨y,hy⟩: ∃y,(Lib.fields wd_turns.data.toList)[0]?=some y:=⟨_,List.getElem?_eq_getElem (by omega)⟩
   exact lt_cell (hc 0 y hy)
  have Hc:=hideIt hc;clear hbe hc
  go_wp2_with fail
  go_ret3
  refine⟨H2.out,.inr ?_⟩
  rw [Hr.out]
  exact⟨hl,w1.heap.size,rfl,Nat.le_of_lt hsz,hg2,Hc.out⟩
set_option maxHeartbeats 40000000 in
theorem ops_takes_all (w:World): ∀r∈opTab,Calls prog 132 #[.int .u8 (r.op:Nat)] w fun e w'=>w=w'∧e= .returned (.int .i8 r.takes):=by
 unfold opTab
 iterate 90
  refine List.forall_mem_cons.2 ⟨?_,?_⟩
  ·simp only [Int.cast_ofNat_Int]
   try simp only [Int.natCast_zero]
   go_enter func132,ntmps132
   go_wp2_with fail
   go_ret
   exact⟨rfl,rfl⟩
 exact fun _ h=>by cases h
section
def opC (r:OpV):Array Value:= #[.int .u8 (r.op:Nat),.string r.word,.int .i8 r.takes,.string r.pops,.string r.pushes,.bool r.plain]
def opZ:Array Value:= #[.int .u8 0,.string ⟨#[]⟩,.int .i8 0,.string ⟨#[]⟩,.string ⟨#[]⟩,.bool false]
def ofAns (op:Nat):Value:=match opRow op with
 | none=> .tuple #[.agg opZ,.bool false]
 | some r=> .tuple #[.agg (opC r),.bool true]
def opChk (op:Nat):Bool:=match opRow op with
 | none=>decide ((Lib.fields (runOf op).2.1.data.toList).length≤op-(runOf op).1)
 | some r=>match (Lib.fields (runOf op).2.1.data.toList)[op-(runOf op).1]? with
  | none=>false
  | some x=>decide ((runOf op).2.2.data.toList++x=r.word.data.toList)
theorem opChk_all:(List.range 256).all opChk=true:=by kernel_rfl
theorem opChk_at {op:Nat} (h:op<256):opChk op=true:=List.all_eq_true.1 opChk_all op (List.mem_range.2 h)
theorem opRow_none {op:Nat} (h:op<256) (hr:opRow op=none):(Lib.fields (runOf op).2.1.data.toList).length≤op-(runOf op).1:=by
 have:=opChk_at h
 unfold opChk at this
 rw [hr] at this
 exact of_decide_eq_true this
theorem opRow_some {op:Nat} {r:OpV} (h:op<256) (hr:opRow op=some r): ∃x,(Lib.fields (runOf op).2.1.data.toList)[op-(runOf op).1]?=some x∧(runOf op).2.2++(⟨x.toArray⟩:ByteArray)=r.word:=by
 have:=opChk_at h
 unfold opChk at this
 rw [hr] at this
 simp only at this
 split at this
 ·cases this
 ·rename_i x hx
  refine⟨x,hx,?_⟩
  have h2:=of_decide_eq_true this
  apply ByteArray.ext
  apply Array.toList_inj.1
  rw [ByteArray.data_append,Array.toList_append]
  exact h2
theorem opWord_le: ∀r∈opTab,r.word.size≤64:=by
 have h:opTab.all (fun r=>decide (r.word.size≤64))=true:=by kernel_rfl
 exact fun r hr=>of_decide_eq_true (List.all_eq_true.1 h r hr)
attribute [local irreducible] opRow runOf
theorem results_ct_of {fn:Func} {p u:Tmp} {ty:TypeId} {tmps:Array Value} {P:Program} {w:World} {a:Addr} {v v2:Value} (h:fn.results= #[.cell p ty,.tmp u]) (hp:tmps.getD p undef= .pointer (some a)) (hu:tmps.getD u undef=v2) (hl:(loadVar ty a).run P w= .ok v w):
 (results fn tmps).run P w= .ok (.tuple #[v,v2]) w:=by
 rw [results_cell_tmp h,hp,hu]
 show((loadVar ty a).run P w).andThen _=_
 rw [hl]
 rfl
theorem load_row {W:World} {g:Nat} {y0 y1 y2 y3 y4 y5:Value} (h:Blk W g 136 [y0,y1,y2,y3,y4,y5]):(loadVar 136 ⟨g,0,none⟩).run prog W= .ok (.agg #[y0,y1,y2,y3,y4,y5]) W:=
 run_loadVar_row W g 136 136 #[y0,y1,y2,y3,y4,y5] (0,0) _ h underlying136 rfl (by kernel_rfl)
theorem ops_of (op:Nat) (w:World) (hop:op<256) (htab:Lib.TabIs prog w "strings.asciiSpace" .u8 Lib.asciiSpaceTab):
 Calls prog 78 #[.int .u8 op] w fun e w'=>Below w.heap.size w w'∧e= .returned (ofAns op):=by
 have Ht:=hideIt (Lib.tabBelow_of_tabIs htab)
 clear htab
 go_enter func78,ntmps78
 go_wp2_with fail
 generalize hw:w.alloc _=w1
 have H1:Hid (Below w.heap.size w w1):=by rw [←hw];exact hideIt ((Below.refl _ _).alloc (Nat.le_refl _) _)
 have Hb1:Hid (Blk w1 w.heap.size 136 opZ.toList):=by rw [←hw];exact hideIt (Blk.new w 136 opZ.toList)
 clear hw
 refine(ops_run op w1 hop (Ht.out _ H1.out)).mono ?_
 rintro e w2 ⟨hbe,⟨hl,rfl⟩ | ⟨hl,g,rfl,hg1,hg2,hc⟩⟩
 ·have H2:=hideIt (H1.out.trans (hbe.mono H1.out.size))
  have Hb2:=hideIt (Hb1.out.below hbe Hb1.out.lt)
  clear hbe
  have he0:=Hb2.out.q 0 rfl
  have hf0:=Hb2.out.frozen 0
  have he1:=Hb2.out.q 1 rfl
  have hf1:=Hb2.out.frozen 1
  have he2:=Hb2.out.q 2 rfl
  have hf2:=Hb2.out.frozen 2
  have he3:=Hb2.out.q 3 rfl
  have hf3:=Hb2.out.frozen 3
  have he4:=Hb2.out.q 4 rfl
  have hf4:=Hb2.out.frozen 4
  have he5:=Hb2.out.q 5 rfl
  have hf5:=Hb2.out.frozen 5
  go_wp2_with fail
  have hblk:=(Blk.set (Blk.set (Blk.set (Blk.set (Blk.set (Blk.set Hb2.out 0 (.int .u8 0)) 1 (.string ⟨#[]⟩)) 2 (.int .i8 0)) 3 (.string ⟨#[]⟩)) 4 (.string ⟨#[]⟩)) 5 (.bool false))
  have hno:opRow op=none:=by
   cases hr:opRow op with
   | none=>rfl
   | some r=>
    obtain⟨x,hx,_⟩:=opRow_some hop hr
    have:=(List.getElem?_eq_some_iff.1 hx).1
    omega
  refine bodyPost_ret (results_ct_of rfl rfl rfl (load_row hblk)) rfl ⟨(Below.setCell (Below.setCell (Below.setCell (Below.setCell (Below.setCell (Below.setCell H2.out (p:=⟨w.heap.size,0,none⟩) (Nat.le_refl _) (.int .u8 0)) (p:=⟨w.heap.size,1,none⟩) (Nat.le_refl _) (.string ⟨#[]⟩)) (p:=⟨w.heap.size,2,none⟩) (Nat.le_refl _) (.int .i8 0)) (p:=⟨w.heap.size,3,none⟩) (Nat.le_refl _) (.string ⟨#[]⟩)) (p:=⟨w.heap.size,4,none⟩) (Nat.le_refl _) (.string ⟨#[]⟩)) (p:=⟨w.heap.size,5,none⟩) (Nat.le_refl _) (.bool false)),?_⟩
  unfold ofAns
  rw [hno]
  rfl
 ·have H2:=hideIt (H1.out.trans (hbe.mono H1.out.size))
  have Hb2:=hideIt (Hb1.out.below hbe Hb1.out.lt)
  clear hbe
  obtain⟨r,hr⟩: ∃r,opRow op=some r:=by
   cases hr:opRow op with
   | none=>have:=opRow_none hop hr;omega
   | some r=>exact⟨r,rfl⟩
  obtain⟨hm,rfl⟩:=opRow_mem hr
  obtain⟨y,hy,hwd⟩:=opRow_some hop hr
  have hcw:w2.cell? ⟨g,r.op-(runOf r.op).1,none⟩=some (.string ⟨y.toArray⟩):=hc _ y hy
  have Hr:=hideIt hr
  clear hc hy hr
  generalize (runOf r.op).2.2=ah at*
  generalize hfl:(Lib.fields (runOf r.op).2.1.data.toList).length=fl at*
  generalize r.op-(runOf r.op).1=n at*
  clear hfl
  have HT:Hid (∀W,Calls prog 132 #[.int .u8 (r.op:Nat)] W fun e w'=>e= .returned (.int .i8 r.takes)∧w'=W):=hideIt (fun W=>(ops_takes_all W r hm).mono fun e w' h=>⟨h.2,h.1.symm⟩)
  have HP:=hideIt (ops_plain_all w2 r hm)
  have hsum:ah.size+y.length≤64:=by
   have h1:=opWord_le r hm
   rw [←hwd,ByteArray.size_append] at h1
   have h3:(⟨y.toArray⟩:ByteArray).size=y.length:=List.size_toArray
   rwa [h3] at h1
  have hsum2: ¬(9223372036854775807<ah.size+y.length):=by omega
  clear hm
  have hn0:(0:Int)≤n:=by omega
  have hn1:decide ((n:Int)<0)=false:=decide_eq_false (by omega)
  go_wp2_with fail
  refine HP.out.mono ?_
  rintro e w' ⟨rfl,rfl⟩
  go_wp2_with fail
  go_still_tail 13,(by kernel_rfl)
  repeat still_step
  still_call (HT.out _)
  repeat still_step
  refine wpStill_nil ?_
  change wpList _ _ _ _ _ w2.drew
  have H2:=hideIt (below_drewN H2.out 1)
  have Hb2:Hid (Blk w2.drew w.heap.size 136 opZ.toList):=hideIt (Hb2.out.drewN 1)
  change Hid (Below w.heap.size w w2.drew)at H2
  clear hcw
  generalize w2.drew=w3 at*
  have he0:=Hb2.out.q 0 rfl
  have hf0:w3.frozen? ⟨w.heap.size,0,none⟩=false:=Hb2.out.frozen 0
  have he1:=Hb2.out.q 1 rfl
  have hf1:w3.frozen? ⟨w.heap.size,1,none⟩=false:=Hb2.out.frozen 1
  have he2:=Hb2.out.q 2 rfl
  have hf2:w3.frozen? ⟨w.heap.size,2,none⟩=false:=Hb2.out.frozen 2
  have he3:=Hb2.out.q 3 rfl
  have hf3:w3.frozen? ⟨w.heap.size,3,none⟩=false:=Hb2.out.frozen 3
  have he4:=Hb2.out.q 4 rfl
  have hf4:w3.frozen? ⟨w.heap.size,4,none⟩=false:=Hb2.out.frozen 4
  have he5:=Hb2.out.q 5 rfl
  have hf5:w3.frozen? ⟨w.heap.size,5,none⟩=false:=Hb2.out.frozen 5
  go_wp2_with fail
  have hblk:=(Blk.set (Blk.set (Blk.set (Blk.set (Blk.set (Blk.set Hb2.out 0 (.int .u8 (r.op:Nat))) 1 (.string r.word)) 2 (.int .i8 r.takes)) 3 (.string r.pops)) 4 (.string r.pushes)) 5 (.bool r.plain))
  refine bodyPost_ret (results_ct_of rfl rfl rfl (load_row hblk)) rfl ⟨(Below.setCell (Below.setCell (Below.setCell (Below.setCell (Below.setCell (Below.setCell H2.out (p:=⟨w.heap.size,0,none⟩) (Nat.le_refl _) (.int .u8 (r.op:Nat))) (p:=⟨w.heap.size,1,none⟩) (Nat.le_refl _) (.string r.word)) (p:=⟨w.heap.size,2,none⟩) (Nat.le_refl _) (.int .i8 r.takes)) (p:=⟨w.heap.size,3,none⟩) (Nat.le_refl _) (.string r.pops)) (p:=⟨w.heap.size,4,none⟩) (Nat.le_refl _) (.string r.pushes)) (p:=⟨w.heap.size,5,none⟩) (Nat.le_refl _) (.bool r.plain)),?_⟩
  unfold ofAns
  rw [Hr.out]
  rfl
end
theorem bOf_app (a b:List UInt8):bOf a++bOf b=bOf (a++b):=by
 apply ByteArray.ext
 simp [bOf]
theorem ints_at {W:World} {lo hi:Nat} {A:Option Addr} {n c:Nat} {xs:List Int} (h:(Rd.i64.sl false).R W lo hi [.slice A n c] xs) {k:Nat} {t:Int} (hk:xs[k]?=some t): ∃b o,A=some ⟨b,o,none⟩∧lo≤b∧b<hi∧W.cell? ⟨b,o+k,none⟩=some (.int .i64 t)∧Rd.B63 t:=by
 obtain⟨b,o,e,h1,h2,cs,hc,hr⟩:=sl_at h hk
 obtain⟨rfl,hb⟩:=hr
 refine⟨b,o,e,h1,h2,?_,hb⟩
 have:=hc 0 _ rfl
 rwa [show o+k*Rd.i64.z+0=o+k from by show o+k*1+0=_;omega] at this
theorem txt_signed (x:GlobV) (w:World) (hv:x.v<18446744073709551616) (hf:x.l.toNat=119→x.v<4294967296):
 Calls prog 34 #[.agg #[.int .u8 (x.l.toNat:Int),.bool x.m,.int .u64 (x.v:Int)]] w fun e w'=>Below w.heap.size w w'∧e= .returned (.int .i64 (signB x)):=by
 by_cases h:x.l.toNat=119
 ·have hc:((x.l.toNat:Int)==119)=true:=by rw [h];rfl
  have hx:=hf h
  have HV:Hid (wrap64 (wrap32 (x.v:Int))=signB x):=hideIt (by
   unfold signB wrap64 wrap32
   simp only [h,true_and]
   (repeat' split)<;>omega)
  clear h hf hx hv
  go_enter func34,ntmps34
  go_wp2_with fail
  go_ret
  exact⟨(Below.refl _ _).alloc (Nat.le_refl _) _,by rw [HV.out];rfl⟩
 ·have hc:((x.l.toNat:Int)==119)=false:=by rw [beq_eq_false_iff_ne];omega
  have HV:Hid (wrap64 (x.v:Int)=signB x):=hideIt (by
   unfold signB wrap64
   simp only [h,false_and,if_false]
   (repeat' split)<;>omega)
  clear h hf hv
  go_enter func34,ntmps34
  go_wp2_with fail
  go_ret
  exact⟨(Below.refl _ _).alloc (Nat.le_refl _) _,by rw [HV.out];rfl⟩
theorem itoa_20 {n:Int} (h:Rd.B63 n):(Lib.itoa n).length≤21:=Lib.itoa_length_le n h.1 (by have:=h.2;omega)
def insTo (x:InsV) (k:Nat):List UInt8:= [32,32]++(wordT x.op.toNat++((if takesT x.op.toNat≠0∧takesT x.op.toNat≠3 then 32::Lib.itoa x.a else [])++(x.l.take k).flatMap fun n=>32::Lib.itoa n))
theorem insTo_next {x:InsV} {k:Nat} {n:Int} (h:x.l[k]?=some n):insTo x (k+1)=insTo x k++(32::Lib.itoa n):=by
 have hk:=(List.getElem?_eq_some_iff.1 h)
 unfold insTo
 rw [List.take_succ_eq_append_getElem hk.1,hk.2,List.flatMap_append]
 simp
theorem insTo_all (x:InsV):insTo x x.l.length= [32,32]++insT x:=by
 unfold insTo insT
 rw [List.take_length]
theorem insTo_len {x:InsV} (ha:Rd.B63 x.a) (hl: ∀n∈x.l,Rd.B63 n) (hw:(wordT x.op.toNat).length≤64): ∀k:Nat,k≤x.l.length→(insTo x k).length≤100+22*k
 | 0,_=>by
  have:=itoa_20 ha
  unfold insTo
  simp only [List.length_append,List.take_zero,List.flatMap_nil,List.length_nil,List.length_cons]
  split
  ·simp only [List.length_cons];omega
  ·simp only [List.length_nil];omega
 | k+1,hk=>by
  have ih:=insTo_len ha hl hw k (by omega)
  have he:x.l[k]?=some x.l[k]:=List.getElem?_eq_getElem hk
  have:=itoa_20 (hl _ (List.mem_of_getElem? he))
  rw [insTo_next he,List.length_append,List.length_cons]
  omega
theorem of_form (op:Nat): ∃(o:OpV) (b:Bool),ofAns op= .tuple #[.agg #[.int .u8 (o.op:Nat),.string o.word,.int .i8 o.takes,.string o.pops,.string o.pushes,.bool o.plain],.bool b]∧wordT op=o.word.data.toList∧takesT op=o.takes∧o.word.size≤64:=by
 unfold ofAns wordT takesT
 cases h:opRow op with
 | none=>exact⟨⟨0,⟨#[]⟩,0,⟨#[]⟩,⟨#[]⟩,false⟩,false,rfl,rfl,rfl,Nat.zero_le _⟩
 | some r=>exact⟨r,true,rfl,rfl,rfl,(by decide+kernel: ∀r∈opTab,r.word.size≤64) r (opRow_mem h).1⟩
def InsRel (x:InsV) (w:World) (v5 i:Value) (wr:World):Prop:= ∃k:Nat,k≤x.l.length∧i= .int .i64 k∧v5= .string (bOf (insTo x k))∧Below w.heap.size w wr
theorem txt_instruction (x:InsV) (A:Option Addr) (c hi hj:Nat) (w:World) (hx:(Rd.i64.sl false).R w 0 hi [.slice A x.l.length c] x.l) (hhi:hi≤w.heap.size) (ha:Rd.B63 x.a) (hE:EnvAt hj w) (hhj:hj≤w.heap.size) (hop:x.op.toNat<256) (hlen:x.l.length<140737488355328):
 Calls prog 36 #[.agg #[.int .u8 (x.op.toNat:Int),.int .i64 x.a,.slice A x.l.length c]] w fun e w'=>Below w.heap.size w w'∧e= .returned (.string (bOf ([32,32]++insT x))):=by
 obtain⟨o,bb,hof,hwt,htt,hws⟩:=of_form x.op.toNat
 obtain⟨T,hT⟩: ∃T,T=bOf ([32,32]++insT x):=⟨_,rfl⟩
 rw [←hT]
 have hws2:({data:= #[32,32]}:ByteArray).size+o.word.size≤9223372036854775807:=by show 2+_≤_;omega
 have HLEN:=hideIt (insTo_len ha (fun n hn=>Rd.sl_ok hx n hn) (by rw [hwt];simpa using hws))
 have HX:=hideIt hx;have HE:=hideIt hE;have HA:=hideIt ha;have HT:=hideIt hT
 have HOF:=hideIt hof;have HWT:=hideIt hwt;have HTT:=hideIt htt
 have HI0:Hid (insTo x 0= [32,32]++(o.word.data.toList++(if o.takes≠0∧o.takes≠3 then 32::Lib.itoa x.a else []))):=hideIt (by unfold insTo;rw [hwt,htt];simp)
 clear hx hE ha hof hwt htt hT
 go_enter func36,ntmps36
 go_wp2_with fail
 generalize hw1:World.alloc _ _=w1
 have hb1:Below w.heap.size w w1:=by rw [←hw1];exact(Below.refl _ _).alloc (Nat.le_refl _) _
 have hm1:Blk w1 w.heap.size 53 [.int .u8 (x.op.toNat:Int),.int .i64 x.a,.slice A x.l.length c]:=by rw [←hw1];exact Blk.new w _ _
 clear hw1
 refine(ops_of x.op.toNat w1 hop (HE.out.asc w1 (hb1.mono hhj))).mono ?_
 rintro e w2 ⟨hb2,rfl⟩
 rw [HOF.out]
 have hm2:=hm1.below hb2 hm1.lt
 have HM2:=hideIt hm2
 have HB2:=hideIt (hb1.trans (hb2.mono hb1.size))
 have hs2:w.heap.size≤w2.heap.size:=HB2.out.size
 have q0:=hm2.q 0 rfl
 have q1:=hm2.q 1 rfl
 have q2:=hm2.q 2 rfl
 clear hb1 hm1 hb2 hm2
 go_upto_region 3 with fail
 generalize hw3:World.alloc _ _=w3
 have hb3:Below w2.heap.size w2 w3:=by rw [←hw3];exact(Below.refl _ _).alloc (Nat.le_refl _) _
 have ho3:Blk w3 w2.heap.size 136 [.int .u8 (o.op:Nat),.string o.word,.int .i8 o.takes,.string o.pops,.string o.pushes,.bool o.plain]:=by rw [←hw3];exact Blk.new w2 _ _
 have HM3:=hideIt (HM2.out.below hb3 HM2.out.lt)
 have HB3:=hideIt (HB2.out.trans (hb3.mono hs2))
 have hs3:w.heap.size≤w3.heap.size:=HB3.out.size
 have q1:=HM3.out.q 1 rfl
 have q2:=HM3.out.q 2 rfl
 have r2:=ho3.q 2 rfl
 clear hw3 hb3 ho3 HM2 HB2 q0
 have h3:(∃z:Bool,((o.takes !=0)=z∧(z=true→(o.takes !=3)=false)))∧insTo x 0= [32,32]++o.word.data.toList∨((o.takes !=0)=true∧(o.takes !=3)=true)∧insTo x 0= [32,32]++(o.word.data.toList++(32::Lib.itoa x.a)):=by
  by_cases h0:o.takes=0
  ·exact .inl ⟨⟨false,by rw [h0];rfl,fun h=>by cases h⟩,by rw [HI0.out,if_neg (fun h=>h.1 h0),List.append_nil]⟩
  ·by_cases h3:o.takes=3
   ·exact .inl ⟨⟨true,bne_iff_ne.2 h0,fun _=>by rw [h3];rfl⟩,by rw [HI0.out,if_neg (fun h=>h.2 h3),List.append_nil]⟩
   ·exact .inr ⟨⟨bne_iff_ne.2 h0,bne_iff_ne.2 h3⟩,by rw [HI0.out,if_pos ⟨h0,h3⟩]⟩
 rcases h3 with⟨⟨z,hz,hz3⟩,hi0⟩ | ⟨⟨hz,hz3⟩,hi0⟩
 case' inl=>
  have HS4:Hid (({data:= #[32,32]}:ByteArray)++o.word=bOf (insTo x 0)):=hideIt (by rw [hi0,←bOf_app,bOf_of];rfl)
  have HB4:Hid (Below w.heap.size w w3):=HB3
  clear hi0
  cases z
  case' true=>have hz3:=hz3 rfl
  all_goals
   go_upto_region 5 with fail
   rw [HS4.out]
 case' inr=>
  have hit:(Lib.itoa x.a).length≤21:=itoa_20 HA.out
  have HC3:=hideIt (txt_num64 x.a HA.out w3 (HE.out.to (HB3.out.mono hhj)) (by omega))
  have hs1:({data:= #[32]}:ByteArray).size+({data:=(Lib.itoa x.a).toArray}:ByteArray).size≤9223372036854775807:=by
   show 1+(Lib.itoa x.a).toArray.size≤_
   simp;omega
  have hs5:(({data:= #[32,32]}:ByteArray)++o.word).size+(({data:= #[32]}:ByteArray)++ {data:=(Lib.itoa x.a).toArray}).size≤9223372036854775807:=by
   rw [ByteArray.size_append,ByteArray.size_append]
   show 2+_+(1+(Lib.itoa x.a).toArray.size)≤_
   simp;omega
  have HS4:Hid (({data:= #[32,32]}:ByteArray)++o.word++(({data:= #[32]}:ByteArray)++ {data:=(Lib.itoa x.a).toArray})=bOf (insTo x 0)):=hideIt (by
   rw [hi0,←bOf_app,←bOf_app,bOf_of]
   have:bOf (32::Lib.itoa x.a)=({data:= #[32]}:ByteArray)++ {data:=(Lib.itoa x.a).toArray}:=(bOf_app [32] (Lib.itoa x.a)).symm
   rw [this,ByteArray.append_assoc]
   rfl)
  clear hi0 hit
  go_wp2_with fail
  refine HC3.out.mono ?_
  rintro e w4 ⟨hb4,rfl⟩
  have HB4:Hid (Below w.heap.size w w4):=hideIt (HB3.out.trans (hb4.mono hs3))
  have q2:=(HM3.out.below hb4 HM3.out.lt).q 2 rfl
  clear HC3 hb4
  go_upto_region 5 with fail
  rw [HS4.out]
 all_goals
  clear q1 r2 hz hz3 hws2
  go_wp2_with fail
  go_loopw [5,7,34] (fun v5 v7 i wr=>InsRel x w v5 i wr) (fun _ _ i _=>x.l.length-(intOf i).toNat)
  case atStart=>exact⟨0,Nat.zero_le _,rfl,rfl,HB4.out⟩
  case round=>
   obtain⟨k,hk,rfl,rfl,hb⟩:=hrel
   have HB:=hideIt hb
   have hsb:w.heap.size≤wr.heap.size:=hb.size
   have hk0:(0:Int)≤k:=by omega
   clear hb
   by_cases hlt:k<x.l.length
   ·obtain⟨n,hn⟩: ∃n,x.l[k]?=some n:=⟨_,List.getElem?_eq_getElem hlt⟩
    have hlti:decide ((k:Int)<x.l.length)=true:=decide_eq_true (by omega)
    obtain⟨bk,ok,rfl,hbk1,hbk2,hck,hb63⟩:=ints_at (Rd.below HX.out HB.out hhi) hn
    have HC:=hideIt (txt_num n hb63 wr (HE.out.to (HB.out.mono hhj)) (by omega))
    have hnl:=itoa_20 hb63
    have hs1:({data:= #[32]}:ByteArray).size+({data:=(Lib.itoa n).toArray}:ByteArray).size≤9223372036854775807:=by
     show 1+(Lib.itoa n).toArray.size≤_
     simp;omega
    have hlenk:=HLEN.out k hk
    have hs5:(bOf (insTo x k)).size+(({data:= #[32]}:ByteArray)++ {data:=(Lib.itoa n).toArray}).size≤9223372036854775807:=by
     rw [ByteArray.size_append]
     show(insTo x k).toArray.size+(1+(Lib.itoa n).toArray.size)≤_
     simp;omega
    have HS4:Hid (bOf (insTo x k)++(({data:= #[32]}:ByteArray)++ {data:=(Lib.itoa n).toArray})=bOf (insTo x (k+1))):=hideIt (by
     rw [insTo_next hn,←bOf_app]
     exact congrArg (_++ ·) (bOf_app [32] (Lib.itoa n)))
    clear hn hb63 hnl hlenk
    go_wp2_with fail
    refine HC.out.mono ?_
    rintro e w5 ⟨hb5,rfl⟩
    have HB5:=hideIt (HB.out.trans (hb5.mono hsb))
    clear HC hb5
    go_wp2_with fail
    rw [HS4.out]
    exact⟨⟨k+1,hlt,by go_num,rfl,HB5.out⟩,by simp [intOf];omega⟩
   ·obtain rfl:k=x.l.length:=by omega
    have hlti:decide ((x.l.length:Int)<x.l.length)=false:=decide_eq_false (by omega)
    have HS:Hid (bOf (insTo x x.l.length)=T):=hideIt (by rw [HT.out,insTo_all])
    go_wp2_with fail
    rw [HS.out]
    go_ret
    exact⟨HB.out,rfl⟩
theorem lineT_len (ws:List ByteArray):(⟨(Lib.join (ws.map (·.data.toList)) [32]).toArray⟩:ByteArray)++(⟨#[10]⟩:ByteArray)=bOf (lineT (ws.map (·.data.toList))):=by
 unfold lineT
 exact bOf_app _ [10]
theorem prt_line (B b:Nat) (l:List UInt8) (ws:List ByteArray) (n g o c:Nat) (w:World) (hn:ws.length=n) (h:BldAt B b w l) (hB:B≤w.heap.size) (hcells: ∀(j:Nat) x,ws[j]?=some x→w.cell? ⟨g,o+j,none⟩=some (.string x)) (hg:g<w.heap.size) (hc:n≤c) (hlen:l.length+(lineT (ws.map (·.data.toList))).length≤140737488355328) (hw:ws.length≤1000):
 Calls prog 28 #[.slice (some ⟨g,o,none⟩) n c,.pointer (some ⟨b,0,none⟩)] w fun e w'=>e= .returned (.tuple #[])∧BldAt B b w' (l++lineT (ws.map (·.data.toList)))∧Below B w w'∧KeptU b w w':=by
 have hjl:(Lib.join (ws.map (·.data.toList)) [32]).length+1=(lineT (ws.map (·.data.toList))).length:=by unfold lineT;rw [List.length_append];rfl
 have HJ:=hideIt (strings_Join g o c ws ⟨#[32]⟩ w hcells hg (by omega) (by omega) (by show(Lib.join _ [32]).length≤_;omega))
 rw [hn] at HJ
 have hs1:(⟨(Lib.join (ws.map (·.data.toList)) [32]).toArray⟩:ByteArray).size+(⟨#[10]⟩:ByteArray).size≤9223372036854775807:=by
  show(Lib.join (ws.map (·.data.toList)) [32]).toArray.size+1≤_
  simp only [List.size_toArray];omega
 have HL:=hideIt (lineT_len ws)
 have H:=hideIt h
 obtain⟨T,hT⟩: ∃T,T=lineT (ws.map (·.data.toList)):=⟨_,rfl⟩
 have HT:=hideIt hT
 have hT2:l.length+T.length≤140737488355328:=by rw [hT];exact hlen
 rw [←hT]
 clear hcells h hlen hjl hT
 go_enter func28,ntmps28
 go_wp2_with fail
 refine HJ.out.mono ?_
 rintro e w1 ⟨rfl,hb1⟩
 have HB1:=hideIt hb1
 have hs1':=hb1.size
 clear HJ hb1
 go_wp2_with fail
 rw [HL.out,←HT.out]
 have hTs:(bOf T).size=T.length:=by show T.toArray.size=_;simp
 have hTd:(bOf T).data.toList=T:=by simp [bOf]
 have HW:=hideIt (bld_WriteString B b l (bOf T) w1 (H.out.below HB1.out) (by omega) (by omega))
 rw [hTd] at HW
 refine HW.out.mono ?_
 rintro e w2 ⟨rfl,hA,hBw,hK⟩
 have HA:=hideIt hA;have HBW:=hideIt hBw;have HK:=hideIt hK
 clear HW hA hBw hK
 go_wp2_with fail
 go_end0
 exact⟨rfl,HA.out,(HB1.out.mono hB).trans HBW.out,HK.out.below HB1.out⟩
theorem sl_cap {α:Type} {r:Rd α} {sp:Bool} {W:World} {lo hi:Nat} {A:Option Addr} {n c:Nat} {xs:List α} (h:(r.sl sp).R W lo hi [.slice A n c] xs):n≤c:=by
 obtain⟨A',c',he,hs,_⟩:=h
 injection he with he _
 injection he with h1 h2 h3
 have:=hs.2
 omega
theorem sl_take {α:Type} {r:Rd α} {W:World} {lo hi:Nat} {A:Option Addr} {n c:Nat} {xs:List α} (h:(r.sl false).R W lo hi [.slice A n c] xs) {k:Nat} (hk:k≤n):(r.sl false).R W lo hi [.slice A k c] (xs.take k):=by
 have hc:=sl_cap h
 have hn:=sl_len h
 obtain⟨A',c',he,hs,hx⟩:=h
 injection he with he _
 injection he with h1 h2 h3
 subst h1 h2 h3
 have hl:(xs.take k).length=k:=by rw [List.length_take];omega
 refine⟨A,c,by rw [hl],⟨fun h=>(by cases h),by rw [hl];omega⟩,fun h0=> ?_⟩
 obtain⟨b,o,e,b1,b2,hx⟩:=hx (by omega)
 refine⟨b,o,e,b1,b2,fun j x hj=>hx j x ?_⟩
 rw [List.getElem?_take] at hj
 split at hj
 ·exact hj
 ·cases hj
end Go.Proofs.YtebgikflpgcnlaaGreatDoor
