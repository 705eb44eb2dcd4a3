/- Part 25 of the proof: Par1 TxtB Ruls RdrP RdrC -/
import Derived.Defers
import Derived.Recover
import Derived.WideMake
import Derived.Deep.RegionHeld3
import Derived.Deep.RegionHeldLaw
import Derived.Test.YtebgikflpgcnlaaGreatDoorT08
namespace Go.Proofs.YtebgikflpgcnlaaGreatDoor
set_option linter.unusedVariables false
set_option linter.unusedSimpArgs false
set_option maxRecDepth 100000
set_option maxHeartbeats 4000000
open Go.RowKit Tryz
def modZ:List Value:= [.slice none 0 0,.slice none 0 0,.slice none 0 0,.int .i64 0,.int .i64 0,.slice none 0 0,.slice none 0 0,.slice none 0 0]
theorem prs_idle (pr pm pe pa:Addr) (w:World):
 CallsD prog 56 #[.pointer (some pr),.pointer (some pm),.pointer (some pe),.pointer (some pa)] .returning w fun e u' w'=>e= .returned (.tuple #[])∧u'= .returning∧w'=w:=by
 refine callsD_of_wpS func56 rfl fun c₀ cs hu=> ?_
 apply wpS_seq
 apply wpS_region
 simp [wpOpsS,go_sem,recoverD,hu,ntmps56,Exit.thenS,Array.replicate]
 have Hu:=hideIt hu;clear hu
 refine wpS_of_wp ?_
 go_wp2_with fail
 simp [bodyPostS,results,results56,←Hu.out]
theorem assert_wrongT (W:World):(Instr.typeAssert (.iface 106 (.agg #[])) 20 106 true).run prog W= .ok (.tuple #[.agg #[],.bool true]) W:=by kernel_rfl
theorem prs_fault (gr gm ge ga b:Nat) (e0 a0 ln:Int) (c0 c1 c2 c3 c4 c5 c6 c7:Value) (w:World) (hr:Blk w gr 102 [.pointer (some ⟨b,0,none⟩)]) (hm:Blk w gm 29 [c0,c1,c2,c3,c4,c5,c6,c7]) (he:Blk w ge 33 [.int .i64 e0]) (ha:Blk w ga 3 [.int .i64 a0])
 (h1:gm≠ge) (h2:gm≠ga) (h3:ge≠ga) (hl:w.cell? ⟨b,9,none⟩=some (.int .i64 ln)) (hb1:b≠gm) (hb2:b≠ge) (hb3:b≠ga) (hbl:b<w.heap.size) (hg1:gr≠gm):
 CallsD prog 56 #[.pointer (some ⟨gr,0,none⟩),.pointer (some ⟨gm,0,none⟩),.pointer (some ⟨ge,0,none⟩),.pointer (some ⟨ga,0,none⟩)] (.panicking wrongP) w fun e u' w'=>
  e= .returned (.tuple #[])∧u'= .panicking [{v:= .iface 106 (.agg #[]),recovered:=true}]∧Keep (fun k=>k≠gm∧k≠ge∧k≠ga) w w'∧Blk w' gm 29 modZ∧Blk w' ge 33 [.int .i64 22]∧Blk w' ga 3 [.int .i64 ln]:=by
 refine callsD_of_wpS func56 rfl fun c₀ cs hu=> ?_
 apply wpS_seq
 apply wpS_region
 simp [wpOpsS,go_sem,recoverD,hu,ntmps56,Exit.thenS,wrongP,Array.replicate]
 have Hu:=hideIt hu;clear hu
 refine wpS_of_wp ?_
 have HM:=hideIt hm;have HE:=hideIt he;have HA:=hideIt ha
 have hgm:=hm.lt
 have hge:=he.lt
 have hga:=ha.lt
 have hgr:=hr.lt
 have q0:=hr.q 0 rfl
 have m0:=hm.q 0 rfl
 have m1:=hm.q 1 rfl
 have m2:=hm.q 2 rfl
 have m3:=hm.q 3 rfl
 have m4:=hm.q 4 rfl
 have m5:=hm.q 5 rfl
 have m6:=hm.q 6 rfl
 have m7:=hm.q 7 rfl
 have n0:=hm.frozen 0
 have n1:=hm.frozen 1
 have n2:=hm.frozen 2
 have n3:=hm.frozen 3
 have n4:=hm.frozen 4
 have n5:=hm.frozen 5
 have n6:=hm.frozen 6
 have n7:=hm.frozen 7
 have q1:=he.q 0 rfl
 have q2:=ha.q 0 rfl
 have f1:=he.frozen 0
 have f2:=ha.frozen 0
 clear hm he ha hr
 have has:=assert_wrongT
 go_wp2_with fail
 refine⟨rfl,_,rfl,.tuple #[],?_,rfl,rfl,(((((((((((Keep.refl _ w).setCell (p:=⟨gm,0,none⟩) (by simp) (.slice none 0 0)).setCell (p:=⟨gm,1,none⟩) (by simp) (.slice none 0 0)).setCell (p:=⟨gm,2,none⟩) (by simp) (.slice none 0 0)).setCell (p:=⟨gm,3,none⟩) (by simp) (.int .i64 0)).setCell (p:=⟨gm,4,none⟩) (by simp) (.int .i64 0)).setCell (p:=⟨gm,5,none⟩) (by simp) (.slice none 0 0)).setCell (p:=⟨gm,6,none⟩) (by simp) (.slice none 0 0)).setCell (p:=⟨gm,7,none⟩) (by simp) (.slice none 0 0)).setCell (p:=⟨ge,0,none⟩) (by simp) (.int .i64 22)).setCell (p:=⟨ga,0,none⟩) (by simp) (.int .i64 ln)).alloc _,((((((((((HM.out.set 0 (.slice none 0 0)).set 1 (.slice none 0 0)).set 2 (.slice none 0 0)).set 3 (.int .i64 0)).set 4 (.int .i64 0)).set 5 (.slice none 0 0)).set 6 (.slice none 0 0)).set 7 (.slice none 0 0)).far (p:=⟨ge,0,none⟩) h1 _).far (p:=⟨ga,0,none⟩) h2 _).alloc _,((((((((((HE.out.far (p:=⟨gm,0,none⟩) (Ne.symm h1) (.slice none 0 0)).far (p:=⟨gm,1,none⟩) (Ne.symm h1) (.slice none 0 0)).far (p:=⟨gm,2,none⟩) (Ne.symm h1) (.slice none 0 0)).far (p:=⟨gm,3,none⟩) (Ne.symm h1) (.int .i64 0)).far (p:=⟨gm,4,none⟩) (Ne.symm h1) (.int .i64 0)).far (p:=⟨gm,5,none⟩) (Ne.symm h1) (.slice none 0 0)).far (p:=⟨gm,6,none⟩) (Ne.symm h1) (.slice none 0 0)).far (p:=⟨gm,7,none⟩) (Ne.symm h1) (.slice none 0 0)).set 0 (.int .i64 22)).far (p:=⟨ga,0,none⟩) h3 _).alloc _,((((((((((HA.out.far (p:=⟨gm,0,none⟩) (Ne.symm h2) (.slice none 0 0)).far (p:=⟨gm,1,none⟩) (Ne.symm h2) (.slice none 0 0)).far (p:=⟨gm,2,none⟩) (Ne.symm h2) (.slice none 0 0)).far (p:=⟨gm,3,none⟩) (Ne.symm h2) (.int .i64 0)).far (p:=⟨gm,4,none⟩) (Ne.symm h2) (.int .i64 0)).far (p:=⟨gm,5,none⟩) (Ne.symm h2) (.slice none 0 0)).far (p:=⟨gm,6,none⟩) (Ne.symm h2) (.slice none 0 0)).far (p:=⟨gm,7,none⟩) (Ne.symm h2) (.slice none 0 0)).far (p:=⟨ge,0,none⟩) (Ne.symm h3) _).set 0 (.int .i64 ln)).alloc _⟩
 simp [results,results56]
theorem below_bytesW (w:World) (e:TypeId) (t:ByteArray):Below w.heap.size w (Lib.bytesWorld w e t):=
 ⟨rfl,rfl,rfl,by rw [Lib.bytesWorld_size];omega,fun k hk=>Lib.bytesWorld_at_old w e t k hk⟩
theorem parse_ways (l:List UInt8):(∃v,Lib.parseIntB 64 l= .ok v)∨Lib.parseIntB 64 l= .range∨Lib.parseIntB 64 l=Lib.parseIntB 64 []:=by
 cases Lib.parseIntB 64 l
 all_goals first | exact .inl ⟨_,rfl⟩ | exact .inr (.inl rfl) | exact .inr (.inr rfl)
theorem no_ok (v:Int):Lib.parseIntB 64 []≠ .ok v:=fun e=>by cases e
def NumPost (s:ByteArray) (w:World) (e:Ending) (w':World):Prop:=
 Below w.heap.size w w'∧((numW s=none∧e= .panicked wrongP)∨ ∃n,numW s=some n∧Rd.B63 n∧e= .returned (.int .i64 n))
theorem txt_number (s:ByteArray) (hs:s.size≤281474976710656) {hi:Nat} (w:World) (hE:EnvAt hi w) (hhi:hi≤w.heap.size):
 Calls prog 142 #[.string s] w (NumPost s w):=by
 rcases parse_ways s.data.toList with⟨v,hp⟩ | hp | hp
 case inl=>
  obtain⟨hv,hk⟩:=num_ok hp
  have HF:=hideIt (strconv_ParseInt_10_at64_ok s (by omega) v hp w)
  have HV:Hid (Rd.B63 v):=hideIt ⟨hv.1,by omega⟩
  have HE:=hideIt hE;have HHI:=hideIt hhi;have HK:=hideIt hk
  clear hE hhi hk hv hp hs
  go_enter func142,ntmps142
  go_wp2_with fail
  refine HF.out.mono ?_
  rintro e w1 ⟨rfl,hw1⟩
  have hb1:Below w.heap.size w w1:=by
   rcases hw1 with rfl | ⟨t,rfl⟩
   ·exact Below.refl _ _
   ·exact below_bytesW _ _ _
  have HB1:=hideIt hb1
  clear hw1 HF hb1
  go_wp2_with fail
  refine(txt_num64 v HV.out w1 (HE.out.up HB1.out HHI.out) (Nat.le_trans HHI.out HB1.out.size)).mono ?_
  rintro e w2 ⟨hb2,rfl⟩
  have HB2:=hideIt (HB1.out.trans (hb2.mono HB1.out.size))
  clear hb2
  rcases HK.out with⟨h1,h2⟩ | ⟨h1,h2⟩
  ·have hq:(Lib.itoa v==s.toList)=true:=by
    rw [ByteArray.toList_eq];simpa using h1
   have H2:=hideIt h2
   clear h1 h2 HK
   go_wp2_with fail
   refine(txt_must_yes _).mono ?_
   rintro e w3 ⟨rfl,rfl⟩
   go_wp2_with fail
   go_ret
   exact⟨HB2.out,.inr ⟨v,H2.out,HV.out,rfl⟩⟩
  ·have hq:(Lib.itoa v==s.toList)=false:=by
    rw [ByteArray.toList_eq];simpa using h1
   have H2:=hideIt h2
   clear h1 h2 HK
   go_wp2_with fail
   refine(txt_must_no _).mono ?_
   rintro e w3 ⟨rfl,rfl⟩
   go_wp2_with fail
   exact⟨rfl,HB2.out,.inl ⟨H2.out,rfl⟩⟩
 case inr.inr=>
  have HN:Hid (numW s=none):=hideIt (num_bad (fun v h=>no_ok v (hp.symm.trans h)))
  obtain⟨tp,p,hvar⟩:=hE.syn w (Below.refl _ _)
  have HF:=hideIt (strconv_ParseInt_10_at64_syntax_var s hs hp tp p w hvar)
  clear hE hhi hp hs hvar
  go_enter func142,ntmps142
  go_wp2_with fail
  refine HF.out.mono ?_
  rintro e w1 ⟨N,rfl,_,_,hb1⟩
  have HB1:=hideIt hb1
  clear HF hb1
  go_wp2_with fail
  refine(txt_must_no _).mono ?_
  rintro e w3 ⟨rfl,rfl⟩
  go_wp2_with fail
  exact⟨rfl,HB1.out,.inl ⟨HN.out,rfl⟩⟩
 case inr.inl=>
  have HN:Hid (numW s=none):=hideIt (num_bad (fun v h=>by rw [hp] at h;cases h))
  obtain⟨tp,p,hvar⟩:=hE.rng w (Below.refl _ _)
  have HF:=hideIt (strconv_ParseInt_10_at64_range_var s hs hp tp p w hvar)
  clear hE hhi hp hs hvar
  go_enter func142,ntmps142
  go_wp2_with fail
  refine HF.out.mono ?_
  rintro e w1 ⟨N,rfl,_,_,hb1⟩
  have HB1:=hideIt hb1
  clear HF hb1
  go_wp2_with fail
  refine(txt_must_no _).mono ?_
  rintro e w3 ⟨rfl,rfl⟩
  go_wp2_with fail
  exact⟨rfl,HB1.out,.inl ⟨HN.out,rfl⟩⟩
theorem txt_words (s:ByteArray) (hs:s.size≤4294967296) (w:World):
 Calls prog 97 #[.string s] w fun e w'=> ∃A,e= .returned (.slice (some ⟨A,0,none⟩) (wdsV s).length (wdsV s).length)∧w.heap.size≤A∧
  w'.ownsRow w.heap.size 9 1 (.slice (some ⟨A,0,none⟩) (wdsV s).length (wdsV s).length) (wdsV s).length ((wdsV s).map Value.string)∧Below w.heap.size w w':=by
 have HF:=hideIt (strings_FieldsFunc_runes 148 #[] (enters_of func148 (by kernel_rfl) rfl) blankR s w hs (words_pred w))
 go_enter func97,ntmps97
 go_wp2_with fail
 refine HF.out.mono ?_
 rintro e w1 ⟨A,rfl,hA,ho,hb⟩
 have HA:=hideIt hA;have HO:=hideIt ho;have HB:=hideIt hb
 clear hA ho hb HF
 go_wp2_with fail
 go_ret
 exact⟨A,rfl,HA.out,HO.out,HB.out⟩
theorem set_push {α:Type} (xs:Array α) (a b:α):(xs.push a).setIfInBounds xs.size b=xs.push b:=by
 apply Array.toList_inj.1
 simp [Array.toList_setIfInBounds,List.set_append]
theorem run_ins {P:Program} (mty kt et:TypeId) (w:World) (es:Array MapEntry) (clock:Nat) (s:ByteArray) (val:Value) (hm:P.underlying mty=some (.map kt et)) (hk:P.underlying kt=some .string)
 (hf:Instr.findNow .string (.string s) es.toList 0=some none):
 (Instr.mapUpdate mty (.map (some w.heap.size)) (.string s) val).run P (w.alloc (.map es clock))= .ok () (w.alloc (.map (es.push {key:= .string s,val:=val,born:=clock}) (clock+1))):=by
 have hb:(w.alloc (.map es clock)).heap[w.heap.size]?=some (.map es clock):=Array.getElem?_push_size
 have hc:(Instr.checkKey false 10000 kt (.string s)).run P (w.alloc (.map es clock))= .ok () (w.alloc (.map es clock)):=MapKept.run_checkKey (k:= .string s) hk (by simp [MapKept.IsKey]) false 9999
 have h1:(Instr.mapUpdate mty (.map (some w.heap.size)) (.string s) val).run P (w.alloc (.map es clock))= .ok () {(w.alloc (.map es clock))with heap:=(w.alloc (.map es clock)).heap.setIfInBounds w.heap.size (.map (es.push {key:= .string s,val:=val,born:=clock}) (clock+1))}:=by
  generalize w.alloc (.map es clock)=W at*
  simp [Instr.mapUpdate,run_underlying hm,MapKept.run_getObj_map hb,hc,MapKept.run_findKey hk hf,MapKept.run_setObj_map _ hb,Result.andThen]
 rw [h1]
 have h2:(w.alloc (.map es clock)).heap.setIfInBounds w.heap.size (.map (es.push {key:= .string s,val:=val,born:=clock}) (clock+1))=w.heap.push (.map (es.push {key:= .string s,val:=val,born:=clock}) (clock+1)):=by
  exact set_push _ _ _
 rw [h2]
 rfl
def ruleV (k f:Nat):Value:= .agg #[.int .i64 k,.func (.func f) #[] #[]]
def ruleF:List Nat:= [88,89,90,91,92,93,94,95]
def ruleEs:Array MapEntry:= #[⟨.string flagonW,ruleV 1 88,0⟩,⟨.string typeW,ruleV 2 89,1⟩,⟨.string externW,ruleV 3 90,2⟩,⟨.string globalW,ruleV 4 91,3⟩,
 ⟨.string memoryW,ruleV 5 92,4⟩,⟨.string funcW,ruleV 6 93,5⟩,⟨.string dataW,ruleV 7 94,6⟩,⟨.string exportW,ruleV 8 95,7⟩]
def ruleE (k:Nat):Array MapEntry:=ruleEs.extract 0 k
theorem txt_rules (w:World):Calls prog 57 #[] w fun e w'=>e= .returned (.map (some w.heap.size))∧w'=w.alloc (.map ruleEs 8):=by
 have hm0:(Instr.makeMap 108 none).run prog w= .ok (.map (some w.heap.size)) (w.alloc (.map (ruleE 0) 0)):=run_makeMap_plain w _
 have hm1:(Instr.mapUpdate 108 (.map (some w.heap.size)) (.string ⟨#[102,108,97,103,111,110]⟩) (.agg #[.int .i64 1,.func (.func 88) #[] #[]])).run prog (w.alloc (.map (ruleE 0) 0))= .ok () (w.alloc (.map (ruleE 1) 1)):=
  (run_ins (P:=prog) 108 9 148 w (ruleE 0) 0 _ _ underlying108 underlying9 (by kernel_rfl)).trans (by kernel_rfl)
 have hm2:(Instr.mapUpdate 108 (.map (some w.heap.size)) (.string ⟨#[116,121,112,101]⟩) (.agg #[.int .i64 2,.func (.func 89) #[] #[]])).run prog (w.alloc (.map (ruleE 1) 1))= .ok () (w.alloc (.map (ruleE 2) 2)):=
  (run_ins (P:=prog) 108 9 148 w (ruleE 1) 1 _ _ underlying108 underlying9 (by kernel_rfl)).trans (by kernel_rfl)
 have hm3:(Instr.mapUpdate 108 (.map (some w.heap.size)) (.string ⟨#[101,120,116,101,114,110]⟩) (.agg #[.int .i64 3,.func (.func 90) #[] #[]])).run prog (w.alloc (.map (ruleE 2) 2))= .ok () (w.alloc (.map (ruleE 3) 3)):=
  (run_ins (P:=prog) 108 9 148 w (ruleE 2) 2 _ _ underlying108 underlying9 (by kernel_rfl)).trans (by kernel_rfl)
 have hm4:(Instr.mapUpdate 108 (.map (some w.heap.size)) (.string ⟨#[103,108,111,98,97,108]⟩) (.agg #[.int .i64 4,.func (.func 91) #[] #[]])).run prog (w.alloc (.map (ruleE 3) 3))= .ok () (w.alloc (.map (ruleE 4) 4)):=
  (run_ins (P:=prog) 108 9 148 w (ruleE 3) 3 _ _ underlying108 underlying9 (by kernel_rfl)).trans (by kernel_rfl)
 have hm5:(Instr.mapUpdate 108 (.map (some w.heap.size)) (.string ⟨#[109,101,109,111,114,121]⟩) (.agg #[.int .i64 5,.func (.func 92) #[] #[]])).run prog (w.alloc (.map (ruleE 4) 4))= .ok () (w.alloc (.map (ruleE 5) 5)):=
  (run_ins (P:=prog) 108 9 148 w (ruleE 4) 4 _ _ underlying108 underlying9 (by kernel_rfl)).trans (by kernel_rfl)
 have hm6:(Instr.mapUpdate 108 (.map (some w.heap.size)) (.string ⟨#[102,117,110,99]⟩) (.agg #[.int .i64 6,.func (.func 93) #[] #[]])).run prog (w.alloc (.map (ruleE 5) 5))= .ok () (w.alloc (.map (ruleE 6) 6)):=
  (run_ins (P:=prog) 108 9 148 w (ruleE 5) 5 _ _ underlying108 underlying9 (by kernel_rfl)).trans (by kernel_rfl)
 have hm7:(Instr.mapUpdate 108 (.map (some w.heap.size)) (.string ⟨#[100,97,116,97]⟩) (.agg #[.int .i64 7,.func (.func 94) #[] #[]])).run prog (w.alloc (.map (ruleE 6) 6))= .ok () (w.alloc (.map (ruleE 7) 7)):=
  (run_ins (P:=prog) 108 9 148 w (ruleE 6) 6 _ _ underlying108 underlying9 (by kernel_rfl)).trans (by kernel_rfl)
 have hm8:(Instr.mapUpdate 108 (.map (some w.heap.size)) (.string ⟨#[101,120,112,111,114,116]⟩) (.agg #[.int .i64 8,.func (.func 95) #[] #[]])).run prog (w.alloc (.map (ruleE 7) 7))= .ok () (w.alloc (.map (ruleE 8) 8)):=
  (run_ins (P:=prog) 108 9 148 w (ruleE 7) 7 _ _ underlying108 underlying9 (by kernel_rfl)).trans (by kernel_rfl)
 have hfin:w.alloc (.map (ruleE 8) 8)=w.alloc (.map ruleEs 8):=by kernel_rfl
 go_enter func57,ntmps57
 go_wp2_with fail
 go_ret
 exact⟨rfl,hfin⟩
def MEnd (Inv:World→ModV→Prop) (B b:Nat) (w:World) (res:Option ModV) (e:Ending) (w':World):Prop:=
 (res=none∧e= .panicked wrongP∧Below w.heap.size w w')∨ ∃m',res=some m'∧e= .returned (.tuple #[])∧Keep (fun k=>k<B∧k≠b) w w'∧Inv w' m'
theorem push_keep {b:Nat} {w w3 w4:World} {v:Value} (hb:Below w.heap.size w w3) (hg:w3.grownBy w4 v.ownBlock) (p:Nat) (u:Value):Keep (fun k=>k≠b∧v.ownBlock≠some k) w (w4.setCell ⟨b,p,none⟩ u):=
 ((Keep.of_all hb |>.mono (K':=fun k=>(k≠b∧v.ownBlock≠some k)∧k<w.heap.size) (fun k h=>h.2) |>.mono0 (fun k hk h=>⟨h,hk⟩)).grown hg (fun k hk h=>h.2 hk)).setCell (p:=⟨b,p,none⟩) (fun h=>h.1 rfl) u
section
variable {B b:Nat} {w w3 w4:World} {col:Nat→Nat} {v1 v2 v3 v6 v7 v8:Value} {m:ModV} {st ln:Nat}
theorem RdC.push1 {A:Option Addr} {c:Nat} {cells:List Value} (h:RdC B b w col (.slice A m.types.length c) v2 v3 v6 v7 v8 m st ln) (hP:PrtC rSig 51 B (fun k=>col k=1) w A m.types.length c cells m.types)
 (hb:Below w.heap.size w w3) {A':Option Addr} {c' lo hi:Nat} {cs:List Value} {x:SigV} (hr:rSig.R w3 lo hi cs x) (hlo:w.heap.size≤lo) (hhi:hi≤w3.heap.size)
 (ho:w4.ownsRow B 51 rSig.z (.slice A' (m.types.length+1) c') (m.types.length+1) (cells++cs)) (hg:w3.grownBy w4 (Value.slice A m.types.length c).ownBlock) (hat:(Value.slice A' (m.types.length+1) c').ownBlock=(Value.slice A m.types.length c).ownBlock∨(Value.slice A' (m.types.length+1) c').ownBlock=some w3.heap.size):
 Keep (fun k=>k<B∧k≠b) w (w4.setCell ⟨b,0,none⟩ (.slice A' (m.types.length+1) c'))∧RdM B b (w4.setCell ⟨b,0,none⟩ (.slice A' (m.types.length+1) c')) {m with types:=m.types++ [x]} st ln:=by
 have hK:=push_keep (b:=b) hb hg 0 (.slice A' (m.types.length+1) c')
 have hB:=h.top
 have hown:=hP.lt
 have hlow:=h.low
 refine⟨hK.mono fun k hk=>⟨hk.2,fun e=>by have:=(hown k e).1;omega⟩,?_⟩
 have hsn:=hP.snoc hb hB hr hlo hhi ho hg hat (S':=fun k=>colU w col 1 k=1) (fun k hk e=>colU_old hk e) (fun k hk=>colU_new hk)
 have h5:Keep (fun k=>k≠b) w4 (w4.setCell ⟨b,0,none⟩ (.slice A' (m.types.length+1) c')):=(Keep.refl _ w4).setCell (p:=⟨b,0,none⟩) (fun e=>e rfl) _
 have hl:(m.types++ [x]).length=m.types.length+1:=by rw [List.length_append];rfl
 have hPrt:Prt rSig 51 B (fun k=>colU w col 1 k=1) (w4.setCell ⟨b,0,none⟩ (.slice A' (m.types.length+1) c')) (.slice A' (m.types.length+1) c') (m.types++ [x]):=
  ⟨A',c',_,by rw [hl],by rw [hl];exact hsn.keep h5 (fun k hk _ _=>by omega) (fun k _ e=>e)⟩
 have hsix:=h.six.put1 hK (fun k hBk hk h1 _=>⟨by omega,fun e=>h1 (hP.at_ k e)⟩) hPrt
 have hbl:Blk w4 b 104 [.slice A m.types.length c,v2,v3,.int .i64 m.first,.int .i64 m.most,v6,v7,v8,.int .i64 st,.int .i64 ln]:=(hg.block b (Nat.lt_of_lt_of_le h.blk.lt hb.size) (fun e=>by have:=(hown b e.symm).1;omega)).trans (h.blk.below hb h.blk.lt)
 exact⟨_,_,v2,v3,v6,v7,v8,hbl.set 0 _,hsix,hlow,Nat.le_trans hB hK.size,h.first,h.most⟩
theorem RdC.push2 {A:Option Addr} {c:Nat} {cells:List Value} (h:RdC B b w col v1 (.slice A m.hosts.length c) v3 v6 v7 v8 m st ln) (hP:PrtC Rd.i64 3 B (fun k=>col k=2) w A m.hosts.length c cells m.hosts)
 (hb:Below w.heap.size w w3) {A':Option Addr} {c' lo hi:Nat} {cs:List Value} {x:Int} (hr:Rd.i64.R w3 lo hi cs x) (hlo:w.heap.size≤lo) (hhi:hi≤w3.heap.size)
 (ho:w4.ownsRow B 3 Rd.i64.z (.slice A' (m.hosts.length+1) c') (m.hosts.length+1) (cells++cs)) (hg:w3.grownBy w4 (Value.slice A m.hosts.length c).ownBlock) (hat:(Value.slice A' (m.hosts.length+1) c').ownBlock=(Value.slice A m.hosts.length c).ownBlock∨(Value.slice A' (m.hosts.length+1) c').ownBlock=some w3.heap.size):
 Keep (fun k=>k<B∧k≠b) w (w4.setCell ⟨b,1,none⟩ (.slice A' (m.hosts.length+1) c'))∧RdM B b (w4.setCell ⟨b,1,none⟩ (.slice A' (m.hosts.length+1) c')) {m with hosts:=m.hosts++ [x]} st ln:=by
 have hK:=push_keep (b:=b) hb hg 1 (.slice A' (m.hosts.length+1) c')
 have hB:=h.top
 have hown:=hP.lt
 have hlow:=h.low
 refine⟨hK.mono fun k hk=>⟨hk.2,fun e=>by have:=(hown k e).1;omega⟩,?_⟩
 have hsn:=hP.snoc hb hB hr hlo hhi ho hg hat (S':=fun k=>colU w col 2 k=2) (fun k hk e=>colU_old hk e) (fun k hk=>colU_new hk)
 have h5:Keep (fun k=>k≠b) w4 (w4.setCell ⟨b,1,none⟩ (.slice A' (m.hosts.length+1) c')):=(Keep.refl _ w4).setCell (p:=⟨b,1,none⟩) (fun e=>e rfl) _
 have hl:(m.hosts++ [x]).length=m.hosts.length+1:=by rw [List.length_append];rfl
 have hPrt:Prt Rd.i64 3 B (fun k=>colU w col 2 k=2) (w4.setCell ⟨b,1,none⟩ (.slice A' (m.hosts.length+1) c')) (.slice A' (m.hosts.length+1) c') (m.hosts++ [x]):=
  ⟨A',c',_,by rw [hl],by rw [hl];exact hsn.keep h5 (fun k hk _ _=>by omega) (fun k _ e=>e)⟩
 have hsix:=h.six.put2 hK (fun k hBk hk h1 _=>⟨by omega,fun e=>h1 (hP.at_ k e)⟩) hPrt
 have hbl:Blk w4 b 104 [v1,.slice A m.hosts.length c,v3,.int .i64 m.first,.int .i64 m.most,v6,v7,v8,.int .i64 st,.int .i64 ln]:=(hg.block b (Nat.lt_of_lt_of_le h.blk.lt hb.size) (fun e=>by have:=(hown b e.symm).1;omega)).trans (h.blk.below hb h.blk.lt)
 exact⟨_,v1,_,v3,v6,v7,v8,hbl.set 1 _,hsix,hlow,Nat.le_trans hB hK.size,h.first,h.most⟩
theorem RdC.push3 {A:Option Addr} {c:Nat} {cells:List Value} (h:RdC B b w col v1 v2 (.slice A m.globs.length c) v6 v7 v8 m st ln) (hP:PrtC rGlob 82 B (fun k=>col k=3) w A m.globs.length c cells m.globs)
 (hb:Below w.heap.size w w3) {A':Option Addr} {c' lo hi:Nat} {cs:List Value} {x:GlobV} (hr:rGlob.R w3 lo hi cs x) (hlo:w.heap.size≤lo) (hhi:hi≤w3.heap.size)
 (ho:w4.ownsRow B 82 rGlob.z (.slice A' (m.globs.length+1) c') (m.globs.length+1) (cells++cs)) (hg:w3.grownBy w4 (Value.slice A m.globs.length c).ownBlock) (hat:(Value.slice A' (m.globs.length+1) c').ownBlock=(Value.slice A m.globs.length c).ownBlock∨(Value.slice A' (m.globs.length+1) c').ownBlock=some w3.heap.size):
 Keep (fun k=>k<B∧k≠b) w (w4.setCell ⟨b,2,none⟩ (.slice A' (m.globs.length+1) c'))∧RdM B b (w4.setCell ⟨b,2,none⟩ (.slice A' (m.globs.length+1) c')) {m with globs:=m.globs++ [x]} st ln:=by
 have hK:=push_keep (b:=b) hb hg 2 (.slice A' (m.globs.length+1) c')
 have hB:=h.top
 have hown:=hP.lt
 have hlow:=h.low
 refine⟨hK.mono fun k hk=>⟨hk.2,fun e=>by have:=(hown k e).1;omega⟩,?_⟩
 have hsn:=hP.snoc hb hB hr hlo hhi ho hg hat (S':=fun k=>colU w col 3 k=3) (fun k hk e=>colU_old hk e) (fun k hk=>colU_new hk)
 have h5:Keep (fun k=>k≠b) w4 (w4.setCell ⟨b,2,none⟩ (.slice A' (m.globs.length+1) c')):=(Keep.refl _ w4).setCell (p:=⟨b,2,none⟩) (fun e=>e rfl) _
 have hl:(m.globs++ [x]).length=m.globs.length+1:=by rw [List.length_append];rfl
 have hPrt:Prt rGlob 82 B (fun k=>colU w col 3 k=3) (w4.setCell ⟨b,2,none⟩ (.slice A' (m.globs.length+1) c')) (.slice A' (m.globs.length+1) c') (m.globs++ [x]):=
  ⟨A',c',_,by rw [hl],by rw [hl];exact hsn.keep h5 (fun k hk _ _=>by omega) (fun k _ e=>e)⟩
 have hsix:=h.six.put3 hK (fun k hBk hk h1 _=>⟨by omega,fun e=>h1 (hP.at_ k e)⟩) hPrt
 have hbl:Blk w4 b 104 [v1,v2,.slice A m.globs.length c,.int .i64 m.first,.int .i64 m.most,v6,v7,v8,.int .i64 st,.int .i64 ln]:=(hg.block b (Nat.lt_of_lt_of_le h.blk.lt hb.size) (fun e=>by have:=(hown b e.symm).1;omega)).trans (h.blk.below hb h.blk.lt)
 exact⟨_,v1,v2,_,v6,v7,v8,hbl.set 2 _,hsix,hlow,Nat.le_trans hB hK.size,h.first,h.most⟩
theorem RdC.push7 {A:Option Addr} {c:Nat} {cells:List Value} (h:RdC B b w col v1 v2 v3 v6 (.slice A m.dat.length c) v8 m st ln) (hP:PrtC rDat 59 B (fun k=>col k=7) w A m.dat.length c cells m.dat)
 (hb:Below w.heap.size w w3) {A':Option Addr} {c' lo hi:Nat} {cs:List Value} {x:DatV} (hr:rDat.R w3 lo hi cs x) (hlo:w.heap.size≤lo) (hhi:hi≤w3.heap.size)
 (ho:w4.ownsRow B 59 rDat.z (.slice A' (m.dat.length+1) c') (m.dat.length+1) (cells++cs)) (hg:w3.grownBy w4 (Value.slice A m.dat.length c).ownBlock) (hat:(Value.slice A' (m.dat.length+1) c').ownBlock=(Value.slice A m.dat.length c).ownBlock∨(Value.slice A' (m.dat.length+1) c').ownBlock=some w3.heap.size):
 Keep (fun k=>k<B∧k≠b) w (w4.setCell ⟨b,6,none⟩ (.slice A' (m.dat.length+1) c'))∧RdM B b (w4.setCell ⟨b,6,none⟩ (.slice A' (m.dat.length+1) c')) {m with dat:=m.dat++ [x]} st ln:=by
 have hK:=push_keep (b:=b) hb hg 6 (.slice A' (m.dat.length+1) c')
 have hB:=h.top
 have hown:=hP.lt
 have hlow:=h.low
 refine⟨hK.mono fun k hk=>⟨hk.2,fun e=>by have:=(hown k e).1;omega⟩,?_⟩
 have hsn:=hP.snoc hb hB hr hlo hhi ho hg hat (S':=fun k=>colU w col 7 k=7) (fun k hk e=>colU_old hk e) (fun k hk=>colU_new hk)
 have h5:Keep (fun k=>k≠b) w4 (w4.setCell ⟨b,6,none⟩ (.slice A' (m.dat.length+1) c')):=(Keep.refl _ w4).setCell (p:=⟨b,6,none⟩) (fun e=>e rfl) _
 have hl:(m.dat++ [x]).length=m.dat.length+1:=by rw [List.length_append];rfl
 have hPrt:Prt rDat 59 B (fun k=>colU w col 7 k=7) (w4.setCell ⟨b,6,none⟩ (.slice A' (m.dat.length+1) c')) (.slice A' (m.dat.length+1) c') (m.dat++ [x]):=
  ⟨A',c',_,by rw [hl],by rw [hl];exact hsn.keep h5 (fun k hk _ _=>by omega) (fun k _ e=>e)⟩
 have hsix:=h.six.put7 hK (fun k hBk hk h1 _=>⟨by omega,fun e=>h1 (hP.at_ k e)⟩) hPrt
 have hbl:Blk w4 b 104 [v1,v2,v3,.int .i64 m.first,.int .i64 m.most,v6,.slice A m.dat.length c,v8,.int .i64 st,.int .i64 ln]:=(hg.block b (Nat.lt_of_lt_of_le h.blk.lt hb.size) (fun e=>by have:=(hown b e.symm).1;omega)).trans (h.blk.below hb h.blk.lt)
 exact⟨_,v1,v2,v3,v6,_,v8,hbl.set 6 _,hsix,hlow,Nat.le_trans hB hK.size,h.first,h.most⟩
theorem RdC.push8 {A:Option Addr} {c:Nat} {cells:List Value} (h:RdC B b w col v1 v2 v3 v6 v7 (.slice A m.exps.length c) m st ln) (hP:PrtC rExp 61 B (fun k=>col k=8) w A m.exps.length c cells m.exps)
 (hb:Below w.heap.size w w3) {A':Option Addr} {c' lo hi:Nat} {cs:List Value} {x:ExpV} (hr:rExp.R w3 lo hi cs x) (hlo:w.heap.size≤lo) (hhi:hi≤w3.heap.size)
 (ho:w4.ownsRow B 61 rExp.z (.slice A' (m.exps.length+1) c') (m.exps.length+1) (cells++cs)) (hg:w3.grownBy w4 (Value.slice A m.exps.length c).ownBlock) (hat:(Value.slice A' (m.exps.length+1) c').ownBlock=(Value.slice A m.exps.length c).ownBlock∨(Value.slice A' (m.exps.length+1) c').ownBlock=some w3.heap.size):
 Keep (fun k=>k<B∧k≠b) w (w4.setCell ⟨b,7,none⟩ (.slice A' (m.exps.length+1) c'))∧RdM B b (w4.setCell ⟨b,7,none⟩ (.slice A' (m.exps.length+1) c')) {m with exps:=m.exps++ [x]} st ln:=by
 have hK:=push_keep (b:=b) hb hg 7 (.slice A' (m.exps.length+1) c')
 have hB:=h.top
 have hown:=hP.lt
 have hlow:=h.low
 refine⟨hK.mono fun k hk=>⟨hk.2,fun e=>by have:=(hown k e).1;omega⟩,?_⟩
 have hsn:=hP.snoc hb hB hr hlo hhi ho hg hat (S':=fun k=>colU w col 8 k=8) (fun k hk e=>colU_old hk e) (fun k hk=>colU_new hk)
 have h5:Keep (fun k=>k≠b) w4 (w4.setCell ⟨b,7,none⟩ (.slice A' (m.exps.length+1) c')):=(Keep.refl _ w4).setCell (p:=⟨b,7,none⟩) (fun e=>e rfl) _
 have hl:(m.exps++ [x]).length=m.exps.length+1:=by rw [List.length_append];rfl
 have hPrt:Prt rExp 61 B (fun k=>colU w col 8 k=8) (w4.setCell ⟨b,7,none⟩ (.slice A' (m.exps.length+1) c')) (.slice A' (m.exps.length+1) c') (m.exps++ [x]):=
  ⟨A',c',_,by rw [hl],by rw [hl];exact hsn.keep h5 (fun k hk _ _=>by omega) (fun k _ e=>e)⟩
 have hsix:=h.six.put8 hK (fun k hBk hk h1 _=>⟨by omega,fun e=>h1 (hP.at_ k e)⟩) hPrt
 have hbl:Blk w4 b 104 [v1,v2,v3,.int .i64 m.first,.int .i64 m.most,v6,v7,.slice A m.exps.length c,.int .i64 st,.int .i64 ln]:=(hg.block b (Nat.lt_of_lt_of_le h.blk.lt hb.size) (fun e=>by have:=(hown b e.symm).1;omega)).trans (h.blk.below hb h.blk.lt)
 exact⟨_,v1,v2,v3,v6,v7,_,hbl.set 7 _,hsix,hlow,Nat.le_trans hB hK.size,h.first,h.most⟩
end
theorem info_int:(prog.info? 3).map (fun i=>(i.zero,i.size,i.bytes))=some (some (.int .i64 0),1,8):=by kernel_rfl
theorem info_exp:(prog.info? 61).map (fun i=>(i.zero,i.size,i.bytes))=some (some (.agg #[.string ⟨#[]⟩,.int .i64 0]),2,24):=by kernel_rfl
theorem RdC.old {B b:Nat} {w w3 w4:World} {col:Nat→Nat} {v1 v2 v3 v6 v7 v8:Value} {m:ModV} {st ln:Nat} (h:RdC B b w col v1 v2 v3 v6 v7 v8 m st ln) (hb:Below w.heap.size w w3) {v:Value} (hg:w3.grownBy w4 v.ownBlock) (hv: ∀g,v.ownBlock=some g→B≤g):
 Blk w4 b 104 [v1,v2,v3,.int .i64 m.first,.int .i64 m.most,v6,v7,v8,.int .i64 st,.int .i64 ln]:=
 (hg.block b (Nat.lt_of_lt_of_le h.blk.lt hb.size) (fun e=>by have:=hv b e.symm;have:=h.low;omega)).trans (h.blk.below hb h.blk.lt)
structure MIn (B b A hi:Nat) (w:World) (col:Nat→Nat) (v1 v2 v3 v6 v7 v8:Value) (m:ModV) (st ln:Nat) (ws:List ByteArray):Prop where
 rd:RdC B b w col v1 v2 v3 v6 v7 v8 m st ln
 wd:WordsAt w A ws
 env:EnvAt hi w
 hhi:hi≤b
 lens:Lens m 4194304
 ne:A≠b
theorem len2 {ws:List ByteArray} (h:ws.length=2): ∃a b,ws= [a,b]:=by
 rcases ws with _ | ⟨a,_ | ⟨b,_ | ⟨c,t⟩⟩⟩<;>simp_all
theorem len3 {ws:List ByteArray} (h:ws.length=3): ∃a b c,ws= [a,b,c]:=by
 rcases ws with _ | ⟨a,_ | ⟨b,_ | ⟨c,_ | ⟨d,t⟩⟩⟩⟩<;>simp_all
theorem len4 {ws:List ByteArray} (h:ws.length=4): ∃a b c d,ws= [a,b,c,d]:=by
 rcases ws with _ | ⟨a,_ | ⟨b,_ | ⟨c,_ | ⟨d,_ | ⟨e,t⟩⟩⟩⟩⟩<;>simp_all
section
variable {B b A hi:Nat} {w:World} {col:Nat→Nat} {v1 v2 v3 v6 v7 v8:Value} {m:ModV} {st ln:Nat} {ws:List ByteArray}
theorem readK_len {p k:Nat} (h:(p,k)∈ [(1,1),(3,2),(4,4),(5,3),(6,3),(7,3),(8,3)]) (h0:ws≠ []) (hk:ws.length≠k):readK p m ws.tail=none:=by
 simp only [List.mem_cons,Prod.mk.injEq,List.not_mem_nil,or_false] at h
 rcases h with⟨rfl,rfl⟩ | ⟨rfl,rfl⟩ | ⟨rfl,rfl⟩ | ⟨rfl,rfl⟩ | ⟨rfl,rfl⟩ | ⟨rfl,rfl⟩ | ⟨rfl,rfl⟩<;>
  rcases ws with _ | ⟨x0,_ | ⟨x1,_ | ⟨x2,_ | ⟨x3,_ | ⟨x4,t⟩⟩⟩⟩⟩<;>simp_all [readK]
theorem rd_begin_len (h0:ws≠ []) (hk:ws.length≠1) (Inv:World→ModV→Prop):
 Calls prog 88 #[.pointer (some ⟨b,0,none⟩),.slice (some ⟨A,0,none⟩) ws.length ws.length] w (MEnd Inv B b w (readK 1 m ws.tail)):=by
 have HN:=hideIt (readK_len (m:=m) (p:=1) (k:=1) (by decide) h0 hk)
 have HK:Hid (decide (ws.length=1)=false):=hideIt (decide_eq_false hk)
 clear h0 hk
 go_enter func88,ntmps88
 go_wp2_with fail
 refine(txt_count (some ⟨A,0,none⟩) ws.length ws.length 1 w).mono ?_
 rintro e w1 ⟨rfl,⟨h1,rfl⟩ | ⟨h1,rfl⟩⟩
 ·rw [HK.out] at h1;cases h1
 go_wp2_with fail
 exact⟨rfl,.inl ⟨HN.out,rfl,Below.refl _ _⟩⟩
theorem rd_begin (h:MIn B b A hi w col v1 v2 v3 v6 v7 v8 m st ln ws) (h0:ws≠ []):
 Calls prog 88 #[.pointer (some ⟨b,0,none⟩),.slice (some ⟨A,0,none⟩) ws.length ws.length] w (MEnd (fun W m'=>RdM B b W m' st ln) B b w (readK 1 m ws.tail)):=by
 by_cases hk:ws.length=1
 case neg=>exact rd_begin_len h0 hk _
 obtain⟨x0,rfl⟩:=List.length_eq_one_iff.1 hk
 have HR:=hideIt h.rd
 clear h h0 hk
 show Calls _ _ #[_,.slice _ 1 1] _ _
 go_enter func88,ntmps88
 go_wp2_with fail
 refine(txt_count (some ⟨A,0,none⟩) 1 1 1 w).mono ?_
 rintro e w1 ⟨rfl,hends⟩
 rcases hends with⟨_,rfl⟩ | ⟨hf,_⟩
 case inr=>exact absurd hf (by decide)
 go_wp2_with fail
 go_end0
 exact .inr ⟨m,rfl,rfl,Keep.refl _ _,⟨_,_,_,_,_,_,_,HR.out⟩⟩
end
end Go.Proofs.YtebgikflpgcnlaaGreatDoor
