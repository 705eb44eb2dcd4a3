/- Part 32 of the proof: RdrS Par2 WrkP -/
import Derived.Test.YtebgikflpgcnlaaGreatDoorT19
import Derived.Test.YtebgikflpgcnlaaGreatDoorT30
import Derived.Test.YtebgikflpgcnlaaGreatDoorT31
namespace Go.Proofs.YtebgikflpgcnlaaGreatDoor
set_option linter.unusedVariables false
set_option linter.unusedSimpArgs false
set_option maxRecDepth 100000
set_option maxHeartbeats 4000000
open Go.RowKit Tryz
section
variable {B b hi M:Nat} {w:World} {r:RdV} {ln:Nat} {s:ByteArray}
theorem RdO.below {W W':World} {m:ModV} {fs:List FnV} {f:FnV} {lo:Nat} {col:Nat→Nat} {v1 v2 v3 v7 v8:Value} {A:Option Addr} {c:Nat} {cells:List Value} {vc:Value} (h:RdO B b W m ln fs f lo col v1 v2 v3 v7 v8 A c cells vc) (hb:Below W.heap.size W W'):
 RdO B b W' m ln fs f lo (colU W col 9) v1 v2 v3 v7 v8 A c cells vc:=by
 have hF:=h.fn
 have hK:Keep (fun _=>True) W W':=(Keep.of_all hb).mono fun _ _=>trivial
 have hhl:=hF.hi_
 refine⟨h.blk.below hb h.blk.lt,h.five.keep hK (fun _ _ _ _=>trivial) _ (fun k hk _=>colU_old hk rfl) rfl rfl rfl rfl rfl,⟨own_keptz hF.own hb,fun g hg=> ?_,fun k x hk=> ?_,hF.t,hF.loc,hF.code.keep hK (fun _ _ _ _=>trivial) (fun _ _ e=>e),hF.lo_,Nat.le_trans hhl hb.size,fun k hk hk2=> ?_⟩,h.fns,h.low,Nat.le_trans h.top hb.size,h.first,h.most⟩
 ·have:=hF.at_ g hg
  exact⟨by rw [colU_old (by omega) rfl];exact this.1,this.2⟩
 ·obtain⟨l,hh,g1,g2,g3,g4,g5⟩:=hF.els k x hk
  exact⟨l,hh,g1,g2,g3,fun g ha hb'=>by rw [colU_old (by omega) rfl];exact g4 g ha hb',rFn.below g5 hb (by omega)⟩
 ·by_cases h2:k<W.heap.size
  ·rw [colU_old h2 rfl];exact hF.new k hk h2
  ·exact colU_new (by omega)
theorem RdOpen.below {W W':World} {m:ModV} (h:RdOpen B b W m ln) (hb:Below W.heap.size W W'):RdOpen B b W' m ln:=by
 obtain⟨fs,f,lo,col,v1,v2,v3,v7,v8,A,c,cells,vc,h⟩:=h
 exact⟨fs,f,lo,_,v1,v2,v3,v7,v8,A,c,cells,vc,h.below hb⟩
theorem RdIn.below {W W':World} (h:RdIn B b W r ln) (hb:Below W.heap.size W W'):RdIn B b W' r ln:=
 h.elim (fun x=> .inl ⟨x.1,x.2.below hb⟩) (fun x=> .inr ⟨x.1,x.2.below hb⟩)
theorem RdIn.blk {W:World} (h:RdIn B b W r ln): ∃v1 v2 v3 v6 v7 v8,Blk W b 104 [v1,v2,v3,.int .i64 r.m.first,.int .i64 r.m.most,v6,v7,v8,.int .i64 r.st,.int .i64 ln]:=by
 obtain⟨col,v1,v2,v3,v6,v7,v8,h⟩:=h.close
 exact⟨v1,v2,v3,v6,v7,v8,h.blk⟩
theorem rd_read_none (h:LIn B b hi M w r ln s) (hw:wdsV s= []):
 Calls prog 59 #[.pointer (some ⟨b,0,none⟩),.string s,.map (some M)] w (RdPost B b w ln (some r)):=by
 have hcall:=txt_words s (by have:=h.sz;omega) w
 rw [hw] at hcall
 have HI:=hideIt h
 have HCALL:=hideIt hcall
 clear hcall h
 go_enter func59,ntmps59
 go_wp2_with fail
 refine HCALL.out.mono ?_
 clear HCALL
 rintro e w1 ⟨A,rfl,hA,ho,hb1⟩
 have HB1:=hideIt hb1
 clear ho hb1
 go_wp2_with fail
 go_end0
 exact⟨(Keep.of_all HB1.out).mono0 (fun k hk _=>hk),.inr ⟨r,rfl,rfl,HI.out.rd.below HB1.out⟩⟩
theorem rd_read_skip (h:LIn B b hi M w r ln s) {x0:ByteArray} {t:List ByteArray} (hwd:wdsV s=x0::t) (hsk:skipW (x0::t)=true):
 Calls prog 59 #[.pointer (some ⟨b,0,none⟩),.string s,.map (some M)] w (RdPost B b w ln (some r)):=by
 have hcall:=txt_words s (by have:=h.sz;omega) w
 obtain⟨hws,hpos⟩:=wds_facts s
 have hsz:=h.sz
 rw [hwd] at hcall hws hpos
 have hx0:=hpos x0 (List.mem_cons_self ..)
 have h59:((x0[0]'hx0).toNat:Int)=59:=by
  have h1:(x0.data.toList.head?==some 59)=true:=hsk
  rw [beq_iff_eq] at h1
  have h2:x0.data.toList[0]?=some 59:=by rw [←List.head?_eq_getElem?];exact h1
  have hl:0<x0.data.toList.length:=by rw [←Lib.size_eq];exact hx0
  rw [List.getElem?_eq_getElem hl] at h2
  injection h2 with h2
  have h3:x0[0]'hx0=59:=h2
  rw [h3];rfl
 obtain⟨n,hn⟩: ∃n,n=(x0::t).length:=⟨_,rfl⟩
 have hn0:0<n:=by rw [hn,List.length_cons];omega
 have hz0:((n:Int)==0)=false:=by rw [beq_eq_false_iff_ne];omega
 have HNN:=hideIt hn
 have HI:=hideIt h
 have HCALL:=hideIt hcall
 clear hcall h
 go_enter func59,ntmps59
 go_wp2_with fail
 refine HCALL.out.mono ?_
 clear HCALL
 rintro e w1 ⟨A,rfl,hA,ho,hb1⟩
 have hw1:=words_at ho hA (List.cons_ne_nil _ _) (by omega)
 have q0:w1.cell? ⟨A,0,none⟩=some (.string x0):=hw1.at_ 0 _ rfl
 have HB1:=hideIt hb1
 rw [←HNN.out]
 have hq59:(((x0[0]'hx0).toNat:Int)==59)=true:=by rw [h59];rfl
 clear hn ho hb1 hw1 hws hpos hwd hsk h59
 go_wp2_with fail
 go_end0
 exact⟨(Keep.of_all HB1.out).mono0 (fun k hk _=>hk),.inr ⟨r,rfl,rfl,HI.out.rd.below HB1.out⟩⟩
instance byteLaw:LawfulBEq ByteArray where
 eq_of_beq {a b} h:=by
  cases a;cases b
  exact congrArg ByteArray.mk (eq_of_beq h)
 rfl {a}:=by
  obtain⟨d⟩:=a
  exact beq_self_eq_true d
theorem kind_zero {x:ByteArray} (h:kindW x=0): ∀k∈kinds,x≠k:=by
 intro k hk e
 subst e
 unfold kindW at h
 cases hi:kinds.idxOf? x with
 | none=>rw [List.idxOf?_eq_none_iff] at hi;exact hi hk
 | some i=>rw [hi] at h;simp at h
theorem find_none {x:ByteArray} (h:kindW x=0):Instr.findNow .string (.string x) ruleEs.toList 0=some none:=by
 have hk:=kind_zero h
 have hb: ∀k∈kinds,(x==k)=false:=fun k hm=>beq_eq_false_iff_ne.2 (hk k hm)
 have h1:=hb flagonW (by simp [kinds]);have h2:=hb typeW (by simp [kinds]);have h3:=hb externW (by simp [kinds]);have h4:=hb globalW (by simp [kinds])
 have h5:=hb memoryW (by simp [kinds]);have h6:=hb funcW (by simp [kinds]);have h7:=hb dataW (by simp [kinds]);have h8:=hb exportW (by simp [kinds])
 unfold ruleEs
 simp only [Instr.findNow,Instr.sameNow,h1,h2,h3,h4,h5,h6,h7,h8]
theorem zero_rule (W:World):(zeroValue 148).run prog W= .ok (.agg #[.int .i64 0,.nilFunc]) W:=by kernel_rfl
theorem lineV_ins {x0:ByteArray} {t:List ByteArray} (h:kindW x0=0):lineV r (x0::t)=if r.st=6 then(insM r.m x0 t).map (fun m'=>(⟨m',6⟩:RdV)) else none:=by
 unfold lineV
 simp only
 rw [if_pos h]
 split
 ·unfold insM
  cases opFind x0 with
  | none=>rfl
  | some o=>show(insR o t).map _=((insR o t).map _).map _;cases insR o t<;>rfl
 ·rfl
theorem rd_read_ins (h:LIn B b hi M w r ln s) {x0:ByteArray} {t:List ByteArray} (hwd:wdsV s=x0::t) (hsk:skipW (x0::t)=false) (hkd:kindW x0=0):
 Calls prog 59 #[.pointer (some ⟨b,0,none⟩),.string s,.map (some M)] w (RdPost B b w ln (lineV r (x0::t))):=by
 have hcall:=txt_words s (by have:=h.sz;omega) w
 obtain⟨hws,hpos⟩:=wds_facts s
 have hsz:=h.sz
 rw [hwd] at hcall hws hpos
 have hx0:=hpos x0 (List.mem_cons_self ..)
 have hq59:(((x0[0]'hx0).toNat:Int)==59)=false:=by
  rw [beq_eq_false_iff_ne]
  intro e
  have h1:(x0.data.toList.head?==some 59)=false:=hsk
  have hl:0<x0.data.toList.length:=by rw [←Lib.size_eq];exact hx0
  rw [List.head?_eq_getElem?,List.getElem?_eq_getElem hl] at h1
  have h3:x0[0]'hx0=59:=by rw [←UInt8.toNat_inj];have:((x0[0]'hx0).toNat:Int)=((59:Nat):Int):=e;exact Int.ofNat.inj this
  have h4:x0.data.toList[0]=59:=h3
  rw [h4] at h1
  exact absurd h1 (by decide)
 obtain⟨n,hn⟩: ∃n,n=(x0::t).length:=⟨_,rfl⟩
 have hn0:0<n:=by rw [hn,List.length_cons];omega
 rw [←hn] at hcall
 have hz0:((n:Int)==0)=false:=by rw [beq_eq_false_iff_ne];omega
 have HNN:Hid (n=t.length+1):=hideIt (by rw [hn,List.length_cons])
 have hfind:=find_none hkd
 have HLV:=hideIt (lineV_ins (r:=r) (t:=t) hkd)
 have hMl:=h.mlt
 have hhi:=h.hhi
 have HI:=hideIt h
 have HCALL:=hideIt hcall
 obtain⟨b1,b2,b3,b6,b7,b8,hblk⟩:=h.rd.blk
 have hbl:=hblk.lt
 have HBLK:=hideIt hblk
 clear hcall h hblk
 go_enter func59,ntmps59
 go_wp2_with fail
 refine HCALL.out.mono ?_
 clear HCALL
 rintro e w1 ⟨A,rfl,hA,ho,hb1⟩
 rw [hn] at ho
 have hw1:=words_at ho hA (List.cons_ne_nil _ _) (by omega)
 have q0:w1.cell? ⟨A,0,none⟩=some (.string x0):=hw1.at_ 0 _ rfl
 have hmap1:w1.heap[M]?=some (.map ruleEs 8):=(hb1.block M hMl).trans HI.out.map
 have hlook:=run_look_no (P:=prog) (W:=w1) (s:=x0) underlying108 underlying9 hmap1 (zero_rule w1) hfind
 have HB1:=hideIt hb1;have HW1:=hideIt hw1
 have hsz1:=hb1.size
 clear hn ho hb1 hw1 hws hpos hwd hsk hkd hfind hmap1
 go_wp2_with fail
 generalize hw2:World.alloc _ _=w2
 have hb12:Below w1.heap.size w1 w2:=by rw [←hw2];exact(Below.refl _ _).alloc (Nat.le_refl _) _
 have hb2:=HB1.out.trans (hb12.mono hsz1)
 have hw2':=HW1.out.below hb12
 have hE2:EnvAt hi w2:=HI.out.env.up hb2 (by omega)
 have hAb:A≠b:=by omega
 clear hw2 hb12 hlook q0 HW1 HB1
 have hfin: ∀(e:Ending) (w6:World) (res:Option ModV),(r.st=6→res=insM r.m x0 t)→(r.st≠6→res=none)→MEnd (fun W m'=>RdOpen B b W m' ln) B b w2 res e w6→RdPost B b w ln (lineV r (x0::t)) e w6:=by
  intro e w6 res h6 hn6 hm
  rcases hm with⟨h1,h2,h3⟩ | ⟨m',h1,h2,h3,h4⟩
  ·refine⟨((Keep.of_all hb2).mono0 (fun k hk _=>hk)).trans ((Keep.of_all h3).mono0 (fun k hk _=>hk)),.inl ⟨?_,h2,?_⟩⟩
   ·rw [HLV.out]
    split
    ·rename_i hs;rw [←h6 hs,h1];rfl
    ·rfl
   ·have hx:=(HBLK.out.below hb2 hbl)
    exact(h3.cell (p:=⟨b,9,none⟩) hx.lt).trans (hx.cell 9)
  ·have hs:r.st=6:=Decidable.byContradiction fun hs=>by rw [hn6 hs] at h1;cases h1
   refine⟨((Keep.of_all hb2).mono0 (fun k hk _=>hk)).trans h3,.inr ⟨⟨m',6⟩,?_,h2,.inr ⟨rfl,h4⟩⟩⟩
   rw [HLV.out,if_pos hs,←h6 hs,h1]
   rfl
 have HFIN:=hideIt hfin
 have hrd2:=HI.out.rd.below hb2
 have HRD2:=hideIt hrd2;have HW2:=hideIt hw2';have HE2:=hideIt hE2
 clear hfin hrd2 hb2 hw2' hE2
 by_cases hs:r.st=6
 ·rcases HRD2.out with⟨h0,_⟩ | ⟨_,hop⟩
  ·exact absurd hs h0
  obtain⟨fs,f,lo,col,v1,v2,v3,v7,v8,gF,c,cells,Ac,cc,cellsC,ho,hc⟩:=hop.parts
  refine(rd_ins ⟨ho,hc,HW2.out,HE2.out,hhi,HI.out.lens⟩ n HNN.out).mono ?_
  rintro e w6 hm
  have HP:=hideIt (HFIN.out e w6 _ (fun _=>rfl) (fun h=>absurd hs h) hm)
  clear HFIN
  rcases hm with⟨_,rfl,_⟩ | ⟨m',_,rfl,_,_⟩
  ·go_wp2_with fail
   exact⟨rfl,HP.out⟩
  ·go_wp2_with fail
   go_end0
   exact HP.out
 ·obtain⟨col,v1,v2,v3,v6,v7,v8,hr⟩:=HRD2.out.close
  refine(rd_ins_st hs ⟨hr,HW2.out,HE2.out,hhi,HI.out.lens,hAb⟩ n HNN.out (fun W m'=>RdOpen B b W m' ln)).mono ?_
  rintro e w6 hm
  have HP:=hideIt (HFIN.out e w6 _ (fun h=>absurd h hs) (fun _=>rfl) hm)
  clear HFIN
  rcases hm with⟨_,rfl,_⟩ | ⟨m',h1,rfl,_,_⟩
  ·go_wp2_with fail
   exact⟨rfl,HP.out⟩
  ·cases h1
theorem rd_read (h:LIn B b hi M w r ln s):
 Calls prog 59 #[.pointer (some ⟨b,0,none⟩),.string s,.map (some M)] w (RdPost B b w ln (if skipW (wdsV s)=true then some r else lineV r (wdsV s))):=by
 cases hwd:wdsV s with
 | nil=>rw [if_pos (show skipW []=true from rfl)];exact rd_read_none h hwd
 | cons x0 t=>
  cases hsk:skipW (x0::t)with
  | true=>rw [if_pos (rfl:true=true)];exact rd_read_skip h hwd hsk
  | false=>
   rw [if_neg Bool.false_ne_true]
   by_cases hk:kindW x0=0
   ·exact rd_read_ins h hwd hsk hk
   ·have hm:x0∈kinds:=by
     refine Classical.byContradiction fun hn=>hk ?_
     unfold kindW
     rw [List.idxOf?_eq_none_iff.2 hn]
    simp only [kinds,List.mem_cons,List.not_mem_nil,or_false] at hm
    rcases hm with rfl | rfl | rfl | rfl | rfl | rfl | rfl | rfl
    ·have:=rd_read_1 h hwd;rwa [hwd] at this
    ·have:=rd_read_2 h hwd;rwa [hwd] at this
    ·have:=rd_read_3 h hwd;rwa [hwd] at this
    ·have:=rd_read_4 h hwd;rwa [hwd] at this
    ·have:=rd_read_5 h hwd;rwa [hwd] at this
    ·have:=rd_read_6 h hwd;rwa [hwd] at this
    ·have:=rd_read_7 h hwd;rwa [hwd] at this
    ·have:=rd_read_8 h hwd;rwa [hwd] at this
end
section
variable {B b:Nat} {W:World} {m:ModV} {ln:Nat}
theorem RdC.line {col:Nat→Nat} {v1 v2 v3 v6 v7 v8:Value} {st:Nat} (h:RdC B b W col v1 v2 v3 v6 v7 v8 m st ln) (q:Nat):
 RdC B b (W.setCell ⟨b,9,none⟩ (.int .i64 q)) col v1 v2 v3 v6 v7 v8 m st q:=by
 have hlow:=h.low
 have hK:Keep (fun k=>k≠b) W (W.setCell ⟨b,9,none⟩ (.int .i64 q)):=(Keep.refl _ W).setCell (p:=⟨b,9,none⟩) (fun e=>e rfl) _
 exact⟨h.blk.set 9 _,h.six.keep hK (fun k hk _ _=>by omega) col (fun _ _ _=>rfl),hlow,Nat.le_trans h.top hK.size,h.first,h.most⟩
theorem RdO.line {fs:List FnV} {f:FnV} {lo:Nat} {col:Nat→Nat} {v1 v2 v3 v7 v8:Value} {A:Option Addr} {c:Nat} {cells:List Value} {vc:Value} (h:RdO B b W m ln fs f lo col v1 v2 v3 v7 v8 A c cells vc) (q:Nat):
 RdO B b (W.setCell ⟨b,9,none⟩ (.int .i64 q)) m q fs f lo col v1 v2 v3 v7 v8 A c cells vc:=by
 have hlow:=h.low
 have hF:=h.fn
 have hhl:=hF.hi_
 have hlo:=hF.lo_
 have hK:Keep (fun k=>k≠b) W (W.setCell ⟨b,9,none⟩ (.int .i64 q)):=(Keep.refl _ W).setCell (p:=⟨b,9,none⟩) (fun e=>e rfl) _
 refine⟨h.blk.set 9 _,h.five.keep hK (fun k hk _ _=>by omega) col (fun _ _ _=>rfl) rfl rfl rfl rfl rfl,⟨own_keepK hF.own hK (fun g hg=>by have:=(hF.own.lt g hg).1;omega),hF.at_,fun k x hk=> ?_,hF.t,hF.loc,hF.code.keep hK (fun k hk _ _=>by omega) (fun _ _ e=>e),hlo,Nat.le_trans hhl hK.size,fun k hk hk2=>hF.new k hk (by simpa using hk2)⟩,h.fns,hlow,Nat.le_trans h.top hK.size,h.first,h.most⟩
 obtain⟨l,hh,g1,g2,g3,g4,g5⟩:=hF.els k x hk
 exact⟨l,hh,g1,g2,g3,g4,Rd.keepK (K:=fun k=>k≠b) g5 hK (by omega) (fun k ha hb'=>by omega)⟩
theorem RdIn.line {r:RdV} (h:RdIn B b W r ln) (q:Nat):RdIn B b (W.setCell ⟨b,9,none⟩ (.int .i64 q)) r q:=by
 rcases h with⟨h0,col,v1,v2,v3,v6,v7,v8,h⟩ | ⟨h0,fs,f,lo,col,v1,v2,v3,v7,v8,A,c,cells,vc,h⟩
 ·exact .inl ⟨h0,col,v1,v2,v3,v6,v7,v8,h.line q⟩
 ·exact .inr ⟨h0,fs,f,lo,col,v1,v2,v3,v7,v8,A,c,cells,vc,h.line q⟩
end
theorem modZ_reads (W:World) (B:Nat):rMod.R W B W.heap.size modZ mod0:=
 rMod_iff.2 ⟨_,_,_,_,_,_,rfl,(Prt.nil rSig 51 B (fun _=>True) W).reads,(Prt.nil Rd.i64 3 B (fun _=>True) W).reads,(Prt.nil rGlob 82 B (fun _=>True) W).reads,⟨by decide,by decide⟩,⟨by decide,by decide⟩,(Prt.nil rFn 56 B (fun _=>True) W).reads,(Prt.nil rDat 59 B (fun _=>True) W).reads,(Prt.nil rExp 61 B (fun _=>True) W).reads⟩
def rdZ:List Value:= [.slice none 0 0,.slice none 0 0,.slice none 0 0,.int .i64 0,.int .i64 0,.slice none 0 0,.slice none 0 0,.slice none 0 0,.int .i64 0,.int .i64 0]
theorem rd_start {B b:Nat} {W:World} (h:Blk W b 104 rdZ) (hb:b<B) (hB:B≤W.heap.size):RdIn B b W rd0 0:=
 .inl ⟨by decide,fun _=>9,_,_,_,_,_,_,h,⟨Prt.nil _ _ _ _ _,Prt.nil _ _ _ _ _,Prt.nil _ _ _ _ _,Prt.nil _ _ _ _ _,Prt.nil _ _ _ _ _,Prt.nil _ _ _ _ _⟩,hb,hB,⟨by decide,by decide⟩,⟨by decide,by decide⟩⟩
def ParsePost (w:World) (s:ByteArray) (e:Ending) (w':World):Prop:=
 Below w.heap.size w w'∧ ∃cs,cs.length=8∧e= .returned (.tuple #[.agg cs.toArray,.int .i64 (parseV s).2.1,.int .i64 (parseV s).2.2])∧rMod.R w' w.heap.size w'.heap.size cs (parseV s).1
structure PMem (w W:World) (h0:Nat) (s:ByteArray):Prop where
 bel:Below w.heap.size w W
 hz:h0=w.heap.size
 top:h0+1+1+1+1+1+1<W.heap.size
 gm:Blk W h0 29 modZ
 ge:Blk W (h0+1) 33 [.int .i64 0]
 ga:Blk W (h0+1+1) 3 [.int .i64 0]
 gr:Blk W (h0+1+1+1+1) 102 [.pointer (some ⟨h0+1+1+1,0,none⟩)]
 map:W.heap[h0+1+1+1+1+1]?=some (.map ruleEs 8)
 spl:Blk W (h0+1+1+1+1+1+1) 9 ((linesV s).map Value.string)
theorem PMem.at_ {w W:World} {h0:Nat} {s:ByteArray} (h:PMem w W h0 s) (j:Nat) (x:ByteArray) (hx:(linesV s)[j]?=some x):W.cell? ⟨h0+1+1+1+1+1+1,j,none⟩=some (.string x):=by
 have:=h.spl.cell j
 rw [List.getElem?_map,hx] at this
 exact this
theorem PMem.keep {w W W':World} {h0:Nat} {s:ByteArray} (h:PMem w W h0 s) (hK:Keep (fun k=>k<h0+7∧k≠h0+1+1+1) W W'):PMem w W' h0 s:=by
 have hz:=h.hz
 have ht:=h.top
 refine⟨h.bel.trans (hK.below h.bel.size fun k hk=>by omega),hz,Nat.lt_of_lt_of_le ht hK.size,h.gm.keep hK (by omega),h.ge.keep hK (by omega),h.ga.keep hK (by omega),h.gr.keep hK (by omega),?_,h.spl.keep hK (by omega)⟩
 exact(hK.block _ (by omega) (by omega)).trans h.map
theorem heap_at (w:World) (o:Obj) {n:Nat} (hn:w.heap.size=n):(w.alloc o).heap[n]?=some o:=by
 subst hn
 exact Array.getElem?_push_size
theorem heap_more {w:World} {n:Nat} {o:Obj} (h:w.heap[n]?=some o) (o':Obj):(w.alloc o').heap[n]?=some o:=
 (((Below.refl w.heap.size w).alloc (Nat.le_refl _) o').block n (Array.getElem?_eq_some_iff.1 h).1).trans h
theorem blk_at (w:World) (t:TypeId) (xs:List Value) {n:Nat} (hn:w.heap.size=n):Blk (w.alloc (.cells xs.toArray t)) n t xs:=hn▸Blk.new w t xs
theorem prs_mem (w:World) (s:ByteArray) (t9:TypeId) (ht9:t9=9):PMem w (((((((w.alloc (.cells modZ.toArray 29)).alloc (.cells #[.int .i64 0] 33)).alloc (.cells #[.int .i64 0] 3)).alloc (.cells rdZ.toArray 104)).alloc (.cells #[.pointer (some ⟨w.heap.size+1+1+1,0,none⟩)] 102)).alloc (.map ruleEs 8)).alloc (.cells ((linesV s).map Value.string).toArray t9)) w.heap.size s∧
 Blk (((((((w.alloc (.cells modZ.toArray 29)).alloc (.cells #[.int .i64 0] 33)).alloc (.cells #[.int .i64 0] 3)).alloc (.cells rdZ.toArray 104)).alloc (.cells #[.pointer (some ⟨w.heap.size+1+1+1,0,none⟩)] 102)).alloc (.map ruleEs 8)).alloc (.cells ((linesV s).map Value.string).toArray t9)) (w.heap.size+1+1+1) 104 rdZ:=by
 subst ht9
 refine⟨⟨?_,rfl,by simp only [World.size_alloc];omega,(((((((blk_at w _ modZ rfl).alloc _).alloc _).alloc _).alloc _).alloc _).alloc _),((((((blk_at _ _ [.int .i64 0] (by simp only [World.size_alloc])).alloc _).alloc _).alloc _).alloc _).alloc _),(((((blk_at _ _ [.int .i64 0] (by simp only [World.size_alloc])).alloc _).alloc _).alloc _).alloc _),(((blk_at _ _ [.pointer (some ⟨w.heap.size+1+1+1,0,none⟩)] (by simp only [World.size_alloc])).alloc _).alloc _),?_,blk_at _ _ ((linesV s).map Value.string) (by simp only [World.size_alloc])⟩,((((blk_at _ _ rdZ (by simp only [World.size_alloc])).alloc _).alloc _).alloc _)⟩
 ·exact(((((((Below.refl _ _).alloc (Nat.le_refl _) _).alloc (by simp only [World.size_alloc];omega) _).alloc (by simp only [World.size_alloc];omega) _).alloc (by simp only [World.size_alloc];omega) _).alloc (by simp only [World.size_alloc];omega) _).alloc (by simp only [World.size_alloc];omega) _).alloc (by simp only [World.size_alloc];omega) _
 ·exact heap_more (heap_at _ _ (by simp only [World.size_alloc])) _
structure PLoop (w wr:World) (h0:Nat) (s:ByteArray) (k:Nat) (r:RdV):Prop where
 mem:PMem w wr h0 s
 rd:RdIn (h0+7) (h0+1+1+1) wr r k
 up:Upto (linesV s) k r
theorem info_mod:(prog.info? 29).map (·.size)=some 8:=by kernel_rfl
theorem load_mod {W:World} {g:Nat} {c0 c1 c2 c3 c4 c5 c6 c7:Value} (h:Blk W g 29 [c0,c1,c2,c3,c4,c5,c6,c7]):(loadVar 29 ⟨g,0,none⟩).run prog W= .ok (.agg #[c0,c1,c2,c3,c4,c5,c6,c7]) W:=
 run_loadVar_row W g 29 29 #[c0,c1,c2,c3,c4,c5,c6,c7] (0,0) _ h underlying29 rfl info_mod
theorem fin_prs {W:World} {tmps:Array Value} {g h k:Nat} {e a:Int} {c0 c1 c2 c3 c4 c5 c6 c7:Value} {Q:Ending→World→Prop} (hm:Blk W g 29 [c0,c1,c2,c3,c4,c5,c6,c7]) (he:Blk W h 33 [.int .i64 e]) (ha:Blk W k 3 [.int .i64 a])
 (h2:tmps.getD 2 undef= .pointer (some ⟨g,0,none⟩)) (h3:tmps.getD 3 undef= .pointer (some ⟨h,0,none⟩)) (h4:tmps.getD 4 undef= .pointer (some ⟨k,0,none⟩)) (hq:Q (.returned (.tuple #[.agg #[c0,c1,c2,c3,c4,c5,c6,c7],.int .i64 e,.int .i64 a])) W):
 Leaves prog f14 tmps Q [] .returning W:=by
 rw [Array.getD_eq_getD_getElem?] at h2 h3 h4
 have m0:=hm.q 0 rfl
 have m1:=hm.q 1 rfl
 have m2:=hm.q 2 rfl
 have m3:=hm.q 3 rfl
 have m4:=hm.q 4 rfl
 have m5:=hm.q 5 rfl
 have m6:=hm.q 6 rfl
 have m7:=hm.q 7 rfl
 have k1:=he.q 0 rfl
 have k2:=ha.q 0 rfl
 refine⟨_,?_,hq⟩
 simp [results,results14,go_sem,h2,h3,h4,m0,m1,m2,m3,m4,m5,m6,m7,k1,k2]
theorem prs_big {s:ByteArray} (hs:1048576<s.size) (w:World):Calls prog 14 #[.string s] w (ParsePost w s):=by
 have hd:decide ((1048576:Int)<s.size)=true:=decide_eq_true (by omega)
 have HP:Hid (parseV s=(mod0,13,0)):=hideIt (by unfold parseV;rw [if_pos hs])
 clear hs
 go_enter_defers func14,ntmps14
 go_wp2_with fail
 generalize hw1:World.alloc _ _=w1
 have hb:Below w.heap.size w w1:=by rw [←hw1];exact(((Below.refl _ _).alloc (Nat.le_refl _) _).alloc (by simp) _).alloc (by simp;omega) _
 have hm:Blk w1 w.heap.size 29 modZ:=by rw [←hw1];exact((Blk.new w 29 modZ).alloc _).alloc _
 have he:Blk w1 (w.heap.size+1) 33 [.int .i64 13]:=by
  have:=(Blk.new (w.alloc (.cells modZ.toArray 29)) 33 [.int .i64 13]).alloc (.cells #[.int .i64 0] 3)
  rw [World.size_alloc] at this
  rw [←hw1];exact this
 have ha:Blk w1 (w.heap.size+1+1) 3 [.int .i64 0]:=by
  have:=Blk.new ((w.alloc (.cells modZ.toArray 29)).alloc (.cells #[.int .i64 13] 33)) 3 [.int .i64 0]
  simp only [World.size_alloc] at this
  rw [←hw1];exact this
 clear hw1
 refine fin_prs hm he ha rfl rfl rfl ?_
 refine⟨hb,modZ,rfl,?_,?_⟩
 ·rw [HP.out];rfl
 ·rw [HP.out];exact rMod.more (Nat.le_refl _) (Nat.le_refl _) (modZ_reads w1 w.heap.size)
theorem prs_fit {s:ByteArray} (hs:s.size≤1048576) {hi:Nat} (w:World) (hE:EnvAt hi w) (hhi:hi≤w.heap.size):Calls prog 14 #[.string s] w (ParsePost w s):=by
 have hd:decide ((1048576:Int)<s.size)=false:=decide_eq_false (by omega)
 have HS:=hideIt hs;have HE:=hideIt hE
 have hmf: ∀(fn:Fn) (first cap:Array Value) (w:World),(Instr.makeFunc fn first cap).run prog w= .ok (.func fn first cap) w:=fun _ _ _ _=>rfl
 clear hs hE
 go_enter_defers func14,ntmps14
 go_wp2_with fail
 refine(txt_rules _).mono ?_
 rintro e w2 ⟨rfl,rfl⟩
 go_wp2_with fail
 generalize hw2:World.alloc _ _=w2
 have hb2:Below w.heap.size w w2:=by
  rw [←hw2]
  exact((((((Below.refl _ _).alloc (Nat.le_refl _) _).alloc (by simp only [World.size_alloc];omega) _).alloc (by simp only [World.size_alloc];omega) _).alloc (by simp only [World.size_alloc];omega) _).alloc (by simp only [World.size_alloc];omega) _).alloc (by simp only [World.size_alloc];omega) _
 obtain⟨mx,hmx⟩:=HE.out.mx w2 (hb2.mono hhi)
 refine(strings_Split s _ mx w2 (by have:=HS.out;omega) hmx (by decide)).mono ?_
 rintro e w3 ⟨rfl,hw3⟩
 have hM:PMem w w3 w.heap.size s∧Blk w3 (w.heap.size+1+1+1) 104 rdZ:=by
  rw [hw3,←hw2]
  exact prs_mem w s _ rfl
 have h2s:w2.heap.size=w.heap.size+1+1+1+1+1+1:=by rw [←hw2];simp only [World.size_alloc]
 have hn:(linesV s).length=Lib.countB s nlB+1:=Lib.splitB_all nlB (by decide) 0 _ s rfl
 rw [h2s]
 obtain⟨n,hn2⟩: ∃n,n=Lib.countB s nlB+1:=⟨_,rfl⟩
 have HN:Hid ((linesV s).length=n):=hideIt (by rw [hn,hn2])
 have hn3:Lib.countB s {data:= #[10]}+1=n:=hn2.symm
 rw [hn3]
 have HL0:Hid (PLoop w w3 w.heap.size s 0 rd0):=hideIt ⟨hM.1,rd_start hM.2 (by omega) (by have:=hM.1.top;omega),Upto.start _⟩
 clear hw3 hw2 hb2 hmx hM h2s hn hn2 hn3
 go_wp2_with fail
 go_loopw [8,21] (fun v8 i wr=> ∃(k:Nat) (r:RdV),k≤n∧i= .int .i64 k∧PLoop w wr w.heap.size s k r) (fun _ i _=>n-(intOf i).toNat)
 case atStart=>exact⟨0,rd0,Nat.zero_le _,rfl,HL0.out⟩
 case round=>
  obtain⟨k,r,hk,rfl,hl⟩:=hrel
  have HL:=hideIt hl
  have hk0:(0:Int)≤k:=by omega
  have qb:=hl.mem.gr.q 0 rfl
  obtain⟨c0,c1,c2,c5,c6,c7,hblk⟩:=hl.rd.blk
  have HBLK:=hideIt hblk
  have hbl:=hblk.lt
  clear hl
  by_cases hlt:k<n
  ·obtain⟨x,hx⟩: ∃x,(linesV s)[k]?=some x:=⟨_,List.getElem?_eq_getElem (by rw [HN.out];exact hlt)⟩
   have hlti:decide ((k:Int)<n)=true:=decide_eq_true (by omega)
   have qa:wr.cell? ⟨w.heap.size+1+1+1+1+1+1,k,none⟩=some (.string x):=HL.out.mem.at_ k x hx
   have qc:=hblk.q 9 rfl
   have qf:=hblk.frozen 9
   have HX:=hideIt hx
   clear hblk hx
   go_wp2_with fail
   have hnb:n≤1048577:=by rw [←HN.out];have:=linesV_sum s HS.out;have:=wsum_len (linesV s);omega
   have hwr:wrap64 ((k:Int)+1)=((k+1:Nat):Int):=by unfold wrap64;omega
   rw [hwr]
   have hK1:Keep (fun j=>j<w.heap.size+7∧j≠w.heap.size+1+1+1) wr (wr.setCell ⟨w.heap.size+1+1+1,9,none⟩ (.int .i64 ((k+1:Nat):Int))):=(Keep.refl _ _).setCell (p:=⟨w.heap.size+1+1+1,9,none⟩) (fun e=>e.2 rfl) _
   have HM1:=hideIt (HL.out.mem.keep hK1)
   have hxs:x.size+1≤wsum (linesV s):=wsum_mem (List.mem_of_getElem? HX.out)
   have hsum:=linesV_sum s HS.out
   have hread:=rd_read (B:=w.heap.size+7) (b:=w.heap.size+1+1+1) (hi:=hi) (M:=w.heap.size+1+1+1+1+1) (s:=x) ⟨HL.out.rd.line (k+1),HM1.out.map,(Array.getElem?_eq_some_iff.1 HM1.out.map).1,HE.out.to (HM1.out.bel.mono hhi),by omega,HL.out.up.lens.mono (by omega),by omega⟩
   generalize hwl:wr.setCell ⟨w.heap.size+1+1+1,9,none⟩ (.int .i64 ((k+1:Nat):Int))=wl at*
   have HSTEP:Hid ((if skipW (wdsV x)=true then some r else lineV r (wdsV x))=stepL r x):=hideIt rfl
   rw [HSTEP.out] at hread
   refine hread.mono ?_
   clear hread hwr hwl hK1 hxs hsum HBLK hbl qb
   rintro e w5 ⟨hk5,⟨hno,rfl,hln⟩ | ⟨r',hyes,rfl,hin⟩⟩
   ·have HM5:=hideIt (HM1.out.keep (hk5.mono0 fun j _ h=>by omega))
    have HP:=hideIt (parse_hit HS.out HL.out.up HX.out hno)
    clear hk5 hno
    go_wp2_with fail
    refine leaves_cons (f:=56) (args:= #[.pointer (some ⟨w.heap.size+1+1+1+1,0,none⟩),.pointer (some ⟨w.heap.size,0,none⟩),.pointer (some ⟨w.heap.size+1,0,none⟩),.pointer (some ⟨w.heap.size+1+1,0,none⟩)]) (by simp) (by simp [go_sem]) ?_
    refine(prs_fault (w.heap.size+1+1+1+1) w.heap.size (w.heap.size+1) (w.heap.size+1+1) (w.heap.size+1+1+1) 0 0 ((k+1:Nat):Int) _ _ _ _ _ _ _ _ w5 HM5.out.gr HM5.out.gm HM5.out.ge HM5.out.ga (by omega) (by omega) (by omega) hln (by omega) (by omega) (by omega) (by have:=HM5.out.top;omega) (by omega)).mono ?_
    rintro e u' wx ⟨rfl,rfl,hkx,hbm,hbe,hba⟩
    refine fin_prs hbm hbe hba rfl rfl rfl ⟨HM5.out.bel.trans (hkx.below HM5.out.bel.size fun j hj=>by omega),modZ,rfl,?_,?_⟩
    ·rw [HP.out];rfl
    ·rw [HP.out];exact modZ_reads wx _
   ·have HM5:=hideIt (HM1.out.keep (hk5.mono0 fun j _ h=>by omega))
    have HU:=hideIt (HL.out.up.next HX.out hyes)
    have HIN:=hideIt hin
    clear hk5 hyes hin
    go_wp2_with fail
    exact⟨⟨k+1,r',by omega,by go_num,⟨HM5.out,HIN.out,HU.out⟩⟩,by simp [intOf];omega⟩
  ·obtain rfl:k=n:=by omega
   have hlti:decide ((k:Int)<k)=false:=decide_eq_false (by omega)
   have q8:=hblk.q 8 rfl
   have HP:=hideIt (parse_end HS.out HN.out HL.out.up)
   by_cases h5:r.st<5
   ·have hge:decide ((r.st:Int)≥5)=false:=decide_eq_false (by omega)
    have hge':decide ((5:Int)≤r.st)=false:=decide_eq_false (by omega)
    have HP2:Hid (parseV s=(mod0,22,k)):=hideIt (by rw [HP.out,if_pos h5])
    have qc:=hblk.q 9 rfl
    clear hblk h5
    go_wp2_with fail
    refine(txt_must_no _).mono ?_
    rintro e w5 ⟨rfl,rfl⟩
    go_wp2_with fail
    refine leaves_cons (f:=56) (args:= #[.pointer (some ⟨w.heap.size+1+1+1+1,0,none⟩),.pointer (some ⟨w.heap.size,0,none⟩),.pointer (some ⟨w.heap.size+1,0,none⟩),.pointer (some ⟨w.heap.size+1+1,0,none⟩)]) (by simp) (by simp [go_sem]) ?_
    refine(prs_fault (w.heap.size+1+1+1+1) w.heap.size (w.heap.size+1) (w.heap.size+1+1) (w.heap.size+1+1+1) 0 0 (k:Int) _ _ _ _ _ _ _ _ wr HL.out.mem.gr HL.out.mem.gm HL.out.mem.ge HL.out.mem.ga (by omega) (by omega) (by omega) qc (by omega) (by omega) (by omega) hbl (by omega)).mono ?_
    rintro e u' wx ⟨rfl,rfl,hkx,hbm,hbe,hba⟩
    refine fin_prs hbm hbe hba rfl rfl rfl ⟨HL.out.mem.bel.trans (hkx.below HL.out.mem.bel.size fun j hj=>by omega),modZ,rfl,?_,?_⟩
    ·rw [HP2.out];rfl
    ·rw [HP2.out];exact modZ_reads wx _
   ·have hge:decide ((r.st:Int)≥5)=true:=decide_eq_true (by omega)
    have hge':decide ((5:Int)≤r.st)=true:=decide_eq_true (by omega)
    have H5:=hideIt h5
    clear h5
    go_wp2_with fail
    refine(txt_must_yes _).mono ?_
    rintro e w5 ⟨rfl,rfl⟩
    obtain⟨col,v1,v2,v3,v6,v7,v8,hrc⟩:=HL.out.rd.close
    obtain⟨A1,e1,_,rfl,_⟩:=hrc.six.p1
    obtain⟨A2,e2,_,rfl,_⟩:=hrc.six.p2
    obtain⟨A3,e3,_,rfl,_⟩:=hrc.six.p3
    obtain⟨A6,e6,_,rfl,_⟩:=hrc.six.p6
    obtain⟨A7,e7,_,rfl,_⟩:=hrc.six.p7
    obtain⟨A8,e8,_,rfl,_⟩:=hrc.six.p8
    have HR:=hideIt hrc.reads
    have HB:=hideIt hrc.blk
    have q0:=hrc.blk.q 0 rfl
    have q1:=hrc.blk.q 1 rfl
    have q2:=hrc.blk.q 2 rfl
    have q3:=hrc.blk.q 3 rfl
    have q4:=hrc.blk.q 4 rfl
    have q5:=hrc.blk.q 5 rfl
    have q6:=hrc.blk.q 6 rfl
    have q7:=hrc.blk.q 7 rfl
    clear hrc hblk q8
    go_wp2_with fail
    have hchk:=mod_Check [(.slice A1 r.m.types.length e1),(.slice A2 r.m.hosts.length e2),(.slice A3 r.m.globs.length e3),.int .i64 r.m.first,.int .i64 r.m.most,(.slice A6 r.m.fns.length e6),(.slice A7 r.m.dat.length e7),(.slice A8 r.m.exps.length e8)] wr.heap.size r.m wr (rMod.more (Nat.zero_le _) (Nat.le_refl _) HR.out) (Nat.le_refl _) (HL.out.up.small HS.out) (modNum_of HR.out) (fun w' hb=>HE.out.asc w' ((HL.out.mem.bel.mono hhi).trans (hb.mono (Nat.le_trans hhi HL.out.mem.bel.size))))
    refine hchk.mono ?_
    clear hchk
    rintro e w6 ⟨hb6,rfl⟩
    have HM6:=hideIt (HL.out.mem.keep ((Keep.of_all hb6).mono0 fun j hj _=>hj))
    have HB6:=hideIt hb6
    have hb6s:=hb6.size
    have m0:=HM6.out.gm.q 0 rfl
    have m1:=HM6.out.gm.q 1 rfl
    have m2:=HM6.out.gm.q 2 rfl
    have m3:=HM6.out.gm.q 3 rfl
    have m4:=HM6.out.gm.q 4 rfl
    have m5:=HM6.out.gm.q 5 rfl
    have m6:=HM6.out.gm.q 6 rfl
    have m7:=HM6.out.gm.q 7 rfl
    have n0:=HM6.out.gm.frozen 0
    have n1:=HM6.out.gm.frozen 1
    have n2:=HM6.out.gm.frozen 2
    have n3:=HM6.out.gm.frozen 3
    have n4:=HM6.out.gm.frozen 4
    have n5:=HM6.out.gm.frozen 5
    have n6:=HM6.out.gm.frozen 6
    have n7:=HM6.out.gm.frozen 7
    have k1:=HM6.out.ge.q 0 rfl
    have k2:=HM6.out.ga.q 0 rfl
    have f1:=HM6.out.ge.frozen 0
    have f2:=HM6.out.ga.frozen 0
    have g6:=HM6.out.gr.q 0 rfl
    have HB2:=hideIt (HB.out.below HB6.out hbl)
    clear hb6 q0 q1 q2 q3 q4 q5 q6 q7 qb HB
    by_cases hz:modE r.m=0
    ·have hz0:(modE r.m !=0)=false:=by rw [hz];rfl
     have HZ:Hid (parseV s=(r.m,0,0)):=hideIt (by rw [HP.out,if_neg H5.out,if_pos hz])
     have q0:=HB2.out.q 0 rfl
     have q1:=HB2.out.q 1 rfl
     have q2:=HB2.out.q 2 rfl
     have q3:=HB2.out.q 3 rfl
     have q4:=HB2.out.q 4 rfl
     have q5:=HB2.out.q 5 rfl
     have q6:=HB2.out.q 6 rfl
     have q7:=HB2.out.q 7 rfl
     clear hz
     go_wp2_with fail
     generalize hw7:World.setCell _ _ _=w7
     have hK7:Keep (fun j=>j≠w.heap.size∧j≠w.heap.size+1∧j≠w.heap.size+1+1) w6 w7:=by rw [←hw7];exact(((((((((((Keep.refl _ _).setCell (p:=⟨w.heap.size,0,none⟩) (fun e=>e.1 rfl) _).setCell (p:=⟨w.heap.size,1,none⟩) (fun e=>e.1 rfl) _).setCell (p:=⟨w.heap.size,2,none⟩) (fun e=>e.1 rfl) _).setCell (p:=⟨w.heap.size,3,none⟩) (fun e=>e.1 rfl) _).setCell (p:=⟨w.heap.size,4,none⟩) (fun e=>e.1 rfl) _).setCell (p:=⟨w.heap.size,5,none⟩) (fun e=>e.1 rfl) _).setCell (p:=⟨w.heap.size,6,none⟩) (fun e=>e.1 rfl) _).setCell (p:=⟨w.heap.size,7,none⟩) (fun e=>e.1 rfl) _).setCell (p:=⟨w.heap.size+1,0,none⟩) (fun e=>e.2.1 rfl) _).setCell (p:=⟨w.heap.size+1+1,0,none⟩) (fun e=>e.2.2 rfl) _)
     have hM7:Blk w7 w.heap.size 29 [(.slice A1 r.m.types.length e1),(.slice A2 r.m.hosts.length e2),(.slice A3 r.m.globs.length e3),.int .i64 r.m.first,.int .i64 r.m.most,(.slice A6 r.m.fns.length e6),(.slice A7 r.m.dat.length e7),(.slice A8 r.m.exps.length e8)]:=by rw [←hw7];exact((((((((((HM6.out.gm.set 0 (.slice A1 r.m.types.length e1)).set 1 (.slice A2 r.m.hosts.length e2)).set 2 (.slice A3 r.m.globs.length e3)).set 3 (.int .i64 r.m.first)).set 4 (.int .i64 r.m.most)).set 5 (.slice A6 r.m.fns.length e6)).set 6 (.slice A7 r.m.dat.length e7)).set 7 (.slice A8 r.m.exps.length e8)).far (p:=⟨w.heap.size+1,0,none⟩) (show w.heap.size≠w.heap.size+1 from by omega) _).far (p:=⟨w.heap.size+1+1,0,none⟩) (show w.heap.size≠w.heap.size+1+1 from by omega) _)
     have hE7:Blk w7 (w.heap.size+1) 33 [(.int .i64 0)]:=by rw [←hw7];exact((((((((((HM6.out.ge.far (p:=⟨w.heap.size,0,none⟩) (show w.heap.size+1≠w.heap.size from by omega) _).far (p:=⟨w.heap.size,1,none⟩) (show w.heap.size+1≠w.heap.size from by omega) _).far (p:=⟨w.heap.size,2,none⟩) (show w.heap.size+1≠w.heap.size from by omega) _).far (p:=⟨w.heap.size,3,none⟩) (show w.heap.size+1≠w.heap.size from by omega) _).far (p:=⟨w.heap.size,4,none⟩) (show w.heap.size+1≠w.heap.size from by omega) _).far (p:=⟨w.heap.size,5,none⟩) (show w.heap.size+1≠w.heap.size from by omega) _).far (p:=⟨w.heap.size,6,none⟩) (show w.heap.size+1≠w.heap.size from by omega) _).far (p:=⟨w.heap.size,7,none⟩) (show w.heap.size+1≠w.heap.size from by omega) _).set 0 (.int .i64 0)).far (p:=⟨w.heap.size+1+1,0,none⟩) (show w.heap.size+1≠w.heap.size+1+1 from by omega) _)
     have hA7:Blk w7 (w.heap.size+1+1) 3 [.int .i64 0]:=by rw [←hw7];exact((((((((((HM6.out.ga.far (p:=⟨w.heap.size,0,none⟩) (show w.heap.size+1+1≠w.heap.size from by omega) _).far (p:=⟨w.heap.size,1,none⟩) (show w.heap.size+1+1≠w.heap.size from by omega) _).far (p:=⟨w.heap.size,2,none⟩) (show w.heap.size+1+1≠w.heap.size from by omega) _).far (p:=⟨w.heap.size,3,none⟩) (show w.heap.size+1+1≠w.heap.size from by omega) _).far (p:=⟨w.heap.size,4,none⟩) (show w.heap.size+1+1≠w.heap.size from by omega) _).far (p:=⟨w.heap.size,5,none⟩) (show w.heap.size+1+1≠w.heap.size from by omega) _).far (p:=⟨w.heap.size,6,none⟩) (show w.heap.size+1+1≠w.heap.size from by omega) _).far (p:=⟨w.heap.size,7,none⟩) (show w.heap.size+1+1≠w.heap.size from by omega) _).far (p:=⟨w.heap.size+1,0,none⟩) (show w.heap.size+1+1≠w.heap.size+1 from by omega) _).set 0 (.int .i64 0))
     clear hw7
     refine leaves_cons (f:=56) (args:= #[.pointer (some ⟨w.heap.size+1+1+1+1,0,none⟩),.pointer (some ⟨w.heap.size,0,none⟩),.pointer (some ⟨w.heap.size+1,0,none⟩),.pointer (some ⟨w.heap.size+1+1,0,none⟩)]) (by simp) (by simp [go_sem]) ?_
     refine(prs_idle _ _ _ _ _).mono ?_
     rintro e u' wx ⟨rfl,rfl,rfl⟩
     refine fin_prs hM7 hE7 hA7 rfl rfl rfl ⟨HM6.out.bel.trans (hK7.below HM6.out.bel.size fun j hj=>by omega),[(.slice A1 r.m.types.length e1),(.slice A2 r.m.hosts.length e2),(.slice A3 r.m.globs.length e3),.int .i64 r.m.first,.int .i64 r.m.most,(.slice A6 r.m.fns.length e6),(.slice A7 r.m.dat.length e7),(.slice A8 r.m.exps.length e8)],rfl,?_,?_⟩
     ·rw [HZ.out];rfl
     ·rw [HZ.out];exact rMod.more (by omega) (Nat.le_trans hb6s hK7.size) (Rd.keepK (rMod.below HR.out HB6.out (Nat.le_refl _)) hK7 hb6s fun j ha hb=>by omega)
    ·have hz0:(modE r.m !=0)=true:=bne_iff_ne.2 hz
     have HZ:Hid (parseV s=(mod0,modE r.m,0)):=hideIt (by rw [HP.out,if_neg H5.out,if_neg hz])
     clear hz
     go_wp2_with fail
     generalize hw7:World.setCell _ _ _=w7
     have hK7:Keep (fun j=>j≠w.heap.size∧j≠w.heap.size+1∧j≠w.heap.size+1+1) w6 w7:=by rw [←hw7];exact(((((((((((Keep.refl _ _).setCell (p:=⟨w.heap.size,0,none⟩) (fun e=>e.1 rfl) _).setCell (p:=⟨w.heap.size,1,none⟩) (fun e=>e.1 rfl) _).setCell (p:=⟨w.heap.size,2,none⟩) (fun e=>e.1 rfl) _).setCell (p:=⟨w.heap.size,3,none⟩) (fun e=>e.1 rfl) _).setCell (p:=⟨w.heap.size,4,none⟩) (fun e=>e.1 rfl) _).setCell (p:=⟨w.heap.size,5,none⟩) (fun e=>e.1 rfl) _).setCell (p:=⟨w.heap.size,6,none⟩) (fun e=>e.1 rfl) _).setCell (p:=⟨w.heap.size,7,none⟩) (fun e=>e.1 rfl) _).setCell (p:=⟨w.heap.size+1,0,none⟩) (fun e=>e.2.1 rfl) _).setCell (p:=⟨w.heap.size+1+1,0,none⟩) (fun e=>e.2.2 rfl) _)
     have hM7:Blk w7 w.heap.size 29 [.slice none 0 0,.slice none 0 0,.slice none 0 0,.int .i64 0,.int .i64 0,.slice none 0 0,.slice none 0 0,.slice none 0 0]:=by rw [←hw7];exact((((((((((HM6.out.gm.set 0 (.slice none 0 0)).set 1 (.slice none 0 0)).set 2 (.slice none 0 0)).set 3 (.int .i64 0)).set 4 (.int .i64 0)).set 5 (.slice none 0 0)).set 6 (.slice none 0 0)).set 7 (.slice none 0 0)).far (p:=⟨w.heap.size+1,0,none⟩) (show w.heap.size≠w.heap.size+1 from by omega) _).far (p:=⟨w.heap.size+1+1,0,none⟩) (show w.heap.size≠w.heap.size+1+1 from by omega) _)
     have hE7:Blk w7 (w.heap.size+1) 33 [(.int .i64 (modE r.m))]:=by rw [←hw7];exact((((((((((HM6.out.ge.far (p:=⟨w.heap.size,0,none⟩) (show w.heap.size+1≠w.heap.size from by omega) _).far (p:=⟨w.heap.size,1,none⟩) (show w.heap.size+1≠w.heap.size from by omega) _).far (p:=⟨w.heap.size,2,none⟩) (show w.heap.size+1≠w.heap.size from by omega) _).far (p:=⟨w.heap.size,3,none⟩) (show w.heap.size+1≠w.heap.size from by omega) _).far (p:=⟨w.heap.size,4,none⟩) (show w.heap.size+1≠w.heap.size from by omega) _).far (p:=⟨w.heap.size,5,none⟩) (show w.heap.size+1≠w.heap.size from by omega) _).far (p:=⟨w.heap.size,6,none⟩) (show w.heap.size+1≠w.heap.size from by omega) _).far (p:=⟨w.heap.size,7,none⟩) (show w.heap.size+1≠w.heap.size from by omega) _).set 0 (.int .i64 (modE r.m))).far (p:=⟨w.heap.size+1+1,0,none⟩) (show w.heap.size+1≠w.heap.size+1+1 from by omega) _)
     have hA7:Blk w7 (w.heap.size+1+1) 3 [.int .i64 0]:=by rw [←hw7];exact((((((((((HM6.out.ga.far (p:=⟨w.heap.size,0,none⟩) (show w.heap.size+1+1≠w.heap.size from by omega) _).far (p:=⟨w.heap.size,1,none⟩) (show w.heap.size+1+1≠w.heap.size from by omega) _).far (p:=⟨w.heap.size,2,none⟩) (show w.heap.size+1+1≠w.heap.size from by omega) _).far (p:=⟨w.heap.size,3,none⟩) (show w.heap.size+1+1≠w.heap.size from by omega) _).far (p:=⟨w.heap.size,4,none⟩) (show w.heap.size+1+1≠w.heap.size from by omega) _).far (p:=⟨w.heap.size,5,none⟩) (show w.heap.size+1+1≠w.heap.size from by omega) _).far (p:=⟨w.heap.size,6,none⟩) (show w.heap.size+1+1≠w.heap.size from by omega) _).far (p:=⟨w.heap.size,7,none⟩) (show w.heap.size+1+1≠w.heap.size from by omega) _).far (p:=⟨w.heap.size+1,0,none⟩) (show w.heap.size+1+1≠w.heap.size+1 from by omega) _).set 0 (.int .i64 0))
     clear hw7
     refine leaves_cons (f:=56) (args:= #[.pointer (some ⟨w.heap.size+1+1+1+1,0,none⟩),.pointer (some ⟨w.heap.size,0,none⟩),.pointer (some ⟨w.heap.size+1,0,none⟩),.pointer (some ⟨w.heap.size+1+1,0,none⟩)]) (by simp) (by simp [go_sem]) ?_
     refine(prs_idle _ _ _ _ _).mono ?_
     rintro e u' wx ⟨rfl,rfl,rfl⟩
     refine fin_prs hM7 hE7 hA7 rfl rfl rfl ⟨HM6.out.bel.trans (hK7.below HM6.out.bel.size fun j hj=>by omega),modZ,rfl,?_,?_⟩
     ·rw [HZ.out];rfl
     ·rw [HZ.out];exact modZ_reads _ _
theorem txt_Parse (s:ByteArray) {hi:Nat} (w:World) (hE:EnvAt hi w) (hhi:hi≤w.heap.size):Calls prog 14 #[.string s] w (ParsePost w s):=by
 by_cases hs:1048576<s.size
 ·exact prs_big hs w
 ·exact prs_fit (by omega) w hE hhi
def kM:ModV:=⟨[⟨⟨#[119]⟩,⟨#[]⟩⟩],[],[],1,2,[⟨0,⟨#[108]⟩,[⟨9,0,[0,1]⟩,⟨6,0,[]⟩]⟩],[],[]⟩
def kT:ByteArray:=⟨#[102,108,97,103,111,110,10,116,121,112,101,32,119,32,45,62,32,45,10,109,101,109,111,114,121,32,49,32,50,10,102,117,110,99,32,48,32,108,10,32,32,98,114,116,97,98,108,101,32,48,32,49,10,32,32,101,110,100,10]⟩
def kB:ByteArray:=⟨#[102,108,97,103,111,110,10,101,120,116,101,114,110]⟩
theorem kM_num:ModNum kM:=⟨by decide,by decide,by decide,by decide,(by decide: ∀f∈kM.fns,f.t<9223372036854775808∧ ∀x∈f.code,(-9223372036854775808≤x.a∧x.a<9223372036854775808)∧ ∀n∈x.l,n<9223372036854775808),by decide,by decide⟩
theorem kM_E:modE kM=0:=by decide+kernel
theorem kM_T:bOf (printT kM)=kT:=by decide+kernel
theorem kT_parse:parseV kT=(kM,0,0):=by rw [←kM_T];exact parse_print kM_E kM_num
theorem kB_parse:parseV kB=(mod0,22,2):=by kernel_rfl
end Go.Proofs.YtebgikflpgcnlaaGreatDoor
