/- Part 38 of the proof: RefF RefG RefH -/
import Derived.Test.YtlagonfamllgjaaGreatDoorK18
namespace Go.Proofs.YtlagonfamllgjaaGreatDoor
set_option linter.unusedVariables false
set_option linter.unusedSimpArgs false
set_option maxRecDepth 100000
set_option maxHeartbeats 4000000
open Go.RowKit Tryz
theorem RO (cs:List Value) (hi:Nat) (m:AP) (w:World) (h:DJ.R w 0 hi cs m) (hhi:hi≤w.heap.size):
 Calls prog 137 #[.agg cs.toArray] w fun e w'=>Below w.heap.size w w'∧e= .returned (.int .i64 (Cq (FK m) (Fu m))):=by
 obtain⟨v1,v2,v3,v4,v5,v6,rfl,_,_,h2,hf3,Xj,_⟩:=Am.1 h
 obtain⟨A2,c2,rfl⟩:=AB h2
 have H2:=AA h2;have Bw:=AA hhi
 unfold Rd.G8 at hf3 Xj
 clear h h2 hhi
 go_enter func137,ntmps137
 go_upto_region 1 with fail
 generalize hw1:w.alloc (.cells #[v1,v2,.slice A2 m.globs.length c2,.int .i64 m.first,.int .i64 m.most,v4,v5,v6] 29)=w1
 obtain⟨hb1,hx1⟩:=QK hw1
 have HB1:=AA hb1;have CX:=AA hx1
 clear hw1 hb1 hx1
 have q2:=CX.out.q 2 rfl
 by_cases hn:m.globs.length≤64
 case neg=>
  have hd:decide (64<m.globs.length)=true:=decide_eq_true (by omega)
  have hdi:decide ((64:Int)<(m.globs.length:Int))=true:=decide_eq_true (by omega)
  have HE:Hid (Cq (FK m) (Fu m)=20):=AA (by unfold FK;rw [CJ (decide_eq_false hn)];rfl)
  clear hn
  go_wp2_with fail
  go_ret
  exact⟨HB1.out,by rw [HE.out];rfl⟩
 have hd:decide (64<m.globs.length)=false:=decide_eq_false (by omega)
 have hdi:decide ((64:Int)<(m.globs.length:Int))=false:=decide_eq_false (by omega)
 have U9:Hid (FK m=Aa m.globs.length (IG m)):=AA (by unfold FK;rw [BX (decide_eq_true hn),AY rfl])
 go_wp2_with fail
 clear q2
 go_loopw [3] (fun i wr=> ∃k:Nat,i= .int .i64 k∧Lr m.globs.length (IG m) k∧Below w1.heap.size w1 wr) (fun i _=>m.globs.length-(intOf i).toNat)
 case atStart=>exact⟨0,rfl,⟨Nat.zero_le _,rfl⟩,Below.refl _ _⟩
 case round=>
  obtain⟨k,rfl,hg,hbr⟩:=hrel
  have HG:=AA hg
  have JG:=AA hbr
  have EP:Hid (Below w.heap.size w wr):=AA (HB1.out.trans (hbr.mono HB1.out.size))
  have Ri:=AA (CX.out.below hbr CX.out.lt)
  have q2:=Ri.out.q 2 rfl
  clear hg hbr
  by_cases hlt:k<m.globs.length
  ·obtain⟨x,hx⟩: ∃x,m.globs[k]?=some x:=⟨_,List.getElem?_eq_getElem hlt⟩
   obtain⟨b,o,eA,_,hbb,d0,d1,d2,b64⟩:=Eh H2.out hx
   subst eA
   have lb:b<w.heap.size:=Nat.lt_of_lt_of_le hbb Bw.out
   have e0:=(EP.out.cell lb (p:=⟨b,o+k*3,none⟩)).trans d0
   have e2:=(EP.out.cell lb (p:=⟨b,o+k*3+2,none⟩)).trans d2
   have hk0:(0:Int)≤k:=by omega
   have hk1:(k:Int)<m.globs.length:=by omega
   have qo:Hid (IG m k=Cq (Ae (M9 x.l.toNat) 15) (Ae (Dr x.v x.l.toNat) 17)):=AA (by unfold IG;rw [hx])
   clear hx d0 d1 d2 b64 hbb
   cases hl:M9 x.l.toNat with
   | false=>
    have HL:Hid (∀W,Calls prog 174 #[.int .u8 (x.l.toNat:Int)] W fun e w'=>W=w'∧e= .returned (.bool false)):=AA (fun W=>hl▸OH x.l.toNat x.l.toNat_lt W)
    have HE:Hid (Cq (FK m) (Fu m)=15):=AA (by
     have ha:IG m k=15:=by rw [qo.out,hl];rfl
     rw [U9.out,HG.out.hit hlt (by rw [ha];decide),ha];rfl)
    clear hl
    go_wp2_with fail
    refine(HL.out wr).mono ?_
    rintro e w' ⟨rfl,rfl⟩
    go_wp2_with fail
    go_ret
    exact⟨EP.out,by rw [HE.out];rfl⟩
   | true=>
    have HL:Hid (∀W,Calls prog 174 #[.int .u8 (x.l.toNat:Int)] W fun e w'=>W=w'∧e= .returned (.bool true)):=AA (fun W=>hl▸OH x.l.toNat x.l.toNat_lt W)
    cases hf:Dr x.v x.l.toNat with
    | false=>
     have HF:Hid (∀W,Calls prog 175 #[.int .u64 (x.v:Int),.int .u8 (x.l.toNat:Int)] W fun e w'=>W=w'∧e= .returned (.bool false)):=AA (fun W=>hf▸U7 x.v x.l.toNat x.l.toNat_lt W)
     have HE:Hid (Cq (FK m) (Fu m)=17):=AA (by
      have ha:IG m k=17:=by rw [qo.out,hl,hf];rfl
      rw [U9.out,HG.out.hit hlt (by rw [ha];decide),ha];rfl)
     clear hl hf
     go_wp2_with fail
     refine(HL.out wr).mono ?_
     rintro e w' ⟨rfl,rfl⟩
     go_wp2_with fail
     go_quiet ((go_at_call 175;first | exact BA (HF.out _) | exact BF (HF.out _)))
     go_wp2_with fail
     go_ret
     exact⟨below_drewN EP.out _,by rw [HE.out];rfl⟩
    | true=>
     have HF:Hid (∀W,Calls prog 175 #[.int .u64 (x.v:Int),.int .u8 (x.l.toNat:Int)] W fun e w'=>W=w'∧e= .returned (.bool true)):=AA (fun W=>hf▸U7 x.v x.l.toNat x.l.toNat_lt W)
     have HG0:Hid (IG m k=0):=AA (by rw [qo.out,hl,hf];rfl)
     clear hl hf
     go_wp2_with fail
     refine(HL.out wr).mono ?_
     rintro e w' ⟨rfl,rfl⟩
     go_wp2_with fail
     go_quiet ((go_at_call 175;first | exact BA (HF.out _) | exact BF (HF.out _)))
     go_wp2_with fail
     exact⟨⟨k+1,by go_num,HG.out.step hlt HG0.out,below_drewN JG.out _⟩,by simp [intOf];omega⟩
  ·have Pw:Hid (Cq (FK m) (Fu m)=Fu m):=AA (by
    have:k=m.globs.length:=by have:=HG.out.1;omega
    rw [U9.out,←this,HG.out.2,AY rfl])
   have q3:=Ri.out.q 3 rfl
   have q4:=Ri.out.q 4 rfl
   have key:(Fu m=17∧(decide (m.first<0)=true∨(decide (m.first<0)=false∧decide (64<m.first)=true)∨(decide (m.first<0)=false∧decide (64<m.first)=false∧decide (m.most<m.first)=true)∨(decide (m.first<0)=false∧decide (64<m.first)=false∧decide (m.most<m.first)=false∧decide (64<m.most)=true)))∨
    (Fu m=0∧decide (m.first<0)=false∧decide (64<m.first)=false∧decide (m.most<m.first)=false∧decide (64<m.most)=false):=by
    unfold Fu
    by_cases hp:0≤m.first∧m.first≤64∧m.first≤m.most∧m.most≤64
    ·refine .inr ⟨BX (decide_eq_true hp),decide_eq_false (by omega),decide_eq_false (by omega),decide_eq_false (by omega),decide_eq_false (by omega)⟩
    ·refine .inl ⟨CJ (decide_eq_false hp),?_⟩
     simp only [decide_eq_true_eq,decide_eq_false_iff_not]
     omega
   rcases key with⟨hp,k1 | ⟨k1,k2⟩ | ⟨k1,k2,k3⟩ | ⟨k1,k2,k3,k4⟩⟩ | ⟨hp,k1,k2,k3,k4⟩
   all_goals
    have HP:=AA hp
    clear hp
    go_wp2_with fail
    go_ret
    exact⟨EP.out,by rw [Pw.out,HP.out];rfl⟩
theorem Pb (cs:List Value) (hi:Nat) (m:AP) (w:World) (h:DJ.R w 0 hi cs m) (hhi:hi≤w.heap.size) (hty: ∀t∈m.types,t.p.size≤8):
 Calls prog 138 #[.agg cs.toArray] w fun e w'=>Below w.heap.size w w'∧e= .returned (.int .i64 (Ja m)):=by
 obtain⟨v1,v2,v3,v4,v5,v6,rfl,h0,_,_,_,_,h5,_⟩:=Am.1 h
 obtain⟨A0,c0,rfl⟩:=AB h0
 obtain⟨A5,c5,rfl⟩:=AB h5
 have H0:=AA h0;have H5:=AA h5;have Bw:=AA hhi;have L8:=AA hty
 clear h h0 h5 hhi hty
 go_enter func138,ntmps138
 go_upto_region 1 with fail
 generalize hw1:w.alloc (.cells #[.slice A0 m.types.length c0,v2,v3,.int .i64 m.first,.int .i64 m.most,.slice A5 m.fns.length c5,v5,v6] 29)=w1
 obtain⟨hb1,hx1⟩:=QK hw1
 have HB1:=AA hb1;have CX:=AA hx1
 clear hw1 hb1 hx1
 have q5:=CX.out.q 5 rfl
 by_cases hn:m.fns.length≤128
 case neg=>
  have hd:decide (128<m.fns.length)=true:=decide_eq_true (by omega)
  have hdi:decide ((128:Int)<(m.fns.length:Int))=true:=decide_eq_true (by omega)
  have HE:Hid (Ja m=20):=AA (by unfold Ja;rw [CJ (decide_eq_false hn)];rfl)
  clear hn
  go_wp2_with fail
  go_ret
  exact⟨HB1.out,by rw [HE.out];rfl⟩
 have hd:decide (128<m.fns.length)=false:=decide_eq_false (by omega)
 have hdi:decide ((128:Int)<(m.fns.length:Int))=false:=decide_eq_false (by omega)
 have U9:Hid (Ja m=Aa m.fns.length (UL m)):=AA (by unfold Ja;rw [BX (decide_eq_true hn),AY rfl])
 go_wp2_with fail
 clear q5
 go_loopw [3,4,5,6,7] (fun al i _ _ _ wr=> ∃k:Nat,i= .int .i64 k∧al= .int .i64 (FJ m k:Nat)∧FJ m k≤16384∧Lr m.fns.length (UL m) k∧Below w1.heap.size w1 wr) (fun _ i _ _ _ _=>m.fns.length-(intOf i).toNat)
 case atStart=>exact⟨0,rfl,rfl,Nat.zero_le _,⟨Nat.zero_le _,rfl⟩,Below.refl _ _⟩
 case round=>
  obtain⟨k,rfl,rfl,hal,hg,hbr⟩:=hrel
  have HG:=AA hg
  have JG:=AA hbr
  have EP:Hid (Below w.heap.size w wr):=AA (HB1.out.trans (hbr.mono HB1.out.size))
  have Ri:=AA (CX.out.below hbr CX.out.lt)
  have q5:=Ri.out.q 5 rfl
  clear hg hbr
  by_cases hlt:k<m.fns.length
  case neg=>
   have HE:Hid (Ja m=0):=AA (by
    have:k=m.fns.length:=by have:=HG.out.1;omega
    rw [U9.out,←this];exact HG.out.2)
   go_wp2_with fail
   go_ret
   exact⟨EP.out,by rw [HE.out];rfl⟩
  obtain⟨x,hx⟩: ∃x,m.fns[k]?=some x:=⟨_,List.getElem?_eq_getElem hlt⟩
  obtain⟨b,o,TJ,Ko,eA,_,hbb,d0,d1,d2,t63,sl,hcd⟩:=Eu H5.out hx
  subst eA
  have lb:b<w.heap.size:=Nat.lt_of_lt_of_le hbb Bw.out
  have X5:=AA hcd
  have e0:=(EP.out.cell lb (p:=⟨b,o+k*3,none⟩)).trans d0
  have e1:=(EP.out.cell lb (p:=⟨b,o+k*3+1,none⟩)).trans d1
  have e2:=(EP.out.cell lb (p:=⟨b,o+k*3+2,none⟩)).trans d2
  have hk0:(0:Int)≤k:=by omega
  have hk1:(k:Int)<m.fns.length:=by omega
  have jk:Hid (UL m k=Cq (Ae (decide (0≤x.t∧x.t<m.types.length)) 30) (Cq (CK x.loc (64-KH m x.t)) (Cq (Ae (decide (x.code.length≤2048)) 20) (Cq (Ae (decide (FJ m (k+1)≤16384)) 20) (Aa x.code.length (KX x)))))):=AA (by unfold UL;rw [hx])
  have qw:Hid (FJ m (k+1)=FJ m k+x.code.length):=AA (by
   unfold FJ
   have:m.fns[k]=x:=by rw [List.getElem?_eq_getElem hlt] at hx;injection hx
   rw [List.take_succ_eq_append_getElem hlt,this];simp [BG])
  unfold Rd.G8 at t63
  clear hx d0 d1 d2 hbb hcd
  go_upto_region 8 with fail
  generalize hw2:wr.alloc (.cells #[.int .i64 x.t,.string x.loc,.slice TJ x.code.length Ko] 96)=w2
  have hb2:Below wr.heap.size wr w2:=by rw [←hw2];exact(Below.refl _ _).alloc (Nat.le_refl _) _
  have Im:Hid (AQ w2 wr.heap.size 96 [.int .i64 x.t,.string x.loc,.slice TJ x.code.length Ko]):=AA (by rw [←hw2];exact AQ.new wr 96 _)
  have CV:=AA (Ri.out.below hb2 Ri.out.lt)
  have HB2:Hid (Below w.heap.size w w2):=AA (EP.out.trans (hb2.mono EP.out.size))
  have Sm:Hid (Below w1.heap.size w1 w2):=AA (JG.out.trans (hb2.mono JG.out.size))
  clear hw2 hb2 e0 e1 e2 q5
  have r0:=Im.out.q 0 rfl
  have r1:=Im.out.q 1 rfl
  have r2:=Im.out.q 2 rfl
  have q0:=CV.out.q 0 rfl
  by_cases hin:0≤x.t∧x.t<m.types.length
  case neg=>
   have HE:Hid (Ja m=30):=AA (by
    have ha:UL m k=30:=by rw [jk.out,CJ (decide_eq_false hin)];rfl
    rw [U9.out,HG.out.hit hlt (by rw [ha];decide),ha])
   have key:decide (x.t<0)=true∨(decide (x.t<0)=false∧decide ((m.types.length:Int)≤x.t)=true):=by
    simp only [decide_eq_true_eq,decide_eq_false_iff_not];omega
   clear hin
   rcases key with k1 | ⟨k1,k2⟩
   all_goals
    go_wp2_with fail
    go_ret
    exact⟨HB2.out,by rw [HE.out];rfl⟩
  obtain⟨t,ht⟩: ∃t:Nat,x.t=(t:Int):=⟨x.t.toNat,by omega⟩
  obtain⟨ty,hty⟩: ∃ty,m.types[t]?=some ty:=⟨_,List.getElem?_eq_getElem (by omega)⟩
  obtain⟨b',o',eA,_,Sq,f0,_,_,_⟩:=CZ H0.out hty
  subst eA
  have g0:=(HB2.out.cell (Nat.lt_of_lt_of_le Sq Bw.out) (p:=⟨b',o'+t*2,none⟩)).trans f0
  have hpl:KH m x.t=ty.p.size:=by unfold KH;rw [ht,Int.toNat_natCast,hty]
  have hp8:=L8.out ty (List.mem_of_getElem? hty)
  obtain⟨room,hroom⟩: ∃room,64-ty.p.size=room:=⟨_,rfl⟩
  have tH:(64:Int)-(ty.p.size:Int)=(room:Int):=by omega
  have iR:Hid (UL m k=Cq (CK x.loc room) (Cq (Ae (decide (x.code.length≤2048)) 20) (Cq (Ae (decide (FJ m (k+1)≤16384)) 20) (Aa x.code.length (KX x))))):=AA (by
   rw [jk.out,BX (decide_eq_true hin),AY rfl,hpl,tH])
  have t0:(0:Int)≤t:=by omega
  have t1:(t:Int)<m.types.length:=by omega
  have k1:decide ((t:Int)<0)=false:=decide_eq_false (by omega)
  have k2:decide ((m.types.length:Int)≤(t:Int))=false:=decide_eq_false (by omega)
  have k2n:decide (m.types.length≤t)=false:=decide_eq_false (by omega)
  have HTN:=AA ht
  rw [ht] at r0
  obtain⟨le,hle⟩: ∃le,CK x.loc room=le:=⟨_,rfl⟩
  have I7:Hid (∀W,Calls prog 173 #[.string x.loc,.int .i64 ((64:Int)-(ty.p.size:Int))] W fun e w'=>W=w'∧e= .returned (.int .i64 le)):=AA (fun W=>by rw [tH,←hle];exact OP x.loc room (by omega) sl W)
  rw [hle] at iR
  have hwr:IntKind.i64.wrap ((64:Int)-(ty.p.size:Int))=(64:Int)-(ty.p.size:Int):=IntWalk.i64_in _ (by omega)
  clear jk hin ht hty f0 Sq hpl tH hroom hle sl
  go_wp2_with fail
  go_quiet ((go_at_call 173;first | exact BA (I7.out _) | exact BF (I7.out _)))
  clear hwr
  generalize hw3:w2.drewN _=w3
  have HB3:Hid (Below w.heap.size w w3):=AA (by rw [←hw3];exact below_drewN HB2.out _)
  have vU:Hid (Below w1.heap.size w1 w3):=AA (by rw [←hw3];exact below_drewN Sm.out _)
  have UC:Hid (AQ w3 wr.heap.size 96 [.int .i64 t,.string x.loc,.slice TJ x.code.length Ko]):=AA (by
   rw [←hw3,←HTN.out];exact Im.out.drewN _)
  clear hw3 r0 r1 r2 q0 g0
  have r2:=UC.out.q 2 rfl
  by_cases hl0:le=0
  case neg=>
   have ql:(le !=0)=true:=by simpa using hl0
   have HE:Hid (Ja m=le):=AA (by
    have ha:UL m k=le:=by rw [iR.out,Br hl0]
    rw [U9.out,HG.out.hit hlt (by rw [ha];exact hl0),ha])
   clear hl0
   go_wp2_with fail
   go_ret
   exact⟨HB3.out,by rw [HE.out];rfl⟩
  subst hl0
  by_cases hc1:x.code.length≤2048
  case neg=>
   have z1:decide (2048<x.code.length)=true:=decide_eq_true (by omega)
   have z1i:decide ((2048:Int)<(x.code.length:Int))=true:=decide_eq_true (by omega)
   have HE:Hid (Ja m=20):=AA (by
    have ha:UL m k=20:=by rw [iR.out,AY rfl,CJ (decide_eq_false hc1)];rfl
    rw [U9.out,HG.out.hit hlt (by rw [ha];decide),ha])
   clear hc1
   go_wp2_with fail
   go_ret
   exact⟨HB3.out,by rw [HE.out];rfl⟩
  have z1:decide (2048<x.code.length)=false:=decide_eq_false (by omega)
  have z1i:decide ((2048:Int)<(x.code.length:Int))=false:=decide_eq_false (by omega)
  by_cases hc2:FJ m k+x.code.length≤16384
  case neg=>
   have z2:decide ((16384:Int)<(FJ m k:Int)+(x.code.length:Int))=true:=decide_eq_true (by omega)
   have HE:Hid (Ja m=20):=AA (by
    have ha:UL m k=20:=by rw [iR.out,AY rfl,BX (decide_eq_true hc1),AY rfl,qw.out,CJ (decide_eq_false hc2)];rfl
    rw [U9.out,HG.out.hit hlt (by rw [ha];decide),ha])
   clear hc2
   go_wp2_with fail
   go_ret
   exact⟨HB3.out,by rw [HE.out];rfl⟩
  have z2:decide ((16384:Int)<(FJ m k:Int)+(x.code.length:Int))=false:=decide_eq_false (by omega)
  have AEW:Hid (UL m k=Aa x.code.length (KX x)):=AA (by rw [iR.out,AY rfl,BX (decide_eq_true hc1),AY rfl,qw.out,BX (decide_eq_true hc2),AY rfl])
  clear iR
  go_wp2_with fail
  clear r2 z1 z1i z2
  obtain⟨wo,rfl⟩: ∃wo:World,wo=wr:=⟨_,rfl⟩
  go_loopw [6,7] (fun _ i wv=> ∃j:Nat,i= .int .i64 j∧Lr x.code.length (KX x) j∧Below w3.heap.size w3 wv) (fun _ i _=>x.code.length-(intOf i).toNat)
  case atStart=>exact⟨0,rfl,⟨Nat.zero_le _,rfl⟩,Below.refl _ _⟩
  case round=>
   obtain⟨j,rfl,hgj,hbv⟩:=hrel
   have vV:=AA hgj
   have Z4:=AA hbv
   have KM:Hid (Below w.heap.size w wr):=AA (HB3.out.trans (hbv.mono HB3.out.size))
   have YQ:=AA (UC.out.below hbv UC.out.lt)
   have r2:=YQ.out.q 2 rfl
   clear hgj hbv
   by_cases hjl:j<x.code.length
   ·obtain⟨z,hz⟩: ∃z,x.code[j]?=some z:=⟨_,List.getElem?_eq_getElem hjl⟩
    obtain⟨b2,o2,cs2,eC,hb2,i0,i1,i2,hrz⟩: ∃b2 o2 cs2,TJ=some ⟨b2,o2,none⟩∧b2<hi∧w.cell? ⟨b2,o2+j*3,none⟩=some (.int .u8 (z.op.toNat:Int))∧w.cell? ⟨b2,o2+j*3+1,none⟩=some (.int .i64 z.a)∧w.cell? ⟨b2,o2+j*3+2,none⟩=some cs2∧Ei.R w 0 hi [.int .u8 (z.op.toNat:Int),.int .i64 z.a,cs2] z:=by
     obtain⟨b2,o2,Al,cl,e1,_,h2,h3,h4,h5,h6,h7⟩:=Dy X5.out hz
     exact⟨b2,o2,_,e1,h2,h3,h4,h5,DL.2 ⟨_,rfl,h6,h7⟩⟩
    subst eC
    have tK:b2<w.heap.size:=Nat.lt_of_lt_of_le hb2 Bw.out
    have e0:=(KM.out.cell tK (p:=⟨b2,o2+j*3,none⟩)).trans i0
    have e1:=(KM.out.cell tK (p:=⟨b2,o2+j*3+1,none⟩)).trans i1
    have e2:=(KM.out.cell tK (p:=⟨b2,o2+j*3+2,none⟩)).trans i2
    have hj0:(0:Int)≤j:=by omega
    have hj1:(j:Int)<x.code.length:=by omega
    obtain⟨ie,hie⟩: ∃ie,Ar z=ie:=⟨_,rfl⟩
    have yR:Hid (KX x j=ie):=AA (by unfold KX;rw [hz,←hie])
    have HCK:Hid (Calls prog 176 #[.agg #[.int .u8 (z.op.toNat:Int),.int .i64 z.a,cs2]] wr fun e w'=>Below wr.heap.size wr w'∧e= .returned (.int .i64 ie)):=AA (hie▸Sl [.int .u8 (z.op.toNat:Int),.int .i64 z.a,cs2] hi z wr (Rd.below hrz KM.out Bw.out) (Nat.le_trans Bw.out KM.out.size) (fun op W h=>WC op W h))
    clear hz i0 i1 i2 hrz hie hb2
    go_wp2_with fail
    refine HCK.out.mono ?_
    rintro e w5 ⟨hb5,rfl⟩
    have D8:Hid (Below w3.heap.size w3 w5):=AA (Z4.out.trans (hb5.mono Z4.out.size))
    have HB5W:Hid (Below w.heap.size w w5):=AA (KM.out.trans (hb5.mono KM.out.size))
    clear hb5 e0 e1 e2 r2
    by_cases hi0:ie=0
    ·subst hi0
     go_wp2_with fail
     exact⟨⟨j+1,by go_num,vV.out.step hjl yR.out,D8.out⟩,by simp [intOf];omega⟩
    ·have qi:(ie !=0)=true:=by simpa using hi0
     have HE:Hid (Ja m=ie):=AA (by
      have ha:UL m k=ie:=by rw [AEW.out,vV.out.hit hjl (by rw [yR.out];exact hi0),yR.out]
      rw [U9.out,HG.out.hit hlt (by rw [ha];exact hi0),ha])
     clear hi0
     go_wp2_with fail
     go_ret
     exact⟨HB5W.out,by rw [HE.out];rfl⟩
   ·have Pv:Hid (UL m k=0):=AA (by
     have:j=x.code.length:=by have:=vV.out.1;omega
     rw [AEW.out,←this];exact vV.out.2)
    have HBR5:Hid (Below w1.heap.size w1 wr):=AA (vU.out.trans (Z4.out.mono vU.out.size))
    go_wp2_with fail
    exact⟨⟨k+1,by go_num,by rw [qw.out];rfl,by rw [qw.out];omega,HG.out.step hlt Pv.out,HBR5.out⟩,by simp [intOf];omega⟩
def Wn (s ahead:ByteArray) (first:Bool):Int:=if first then 0 else Ae (!(Ox s ahead)) 18
theorem iT (s ahead:ByteArray) (fst:Bool) (h47:s.size≤140737488351232) (w:World):
 Calls prog 177 #[.string s,.string ahead,.bool fst] w fun e w'=>w=w'∧e= .returned (.int .i64 (Cq (Np s) (Wn s ahead fst))):=by
 generalize Xk:Cq _ _=EE
 have HE:=AA Xk
 clear Xk
 unfold Np at HE
 have hsz:s.data.toList.length=s.size:=by simp
 have Vm:=AA hsz;clear hsz
 by_cases h32:s.size≤32
 case neg=>
  have hd:decide (32<s.size)=true:=decide_eq_true (by omega)
  have hdi:decide ((32:Int)<(s.size:Int))=true:=decide_eq_true (by omega)
  have hX:Hid (EE=13):=AA (by rw [←HE.out,CJ (decide_eq_false h32)];rfl)
  clear h32 HE
  go_enter func177,ntmps177
  go_wp2_with fail
  go_ret
  exact⟨rfl,by rw [hX.out];rfl⟩
 have hd:decide (32<s.size)=false:=decide_eq_false (by omega)
 have hdi:decide ((32:Int)<(s.size:Int))=false:=decide_eq_false (by omega)
 by_cases hz:s.size=0
 ·have hX:Hid (EE=23):=AA (by rw [←HE.out,BX (decide_eq_true h32),CJ (decide_eq_false (by omega))];rfl)
  have e0:s.toList= []:=by rw [ByteArray.toList_eq];exact List.length_eq_zero_iff.1 (by rw [Array.length_toList];exact hz)
  clear hz HE
  go_enter func177,ntmps177
  go_wp2_with fail
  go_ret
  exact⟨rfl,by rw [hX.out];rfl⟩
 have en: ¬s.toList= []:=fun e=>hz (by rw [ByteArray.toList_eq] at e;have:=congrArg List.length e;rw [Array.length_toList] at this;exact this)
 have e0:(!s.toList.isEmpty)=true:=by cases hh:s.toList with | nil=>exact absurd hh en | cons _ _=>rfl
 have e1:(s.toList== [])=false:=by cases hh:s.toList with | nil=>exact absurd hh en | cons _ _=>rfl
 have HZ:Hid (EE=Cq (Ae (s.data.toList.all P5) 23) (Wn s ahead fst)):=AA (by
  rw [←HE.out,BX (decide_eq_true h32),AY rfl,BX (decide_eq_true (by omega)),AY rfl])
 have AEX:=sO 9 s ahead
 clear hz HE en h32
 go_enter func177,ntmps177
 go_wp2_with fail
 go_loop [7] (fun i=> ∃k:Nat,k≤s.size∧i= .int .i64 k∧(s.data.toList.drop k).all P5=s.data.toList.all P5) (fun i=>s.size-(intOf i).toNat)
 case atStart=>exact⟨0,Nat.zero_le _,rfl,rfl⟩
 case round=>
  obtain⟨k,hk,rfl,hR⟩:=hrel
  have HR2:=AA hR;clear hR
  by_cases hlt:k<s.size
  ·have Hd:=AA (drop_at s.data.toList k (by rw [Vm.out];exact hlt))
   have hb:=byte_at s k hlt
   have Hb:=AA hb;clear hb
   have hk0:(0:Int)≤k:=by omega
   have HR3:Hid ((P5 (s.data.toList[k]?.getD 0)&&(s.data.toList.drop (k+1)).all P5)=s.data.toList.all P5):=AA (by rw [←HR2.out,Hd.out];rfl)
   have hbn:(s[k]'hlt).toNat=(s.data.toList[k]?.getD 0).toNat:=congrArg UInt8.toNat Hb.out
   have key:(P5 (s.data.toList[k]?.getD 0)=false∧(decide (((s[k]'hlt).toNat:Int)<33)=true∨(decide (((s[k]'hlt).toNat:Int)<33)=false∧decide ((126:Int)<((s[k]'hlt).toNat:Int))=true)))∨
    (P5 (s.data.toList[k]?.getD 0)=true∧decide (((s[k]'hlt).toNat:Int)<33)=false∧decide ((126:Int)<((s[k]'hlt).toNat:Int))=false):=by
    unfold P5
    simp only [decide_eq_true_eq,decide_eq_false_iff_not]
    omega
   clear Hd HR2 hbn Hb
   rcases key with⟨hc,k1 | ⟨k1,k2⟩⟩ | ⟨hc,k1,k2⟩
   rotate_left 2
   ·have HG:Hid ((s.data.toList.drop (k+1)).all P5=s.data.toList.all P5):=AA (by rw [←HR3.out,hc,Bool.true_and])
    clear hc
    go_wp2_with fail
    exact⟨⟨k+1,by omega,by go_num,HG.out⟩,by simp [intOf];omega⟩
   all_goals
    have hX:Hid (EE=23):=AA (by rw [HZ.out,←HR3.out,hc];rfl)
    clear hc
    go_wp2_with fail
    go_ret
    exact⟨rfl,by rw [hX.out];rfl⟩
  ·have HA:Hid (s.data.toList.all P5=true):=AA (by rw [←HR2.out,List.drop_of_length_le (by rw [Vm.out];omega)];rfl)
   have HZ2:Hid (EE=Wn s ahead fst):=AA (by rw [HZ.out,HA.out,BX rfl,AY rfl])
   cases fst with
   | true=>
    have hX:Hid (EE=0):=AA HZ2.out
    go_wp2_with fail
    go_ret
    exact⟨rfl,by rw [hX.out];rfl⟩
   | false=>
    cases hle:Ox s ahead with
    | true=>
     have hX:Hid (EE=18):=AA (by rw [HZ2.out];unfold Wn;rw [hle];rfl)
     rw [hle] at AEX
     clear hle
     go_wp2_with fail
     go_ret
     exact⟨rfl,by rw [hX.out];rfl⟩
    | false=>
     have hX:Hid (EE=0):=AA (by rw [HZ2.out];unfold Wn;rw [hle];rfl)
     rw [hle] at AEX
     clear hle
     go_wp2_with fail
     go_ret
     exact⟨rfl,by rw [hX.out];rfl⟩
theorem AAq {m:AP} {k:Nat} {d:Gh} (hd:m.dat[k]?=some d) (h:LQ m k=0):(0≤d.at_∧d.at_≤m.first*4096)∧(d.b.length:Int)≤m.first*4096-d.at_:=by
 unfold LQ at h
 rw [hd] at h
 obtain⟨a,b⟩:=AV h
 obtain⟨_,c⟩:=AV b
 obtain⟨c,_⟩:=AV c
 have key: ∀ {b:Bool} {e:Int},e≠0→Ae b e=0→b=true:=fun {b e} he h=>by cases b with | true=>rfl | false=>exact absurd h he
 exact⟨of_decide_eq_true (key (by decide) a),of_decide_eq_true (key (by decide) c)⟩
def vW (m:AP) (k:Nat):ByteArray:=match k with
 | 0=>⟨#[]⟩
 | i+1=>match m.Au[i]? with
  | none=>⟨#[]⟩
  | some y=>y.n
theorem vX {m:AP} {k:Nat} {s:ByteArray} (hk:k<m.Au.length):Wn s (vW m k) (decide (k=0))=R3 m.Au k s:=by
 unfold Wn R3 vW
 cases k with
 | zero=>rfl
 | succ i=>
  have hi:m.Au[i]?=some m.Au[i]:=List.getElem?_eq_getElem (by omega)
  rw [if_neg (by simp),if_neg (by omega)]
  simp only [show i+1-1=i from rfl,hi]
theorem Wo (cs:List Value) (hi:Nat) (m:AP) (w:World) (h:DJ.R w 0 hi cs m) (hhi:hi≤w.heap.size) (hp0:0≤m.first) (hp1:m.first≤64) (hfn:m.fns.length≤128) (hbd: ∀d∈m.dat,d.b.length≤2147483647):
 Calls prog 139 #[.agg cs.toArray] w fun e w'=>Below w.heap.size w w'∧e= .returned (.int .i64 (Cq (F5 m) (I5 m))):=by
 obtain⟨v1,v2,v3,v4,v5,v6,rfl,_,_,_,_,_,h5,h6,h7⟩:=Am.1 h
 obtain⟨A5,c5,rfl⟩:=AB h5
 obtain⟨A6,c6,rfl⟩:=AB h6
 obtain⟨A7,c7,rfl⟩:=AB h7
 have V8:=AA hbd;have H6:=AA h6;have H7:=AA h7;have Bw:=AA hhi
 clear h h5 h6 h7 hhi hbd
 go_enter func139,ntmps139
 go_upto_region 1 with fail
 generalize hw1:w.alloc (.cells #[v1,v2,v3,.int .i64 m.first,.int .i64 m.most,.slice A5 m.fns.length c5,.slice A6 m.dat.length c6,.slice A7 m.Au.length c7] 29)=w1
 obtain⟨hb1,hx1⟩:=QK hw1
 have HB1:=AA hb1;have CX:=AA hx1
 clear hw1 hb1 hx1
 have q6:=CX.out.q 6 rfl
 by_cases hn:m.dat.length≤64
 case neg=>
  have hd:decide (64<m.dat.length)=true:=decide_eq_true (by omega)
  have hdi:decide ((64:Int)<(m.dat.length:Int))=true:=decide_eq_true (by omega)
  have HE:Hid (Cq (F5 m) (I5 m)=20):=AA (by unfold F5;rw [CJ (decide_eq_false hn)];rfl)
  clear hn
  go_wp2_with fail
  go_ret
  exact⟨HB1.out,by rw [HE.out];rfl⟩
 have hd:decide (64<m.dat.length)=false:=decide_eq_false (by omega)
 have hdi:decide ((64:Int)<(m.dat.length:Int))=false:=decide_eq_false (by omega)
 have U9:Hid (F5 m=Aa m.dat.length (LQ m)):=AA (by unfold F5;rw [BX (decide_eq_true hn),AY rfl])
 go_wp2_with fail
 clear q6
 go_loopw [3,4] (fun i _ wr=> ∃k:Nat,i= .int .i64 k∧Lr m.dat.length (LQ m) k∧Below w1.heap.size w1 wr) (fun i _ _=>m.dat.length-(intOf i).toNat)
 case atStart=>exact⟨0,rfl,⟨Nat.zero_le _,rfl⟩,Below.refl _ _⟩
 case round=>
  obtain⟨k,rfl,hg,hbr⟩:=hrel
  have HG:=AA hg
  have JG:=AA hbr
  have EP:Hid (Below w.heap.size w wr):=AA (HB1.out.trans (hbr.mono HB1.out.size))
  have Ri:=AA (CX.out.below hbr CX.out.lt)
  have q6:=Ri.out.q 6 rfl
  clear hg hbr
  by_cases hlt:k<m.dat.length
  ·obtain⟨x,hx⟩: ∃x,m.dat[k]?=some x:=⟨_,List.getElem?_eq_getElem hlt⟩
   obtain⟨b,o,Nv,Ni,eA,_,hbb,d0,d1,b63,_⟩:=IY H6.out hx
   subst eA
   have lb:b<w.heap.size:=Nat.lt_of_lt_of_le hbb Bw.out
   have e0:=(EP.out.cell lb (p:=⟨b,o+k*2,none⟩)).trans d0
   have e1:=(EP.out.cell lb (p:=⟨b,o+k*2+1,none⟩)).trans d1
   have hk0:(0:Int)≤k:=by omega
   have hk1:(k:Int)<m.dat.length:=by omega
   have HXX:=AA hx
   have yx:Hid (LQ m k=Cq (Ae (decide (0≤x.at_∧x.at_≤m.first*4096)) 17) (Cq (if k=0 then 0 else match m.dat[k-1]? with | none=>0 | some y=>Ae (decide (y.at_+y.b.length<x.at_)) 18) (Cq (Ae (decide ((x.b.length:Int)≤m.first*4096-x.at_)) 13) (Ae (decide (0<x.b.length)) 17)))):=AA (by unfold LQ;rw [hx];rfl)
   have aN:Hid (∀e:Int,e≠0→LQ m k=e→Cq (F5 m) (I5 m)=e):=AA (fun e he h=>by rw [U9.out,HG.out.hit hlt (by rw [h];exact he),h,Br he])
   unfold Rd.G8 at b63
   clear hx d0 d1 hbb
   go_upto_region 7 with fail
   generalize hw2:wr.alloc (.cells #[.int .i64 x.at_,.slice Nv x.b.length Ni] 99)=w2
   have hb2:Below wr.heap.size wr w2:=by rw [←hw2];exact(Below.refl _ _).alloc (Nat.le_refl _) _
   have Im:Hid (AQ w2 wr.heap.size 99 [.int .i64 x.at_,.slice Nv x.b.length Ni]):=AA (by rw [←hw2];exact AQ.new wr 99 _)
   have CV:=AA (Ri.out.below hb2 Ri.out.lt)
   have HB2:Hid (Below w.heap.size w w2):=AA (EP.out.trans (hb2.mono EP.out.size))
   have Sm:Hid (Below w1.heap.size w1 w2):=AA (JG.out.trans (hb2.mono JG.out.size))
   clear hw2 hb2 e0 e1 q6
   have r0:=Im.out.q 0 rfl
   have r1:=Im.out.q 1 rfl
   have q3:=CV.out.q 3 rfl
   have q6:=CV.out.q 6 rfl
   by_cases hin:0≤x.at_∧x.at_≤m.first*4096
   case neg=>
    have HE:=AA (aN.out 17 (by decide) (by rw [yx.out,CJ (decide_eq_false hin)];rfl))
    have key:decide (x.at_<0)=true∨(decide (x.at_<0)=false∧decide (m.first*4096<x.at_)=true):=by
     simp only [decide_eq_true_eq,decide_eq_false_iff_not];omega
    clear hin
    rcases key with k1 | ⟨k1,k2⟩
    all_goals
     go_wp2_with fail
     go_ret
     exact⟨HB2.out,by rw [HE.out];rfl⟩
   obtain⟨hin0,hin1⟩:=hin
   have vY:=AA (yx.out.trans ((congrArg (Cq · _) (BX (decide_eq_true ⟨hin0,hin1⟩))).trans (AY rfl)))
   clear yx
   have k1:decide (x.at_<0)=false:=decide_eq_false (by omega)
   have k2:decide (m.first*4096<x.at_)=false:=decide_eq_false (by omega)
   have hbl:x.b.length≤2147483647:=V8.out x (List.mem_of_getElem? HXX.out)
   go_upto_region 9 with fail
   have key:(decide (0<k)=false∧decide ((0:Int)<k)=false∧k=0)∨(∃y,decide (0<k)=true∧decide ((0:Int)<k)=true∧0<k∧m.dat[k-1]?=some y∧LQ m (k-1)=0):=by
    by_cases h0:k=0
    ·exact .inl ⟨decide_eq_false (by omega),decide_eq_false (by omega),h0⟩
    ·exact .inr ⟨_,decide_eq_true (by omega),decide_eq_true (by omega),by omega,List.getElem?_eq_getElem (by omega),BQ HG.out.2 _ (by omega)⟩
   rcases key with⟨z0,z0i,AEY⟩ | ⟨y,z0,z0i,hkp,hy,hdy⟩
   case' inl=>
    have vZ:=AA (vY.out.trans ((congrArg (Cq · _) (if_pos AEY)).trans (AY rfl)))
    clear AEY vY
    go_quiet (fail)
    generalize hw3:w2.drewN _=w3
    have HD3:Hid (∃nn,w3=w2.drewN nn):=AA ⟨_,hw3.symm⟩
    clear hw3 z0 z0i
   case' inr=>
    obtain⟨b',o',A_y,c_y,eB,_,_,f0,f1,y63,_⟩:=IY H6.out hy
    injection eB with eB;injection eB with tX tY _
    subst tX tY
    obtain⟨⟨y0,y1⟩,y2⟩:=AAq hy hdy
    have g0:=(HB2.out.cell lb (p:=⟨b,o+(k-1)*2,none⟩)).trans f0
    have g1:=(HB2.out.cell lb (p:=⟨b,o+(k-1)*2+1,none⟩)).trans f1
    have hwk:IntKind.i64.wrap ((k:Int)-1)=(k:Int)-1:=IntWalk.i64_in _ (by omega)
    have hk3:(0:Int)≤(k:Int)-1:=by omega
    have hk4:(k:Int)-1<m.dat.length:=by omega
    have hkn:((k:Int)-1).toNat=k-1:=by omega
    have hws:IntKind.i64.wrap (y.at_+(y.b.length:Int))=y.at_+(y.b.length:Int):=IntWalk.i64_in _ (by omega)
    have HDY:Hid (LQ m k=Cq (Ae (decide (y.at_+y.b.length<x.at_)) 18) (Cq (Ae (decide ((x.b.length:Int)≤m.first*4096-x.at_)) 13) (Ae (decide (0<x.b.length)) 17))):=AA (by rw [vY.out,if_neg (by omega),hy])
    clear vY f0 f1 hy hdy y63
    by_cases hov:y.at_+(y.b.length:Int)<x.at_
    case' neg=>
     have ho:decide (x.at_≤y.at_+(y.b.length:Int))=true:=decide_eq_true (by omega)
     have HE:=AA (aN.out 18 (by decide) (by rw [HDY.out,CJ (decide_eq_false hov)];rfl))
     clear hov
     go_quiet (fail)
     clear hwk hws
     go_wp2_with fail
     go_ret
     exact⟨below_drewN HB2.out _,by rw [HE.out];rfl⟩
    case' pos=>
     have ho:decide (x.at_≤y.at_+(y.b.length:Int))=false:=decide_eq_false (by omega)
     have vZ:=AA (HDY.out.trans ((congrArg (Cq · _) (BX (decide_eq_true hov))).trans (AY rfl)))
     clear hov HDY
     go_quiet (fail)
     clear hwk hws
     generalize hw3:w2.drewN _=w3
     have HD3:Hid (∃nn,w3=w2.drewN nn):=AA ⟨_,hw3.symm⟩
     clear hw3 z0 z0i ho g0 g1 hk3 hk4 hkn y0 y1 y2
   all_goals
    obtain⟨nn,hnn⟩:=HD3.out
    have HB3:Hid (Below w.heap.size w w3):=AA (by rw [hnn];exact below_drewN HB2.out _)
    have vU:Hid (Below w1.heap.size w1 w3):=AA (by rw [hnn];exact below_drewN Sm.out _)
    have r0:w3.cell? ⟨wr.heap.size,0,none⟩=some (.int .i64 x.at_):=by rw [hnn];exact r0
    have r1:w3.cell? ⟨wr.heap.size,1,none⟩=some (.slice Nv x.b.length Ni):=by rw [hnn];exact r1
    have q3:w3.cell? ⟨w.heap.size,3,none⟩=some (.int .i64 m.first):=by rw [hnn];exact q3
    clear hnn q6
    by_cases hb1:(x.b.length:Int)≤m.first*4096-x.at_
    case neg=>
     have ho:decide (m.first*4096-x.at_<(x.b.length:Int))=true:=decide_eq_true (by omega)
     have HE:=AA (aN.out 13 (by decide) (by rw [vZ.out,CJ (decide_eq_false hb1)];rfl))
     clear hb1
     go_wp2_with fail
     go_ret
     exact⟨HB3.out,by rw [HE.out];rfl⟩
    have ho:decide (m.first*4096-x.at_<(x.b.length:Int))=false:=decide_eq_false (by omega)
    by_cases hb0:0<x.b.length
    case neg=>
     have hz0:((x.b.length:Int)==0)=true:=by rw [beq_iff_eq];omega
     have hz0n:(x.b.length==0)=true:=by rw [beq_iff_eq];omega
     have HE:=AA (aN.out 17 (by decide) (by rw [vZ.out,BX (decide_eq_true hb1),AY rfl,CJ (decide_eq_false hb0)]))
     clear hb1 hb0
     go_wp2_with fail
     go_ret
     exact⟨HB3.out,by rw [HE.out];rfl⟩
    have hz0:((x.b.length:Int)==0)=false:=by rw [beq_eq_false_iff_ne];omega
    have hz0n:(x.b.length==0)=false:=by rw [beq_eq_false_iff_ne];omega
    have HD0:Hid (LQ m k=0):=AA (by rw [vZ.out,BX (decide_eq_true hb1),AY rfl,BX (decide_eq_true hb0)])
    clear hb1 hb0
    go_wp2_with fail
    exact⟨⟨k+1,by go_num,HG.out.step hlt HD0.out,vU.out⟩,by simp [intOf];omega⟩
  ·have HT0:Hid (F5 m=0):=AA (by
    have:k=m.dat.length:=by have:=HG.out.1;omega
    rw [U9.out,←this];exact HG.out.2)
   have q7:=Ri.out.q 7 rfl
   by_cases hnx:m.Au.length≤64
   case neg=>
    have hdx:decide (64<m.Au.length)=true:=decide_eq_true (by omega)
    have hdxi:decide ((64:Int)<(m.Au.length:Int))=true:=decide_eq_true (by omega)
    have HE:Hid (Cq (F5 m) (I5 m)=20):=AA (by rw [HT0.out,AY rfl];unfold I5;rw [CJ (decide_eq_false hnx)];rfl)
    clear hnx
    go_wp2_with fail
    go_ret
    exact⟨EP.out,by rw [HE.out];rfl⟩
   have hdx:decide (64<m.Au.length)=false:=decide_eq_false (by omega)
   have hdxi:decide ((64:Int)<(m.Au.length:Int))=false:=decide_eq_false (by omega)
   have HXE:Hid (Cq (F5 m) (I5 m)=Aa m.Au.length (P6 m)):=AA (by rw [HT0.out,AY rfl];unfold I5;rw [BX (decide_eq_true hnx),AY rfl])
   go_wp2_with fail
   clear q6 q7
   obtain⟨wo,rfl⟩: ∃wo:World,wo=wr:=⟨_,rfl⟩
   go_loopw [5,6,7] (fun a i _ wv=> ∃j:Nat,i= .int .i64 j∧a= .string (vW m j)∧Lr m.Au.length (P6 m) j∧Below wo.heap.size wo wv) (fun _ i _ _=>m.Au.length-(intOf i).toNat)
   case atStart=>exact⟨0,rfl,rfl,⟨Nat.zero_le _,rfl⟩,Below.refl _ _⟩
   case round=>
    obtain⟨j,rfl,rfl,hgj,hbv⟩:=hrel
    have vV:=AA hgj
    have Z4:=AA hbv
    have KM:Hid (Below w.heap.size w wr):=AA (EP.out.trans (hbv.mono EP.out.size))
    have PK:=AA (Ri.out.below hbv Ri.out.lt)
    have q5:=PK.out.q 5 rfl
    have q7:=PK.out.q 7 rfl
    clear hgj hbv
    by_cases hjl:j<m.Au.length
    ·obtain⟨x,hx⟩: ∃x,m.Au[j]?=some x:=⟨_,List.getElem?_eq_getElem hjl⟩
     obtain⟨b,o,eA,_,hbb,d0,d1,sn,f63⟩:=Jw H7.out hx
     subst eA
     have lb:b<w.heap.size:=Nat.lt_of_lt_of_le hbb Bw.out
     have e0:=(KM.out.cell lb (p:=⟨b,o+j*2,none⟩)).trans d0
     have e1:=(KM.out.cell lb (p:=⟨b,o+j*2+1,none⟩)).trans d1
     have hj0:(0:Int)≤j:=by omega
     have hj1:(j:Int)<m.Au.length:=by omega
     have HEE:Hid (P6 m j=Cq (Cq (Np x.n) (Wn x.n (vW m j) (decide (j=0)))) (Ae (decide (0≤x.f∧x.f<m.fns.length)) 30)):=AA (by
      rw [vX hjl,EM];unfold P6;rw [hx])
     have HAS:Hid (x.n=vW m (j+1)):=AA (by unfold vW;simp only [hx])
     have aN:Hid (∀e:Int,e≠0→P6 m j=e→Cq (F5 m) (I5 m)=e):=AA (fun e he h=>by rw [HXE.out,vV.out.hit hjl (by rw [h];exact he),h])
     obtain⟨fb,zA⟩: ∃fb,decide (j=0)=fb:=⟨_,rfl⟩
     have hfi:((j:Int)==0)=fb:=by rw [←zA,Bool.eq_iff_iff];simp
     have hfn':(j==0)=fb:=by rw [←zA,Bool.eq_iff_iff];simp
     obtain⟨ne,hne⟩: ∃ne,Cq (Np x.n) (Wn x.n (vW m j) fb)=ne:=⟨_,rfl⟩
     have zB:Hid (∀W,Calls prog 177 #[.string x.n,.string (vW m j),.bool fb] W fun e w'=>W=w'∧e= .returned (.int .i64 ne)):=AA (fun W=>hne▸iT x.n (vW m j) fb sn W)
     rw [zA,hne] at HEE
     unfold Rd.G8 at f63
     clear hx d0 d1 sn hbb zA hne
     go_wp2_with fail
     refine(zB.out wr).mono ?_
     rintro e w' ⟨rfl,rfl⟩
     clear hfi hfn'
     by_cases hne0:ne=0
     case neg=>
      have qn:(ne !=0)=true:=by simpa using hne0
      have HE:=AA (aN.out ne hne0 (by rw [HEE.out,Br hne0]))
      clear hne0
      go_wp2_with fail
      go_ret
      exact⟨KM.out,by rw [HE.out];rfl⟩
     subst hne0
     by_cases hin:0≤x.f∧x.f<m.fns.length
     case neg=>
      have HE:=AA (aN.out 30 (by decide) (by rw [HEE.out,AY rfl,CJ (decide_eq_false hin)]))
      have key:decide (x.f<0)=true∨(decide (x.f<0)=false∧decide ((m.fns.length:Int)≤x.f)=true):=by
       simp only [decide_eq_true_eq,decide_eq_false_iff_not];omega
      clear hin
      rcases key with k1 | ⟨k1,k2⟩
      all_goals
       go_wp2_with fail
       go_quiet (fail)
       go_wp2_with fail
       go_ret
       exact⟨below_drewN KM.out _,by rw [HE.out];rfl⟩
     have k1:decide (x.f<0)=false:=decide_eq_false (by omega)
     have k2:decide ((m.fns.length:Int)≤x.f)=false:=decide_eq_false (by omega)
     have Pw:Hid (P6 m j=0):=AA (by rw [HEE.out,AY rfl,BX (decide_eq_true hin)])
     clear hin
     go_wp2_with fail
     go_quiet (fail)
     go_wp2_with fail
     exact⟨⟨j+1,by go_num,by rw [HAS.out],vV.out.step hjl Pw.out,below_drewN Z4.out _⟩,by simp [intOf];omega⟩
    ·have HE:Hid (Cq (F5 m) (I5 m)=0):=AA (by
      have:j=m.Au.length:=by have:=vV.out.1;omega
      rw [HXE.out,←this];exact vV.out.2)
     go_wp2_with fail
     go_ret
     exact⟨KM.out,by rw [HE.out];rfl⟩
end Go.Proofs.YtlagonfamllgjaaGreatDoor
