/- Part 23 of the proof: FrmA -/
import Derived.Test.YtlagonfamllgjaaGreatDoorK22
namespace Go.Proofs.YtlagonfamllgjaaGreatDoor
set_option linter.unusedVariables false
set_option linter.unusedSimpArgs false
set_option maxRecDepth 100000
set_option maxHeartbeats 4000000
open Go.RowKit Tryz
theorem ES {w w1:World} {t:TypeId} {cs:Array Value} (h:w.alloc (.cells cs t)=w1):Below w.heap.size w w1∧AQ w1 w.heap.size t cs.toList:=by
 have hb:=AQ.new w t cs.toList
 rw [show cs.toList.toArray=cs from by simp,h] at hb
 exact⟨by rw [←h];exact(Below.refl _ _).alloc (Nat.le_refl _) _,hb⟩
theorem WI {m:AP} {t:List Dz} {s:FH} {k:Nat} {f:Jy} (hf:s.frames[k]?=some f) (h:UM m f=false):KZ m t s k=false:=by
 unfold KZ;simp only [hf,h,Bool.false_and]
theorem m_ (cs ds:List Value) (At:Option Addr) (ct hi:Nat) (m:AP) (t:List Dz) (s:FH) (k:Nat) (f:Jy) (w:World) (hm:DJ.R w 0 hi cs m) (htab:(Nw.sl false).R w 0 hi [.slice At t.length ct] t) (hs:K7.R w 0 hi ds s) (hhi:hi≤w.heap.size) (hv:F7 m= .inr t) (hin:RA s) (hf:s.frames[k]?=some f):
 Calls prog 66 #[.agg (cs++ .slice At t.length ct::ds).toArray,.int .i64 k] w fun e w'=>Below w.heap.size w w'∧e= .returned (.bool (KZ m t s k)):=by
 obtain⟨R,hR⟩: ∃R,KZ m t s k=R:=⟨_,rfl⟩
 rw [hR]
 have HR:=AA hR
 obtain⟨hmo,htl,htb⟩:=Ke hv
 have XG:=AA hmo;have Gp:=AA htb;have HTL:=AA htl;have Bw:=AA hhi;have uG:=AA htab;have qz:=AA hf
 have hnf:=hmo.nf
 have hfl:=hin.Rb
 obtain⟨hl1,hl2⟩:=hin.frames f (List.mem_of_getElem? hf)
 obtain⟨v1,v2,v3,v4,v5,v6,rfl,h0,_,_,_,_,h5,_⟩:=Am.1 hm
 obtain⟨A0,c0,rfl⟩:=AB h0
 obtain⟨A5,c5,rfl⟩:=AB h5
 obtain⟨u0,u1,u2,u5,rfl,s0,_⟩:=CU.1 hs
 obtain⟨B0,d0,rfl⟩:=AB s0
 obtain⟨bf,of,Al,cl,As,cS,eB,_,hbf,g0,g1,g2,g3,ff,fp,hul,hus⟩:=JR s0 hf
 subst eB
 have hkl:=(List.getElem?_eq_some_iff.1 hf).1
 have H0:=AA h0;have H5:=AA h5;have S0:=AA s0
 have HLR:=AA (Rd.GV hul).2;have VA:=AA (Rd.GV hus).2
 have LBF:Hid (bf<w.heap.size):=AA (Nat.lt_of_lt_of_le hbf hhi)
 unfold Rd.G8 at ff fp
 have hk0:(0:Int)≤k:=by omega
 have hk1:(k:Int)<s.frames.length:=by omega
 clear hR hmo htl htb hm htab hs hhi hv hin hf h0 h5 s0 hul hus hbf
 change Calls prog 66 #[.agg #[.slice A0 m.types.length c0,v2,v3,.int .i64 m.first,.int .i64 m.most,.slice A5 m.fns.length c5,v5,v6,.slice At t.length ct,.slice (some ⟨bf,of,none⟩) s.frames.length d0,u1,u2,.int .i64 s.Bj,.int .i8 s.end_,u5,.int .i8 s.trap,.int .i64 s.used],.int .i64 k] w _
 go_enter func66,ntmps66
 go_upto_region 1 with fail
 generalize hw1:w.alloc (.cells #[.slice A0 m.types.length c0,v2,v3,.int .i64 m.first,.int .i64 m.most,.slice A5 m.fns.length c5,v5,v6,.slice At t.length ct,.slice (some ⟨bf,of,none⟩) s.frames.length d0,u1,u2,.int .i64 s.Bj,.int .i8 s.end_,u5,.int .i8 s.trap,.int .i64 s.used] 127)=w1
 obtain⟨hb1,hx1⟩:=ES hw1
 have hz1:w1.heap.size=w.heap.size+1:=by rw [←hw1];simp
 clear hw1
 have e0:=(hb1.cell LBF.out (p:=⟨bf,of+k*4,none⟩)).trans g0
 have e1:=(hb1.cell LBF.out (p:=⟨bf,of+k*4+1,none⟩)).trans g1
 have e2:=(hb1.cell LBF.out (p:=⟨bf,of+k*4+2,none⟩)).trans g2
 have e3:=(hb1.cell LBF.out (p:=⟨bf,of+k*4+3,none⟩)).trans g3
 have q9:=hx1.q 9 rfl
 have HB1:=AA hb1;have HV1:=AA hx1
 clear g0 g1 g2 g3 hb1 hx1
 go_upto_region 2 with fail
 generalize hw2:w1.alloc (.cells #[.int .i64 f.f,.int .i64 f.pc,.slice Al f.loc.length cl,.slice As f.st.length cS] 91)=w2
 obtain⟨hb2,hx2⟩:=ES hw2
 have hz2:w2.heap.size=w.heap.size+2:=by rw [←hw2];simp;omega
 rw [hz1] at hx2
 try rw [hz1]
 have Im:=AA hx2
 have uL:=AA (HV1.out.below hb2 HV1.out.lt)
 have HB2:Hid (Below w.heap.size w w2):=AA (HB1.out.trans (hb2.mono HB1.out.size))
 clear hw2 hb2 hx2 hz1 e0 e1 e2 e3 q9 HB1 HV1
 have r0:=Im.out.q 0 rfl
 have q5:=uL.out.q 5 rfl
 by_cases hin1:FE f.f m.fns.length=true
 case neg=>
  have HX:Hid (R=false):=AA (by rw [←HR.out];exact WI qz.out (by unfold UM;rw [Bool.eq_false_iff.2 hin1];rfl))
  have key:decide (f.f<0)=true∨(decide (f.f<0)=false∧decide ((m.fns.length:Int)≤f.f)=true):=by
   have: ¬(0≤f.f∧f.f<m.fns.length):=fun e=>hin1 (decide_eq_true e)
   simp only [decide_eq_true_eq,decide_eq_false_iff_not];omega
  clear hin1
  rcases key with k1 | ⟨k1,k2⟩
  all_goals
   go_wp2_with fail
   go_ret
   exact⟨HB2.out,by rw [HX.out];rfl⟩
 obtain⟨j,hj,hjl⟩:=Ed hin1
 obtain⟨fn,hfn⟩: ∃fn,m.fns[j]?=some fn:=⟨_,List.getElem?_eq_getElem hjl⟩
 have fH:RU m f.f=fn:=by rw [hj];exact OG hfn
 obtain⟨bF,oF,TJ,Ko,gZ,_,WJ,g0,g1,g2,_,_,hcd⟩:=Eu H5.out hfn
 subst gZ
 have uM:Hid (bF<w.heap.size):=AA (Nat.lt_of_lt_of_le WJ Bw.out)
 have hfo:=XG.out.fns fn (List.mem_of_getElem? hfn)
 obtain⟨tn,ht⟩: ∃tn:Nat,fn.t=(tn:Int):=⟨fn.t.toNat,by have:=hfo.t0;omega⟩
 have htl:tn<m.types.length:=by have:=hfo.t1;omega
 obtain⟨ty,hty⟩: ∃ty,m.types[tn]?=some ty:=⟨_,List.getElem?_eq_getElem htl⟩
 obtain⟨bq,oq,S_,_,hbq,ht0,ht1,htp,htr⟩:=CZ H0.out hty
 subst S_
 have Ho:B_ m fn.t=ty:=by rw [ht];exact FC hty
 have HLV:Hid (CS m fn=ty.p++fn.loc):=AA (by unfold CS;rw [Ho])
 have hloc:fn.loc.size+ty.p.size≤64:=by have:=hfo.loc;rw [Ho] at this;exact this
 have hadd:binOp .add 9 (.string ty.p) (.string fn.loc)=pure (.string (ty.p++fn.loc)):=GR _ _ _ (by omega)
 rw [ht] at g0
 have y0:=(HB2.out.cell uM.out (p:=⟨bF,oF+j*3,none⟩)).trans g0
 have y1:=(HB2.out.cell uM.out (p:=⟨bF,oF+j*3+1,none⟩)).trans g1
 have y2:=(HB2.out.cell uM.out (p:=⟨bF,oF+j*3+2,none⟩)).trans g2
 have LBQ:Hid (bq<w.heap.size):=AA (Nat.lt_of_lt_of_le hbq Bw.out)
 have HQ0:=AA ht0
 have gu:=AA hfn;have HFV:=AA fH;have X5:=AA hcd;have HJJ:=AA hj
 have Kg:=hfo.few
 have hzf:=hfo.loc
 have ADc:Hid (UM m f=(FE f.pc fn.code.length&&EY f.loc (CS m fn).data.toList)):=AA (by unfold UM;rw [hin1,fH,Bool.true_and])
 rw [hj] at r0
 have hj0:(0:Int)≤j:=by omega
 have hj1:(j:Int)<m.fns.length:=by omega
 have k1:decide ((j:Int)<0)=false:=decide_eq_false (by omega)
 have k2:decide ((m.fns.length:Int)≤(j:Int))=false:=decide_eq_false (by omega)
 have k2n:decide (m.fns.length≤j)=false:=decide_eq_false (by omega)
 have ht20:(0:Int)≤tn:=by omega
 have ht21:(tn:Int)<m.types.length:=by omega
 clear hin1 hj hfn fH hcd g0 g1 g2 WJ hfo ht hty ht0 ht1 htp htr Ho hbq hzf htl
 go_upto_region 5 with fail
 generalize hw3:w2.alloc (.cells #[.int .i64 tn,.string fn.loc,.slice TJ fn.code.length Ko] 96)=w3
 obtain⟨hb3,hx3⟩:=ES hw3
 rw [hz2] at hx3
 try rw [hz2]
 have jc:=AA hx3
 have UC:=AA (Im.out.below hb3 Im.out.lt)
 have HV3:=AA (uL.out.below hb3 uL.out.lt)
 have HB3:Hid (Below w.heap.size w w3):=AA (HB2.out.trans (hb3.mono HB2.out.size))
 clear hw3 hb3 hx3 hz2 r0 q5 y0 y1 y2 HB2 Im uL
 have r1:=UC.out.q 1 rfl
 have n2:=jc.out.q 2 rfl
 by_cases hin2:FE f.pc fn.code.length=true
 case neg=>
  have HX:Hid (R=false):=AA (by rw [←HR.out];exact WI qz.out (by rw [ADc.out,Bool.eq_false_iff.2 hin2];rfl))
  have key:decide (f.pc<0)=true∨(decide (f.pc<0)=false∧decide ((fn.code.length:Int)≤f.pc)=true):=by
   have: ¬(0≤f.pc∧f.pc<fn.code.length):=fun e=>hin2 (decide_eq_true e)
   simp only [decide_eq_true_eq,decide_eq_false_iff_not];omega
  clear hin2
  rcases key with z1 | ⟨z1,z2⟩
  all_goals
   go_quiet (fail)
   go_wp2_with fail
   go_ret
   exact⟨below_drewN HB3.out _,by rw [HX.out];rfl⟩
 obtain⟨p,hp,hpl⟩:=Ed hin2
 have jY:=AA hp
 rw [hp] at r1
 have hp0:(0:Int)≤p:=by omega
 have hp1:(p:Int)<fn.code.length:=by omega
 have z1:decide ((p:Int)<0)=false:=decide_eq_false (by omega)
 have z2:decide ((fn.code.length:Int)≤(p:Int))=false:=decide_eq_false (by omega)
 have z2n:decide (fn.code.length≤p)=false:=decide_eq_false (by omega)
 obtain⟨lb,hlb⟩: ∃lb,EY f.loc (CS m fn).data.toList=lb:=⟨_,rfl⟩
 have AAT:Hid (UM m f=lb):=AA (by rw [ADc.out,hin2,hlb,Bool.true_and])
 have PE:(ty.p++fn.loc).size≤140737488351232:=by rw [ByteArray.size_append];omega
 have qw:Hid (∀W,Below w3.heap.size w3 W→Calls prog 101 #[.slice Al f.loc.length cl,.string (ty.p++fn.loc)] W fun e w'=>Below W.heap.size W w'∧e= .returned (.bool lb)):=AA (fun W hW=>by
  have hB:=HB3.out.trans (hW.mono HB3.out.size)
  have hq:=VD Al f.loc.length cl hi f.loc (ty.p++fn.loc) W rfl (HLR.out.below' hB Bw.out) (Nat.le_trans Bw.out hB.size) PE
  rw [←HLV.out,hlb] at hq
  rw [←HLV.out]
  exact hq)
 have HS:Hid (∀W,Below w3.heap.size w3 W→W.cell? ⟨w.heap.size,0,none⟩=some (.slice (some ⟨bq,oq,none⟩) m.types.length c0)∧W.cell? ⟨w.heap.size+1,1,none⟩=some (.int .i64 p)∧W.cell? ⟨w.heap.size+1,2,none⟩=some (.slice Al f.loc.length cl)∧W.cell? ⟨w.heap.size+2,0,none⟩=some (.int .i64 tn)∧W.cell? ⟨w.heap.size+2,1,none⟩=some (.string fn.loc)∧W.cell? ⟨w.heap.size+2,2,none⟩=some (.slice TJ fn.code.length Ko)∧W.cell? ⟨bq,oq+tn*2,none⟩=some (.string ty.p)∧Below w3.heap.size w3 W):=AA (fun W hW=>by
  have x1:=HV3.out.below hW HV3.out.lt
  have x2:=UC.out.below hW UC.out.lt
  have x3:=jc.out.below hW jc.out.lt
  have hB:=HB3.out.trans (hW.mono HB3.out.size)
  exact⟨x1.cell 0,(x2.cell 1).trans (by rw [←jY.out];rfl),x2.cell 2,x3.cell 0,x3.cell 1,x3.cell 2,(hB.cell LBQ.out).trans HQ0.out,hW⟩)
 clear hin2 hp hlb r1 n2 PE hloc
 go_region_held3 (fun W=>W.cell? ⟨w.heap.size,0,none⟩=some (.slice (some ⟨bq,oq,none⟩) m.types.length c0)∧W.cell? ⟨w.heap.size+1,1,none⟩=some (.int .i64 p)∧W.cell? ⟨w.heap.size+1,2,none⟩=some (.slice Al f.loc.length cl)∧W.cell? ⟨w.heap.size+2,0,none⟩=some (.int .i64 tn)∧W.cell? ⟨w.heap.size+2,1,none⟩=some (.string fn.loc)∧W.cell? ⟨w.heap.size+2,2,none⟩=some (.slice TJ fn.code.length Ko)∧W.cell? ⟨bq,oq+tn*2,none⟩=some (.string ty.p)∧Below w3.heap.size w3 W)
  (first | exact HS.out _ (Below.refl _ _) | exact HS.out _ (Below.refl _ _).drew | exact HS.out _ S1)
  (first
  | (go_at_call 101;refine(qw.out _ (Below.refl _ _).drew).mono ?_;rintro e W1 ⟨hb,rfl⟩;have S1:=Ce hb;clear hb))
 have HW1:=AA S1
 have C9:Hid (Below w.heap.size w W1):=AA (HB3.out.trans (S1.mono HB3.out.size))
 clear S1
 cases lb with
 | false=>
  have HX:Hid (R=false):=AA (by rw [←HR.out];exact WI qz.out AAT.out)
  go_wp2_with fail
  go_ret
  exact⟨C9.out,by rw [HX.out];rfl⟩
 | true=>
 obtain⟨tb,htk,TA⟩:=Gp.out j fn gu.out
 have AAO:=AA TA
 obtain⟨sh,hsh⟩: ∃sh,tb.shapes[p]?=some sh:=⟨_,List.getElem?_eq_getElem (by rw [TA.n];omega)⟩
 have hshz:=TA.low sh (List.mem_of_getElem? hsh)
 obtain⟨bt,ot,A_s,c_s,_,_,_,_,_,_,eT,_,hbt,t0,_,_,_,_,hss,_⟩:=bJ uG.out htk
 subst eT
 obtain⟨bs,os,eS,_,hbs,cs',hc',hr'⟩:=DC hss hsh
 subst eS
 obtain⟨rfl,_⟩:=hr'
 have y0:=(C9.out.cell (Nat.lt_of_lt_of_le hbt Bw.out) (p:=⟨bt,ot+j*5,none⟩)).trans t0
 have y1:W1.cell? ⟨bs,os+p,none⟩=some (.string sh):=(C9.out.cell (Nat.lt_of_lt_of_le hbs Bw.out) (p:=⟨bs,os+p,none⟩)).trans (by have:=hc' 0 _ rfl;simpa [Rd.str,Rd.one] using this)
 have HSV:Hid (Ip t f.f f.pc=sh):=AA (by unfold Ip;rw [HJJ.out,jY.out];simp only [Int.toNat_natCast,htk,Option.map_some,Option.getD_some,hsh])
 have HSH:=AA hsh
 have HV4:=AA (HV3.out.below HW1.out HV3.out.lt)
 have YQ:=AA (UC.out.below HW1.out UC.out.lt)
 have uN:=AA (jc.out.below HW1.out jc.out.lt)
 have q8:=HV4.out.q 8 rfl
 have r0:W1.cell? ⟨w.heap.size+1,0,none⟩=some (.int .i64 j):=(YQ.out.cell 0).trans (by rw [←HJJ.out];rfl)
 have r1:W1.cell? ⟨w.heap.size+1,1,none⟩=some (.int .i64 p):=(YQ.out.cell 1).trans (by rw [←jY.out];rfl)
 have kt1:(j:Int)<t.length:=by rw [HTL.out];exact hj1
 have kt2:(p:Int)<tb.shapes.length:=by rw [TA.n];exact hp1
 clear htk TA hsh t0 hss hc' hbt hbs HV3 UC jc HS qw
 go_wp2_with fail
 go_quiet (fail)
 generalize Rf:W1.drewN _=w5
 have hd5:Below W1.heap.size W1 w5:=by rw [←Rf];exact below_drewN (Below.refl _ _) _
 have D8:Hid (Below w.heap.size w w5):=AA (C9.out.trans (hd5.mono C9.out.size))
 have HV5:=AA (HV4.out.below hd5 HV4.out.lt)
 have yU:=AA (YQ.out.below hd5 YQ.out.lt)
 have HN5:=AA (uN.out.below hd5 uN.out.lt)
 clear Rf hd5 y0 y1 q8 r0 r1 kt1 kt2 HV4 YQ uN C9 HW1 HB3
 have q9:=HV5.out.q 9 rfl
 have Mq:Hid (∀(W:World) (x:ByteArray),x.size≤256→Below w.heap.size w W→Calls prog 101 #[.slice As f.st.length cS,.string x] W fun e w'=>Below W.heap.size W w'∧e= .returned (.bool (EY f.st x.data.toList))):=AA (fun W x hx hB=>
  VD As f.st.length cS hi f.st x W rfl (VA.out.below' hB Bw.out) (Nat.le_trans Bw.out hB.size) (by omega))
 cases hn:s.frames[k+1]? with
 | none=>
  have hlast: ¬k+1<s.frames.length:=by have:=List.getElem?_eq_none_iff.1 hn;omega
  have n1:decide ((k:Int)+1<s.frames.length)=false:=decide_eq_false (by omega)
  have n1n:decide (k+1<s.frames.length)=false:=decide_eq_false hlast
  have HX:Hid (R=EY f.st sh.data.toList):=AA (by
   rw [←HR.out,VB qz.out hn];unfold Kq WH;rw [AAT.out,HSV.out,Bool.true_and])
  clear hn hlast
  have s3:=yU.out.q 3 rfl
  go_wp2_with fail
  refine(Mq.out w5 sh (by omega) D8.out).mono ?_
  rintro e w6 ⟨hb6,rfl⟩
  have FQ:Hid (Below w.heap.size w w6):=AA (D8.out.trans (hb6.mono D8.out.size))
  clear hb6 s3 q9
  go_wp2_with fail
  go_ret
  exact⟨FQ.out,by rw [HX.out];rfl⟩
 | some g=>
  have hnl:=(List.getElem?_eq_some_iff.1 hn).1
  have n1:decide ((k:Int)+1<s.frames.length)=true:=decide_eq_true (by omega)
  have n1n:decide (k+1<s.frames.length)=true:=decide_eq_true hnl
  obtain⟨b2,o2,_,_,_,_,eB,_,hb2,i0,_,_,_,g63,_⟩:=JR S0.out hn
  injection eB with eB;injection eB with tX tY _
  subst tX tY
  have x0:w5.cell? ⟨bf,of+(k+1)*4,none⟩=some (.int .i64 g.f):=(D8.out.cell LBF.out).trans i0
  have hk2:(k:Int)+1<s.frames.length:=by omega
  have HNK:=AA hn
  unfold Rd.G8 at g63
  obtain⟨z,hz⟩: ∃z,fn.code[p]?=some z:=⟨_,List.getElem?_eq_getElem hpl⟩
  have X6:Hid (fD (RU m f.f) f.pc=z):=AA (by unfold fD;rw [HFV.out,jY.out,Int.toNat_natCast,hz];rfl)
  obtain⟨bc,oc,A_z,c_z,eC,_,hbc,j0,j1,j2,_,_⟩:=Dy X5.out hz
  subst eC
  have X7:bc<w.heap.size:=Nat.lt_of_lt_of_le hbc Bw.out
  have y0:=(D8.out.cell X7 (p:=⟨bc,oc+p*3,none⟩)).trans j0
  have y1:=(D8.out.cell X7 (p:=⟨bc,oc+p*3+1,none⟩)).trans j1
  have y2:=(D8.out.cell X7 (p:=⟨bc,oc+p*3+2,none⟩)).trans j2
  have s1:w5.cell? ⟨w.heap.size+1,1,none⟩=some (.int .i64 p):=(yU.out.cell 1).trans (by rw [←jY.out];rfl)
  have s2:=HN5.out.q 2 rfl
  have HZZ:=AA hz
  clear hn i0 hb2 hz j0 j1 j2 hbc hnl
  go_upto_region 11 with fail
  generalize YJ:w5.alloc (.cells #[.int .u8 (z.op.toNat:Int),.int .i64 z.a,.slice A_z z.l.length c_z] 122)=w6
  obtain⟨hb6,d0',d1',_,_⟩:=mo YJ
  have FQ:Hid (Below w.heap.size w w6):=AA (D8.out.trans (hb6.mono D8.out.size))
  have HV6:=AA (HV5.out.below hb6 HV5.out.lt)
  have HF6:=AA (yU.out.below hb6 yU.out.lt)
  clear YJ hb6 y0 y1 y2 s1 s2 x0 q9
  have q5:=HV6.out.q 5 rfl
  by_cases hg0:g.f<0
  case pos=>
   have n2:decide (g.f<0)=true:=decide_eq_true hg0
   have HX:Hid (R=false):=AA (by rw [←HR.out];exact YP qz.out HNK.out hg0)
   clear hg0
   go_wp2_with fail
   go_ret
   exact⟨FQ.out,by rw [HX.out];rfl⟩
  obtain⟨n,hgn⟩: ∃n:Nat,g.f=(n:Int):=⟨g.f.toNat,by omega⟩
  have HX0:Hid (R=(P9 m f (n:Int)&&EY f.st (sh.extract 0 (sh.size-(B_ m (RU m (n:Int)).t).p.size)).data.toList)):=AA (by
   rw [←HR.out,dB qz.out HNK.out hgn];unfold Kq WH;rw [AAT.out,HSV.out,Bool.true_and])
  rw [hgn] at g63⊢
  have n2:decide ((n:Int)<0)=false:=decide_eq_false (by omega)
  clear hg0 hgn
  by_cases hgl:n<m.fns.length
  case neg=>
   have n3:decide ((m.fns.length:Int)≤(n:Int))=true:=decide_eq_true (by omega)
   have n3n:decide (m.fns.length≤n)=true:=decide_eq_true (by omega)
   have HX:Hid (R=false):=AA (by
    rw [HX0.out];unfold P9
    rw [show FE (n:Int) m.fns.length=false from decide_eq_false (by omega)];rfl)
   clear hgl
   go_wp2_with fail
   go_ret
   exact⟨FQ.out,by rw [HX.out];rfl⟩
  have n3:decide ((m.fns.length:Int)≤(n:Int))=false:=decide_eq_false (by omega)
  have n3n:decide (m.fns.length≤n)=false:=decide_eq_false (by omega)
  by_cases h11:z.op.toNat=11
  case neg=>
   have n4:((z.op.toNat:Int) !=11)=true:=by rw [bne_iff_ne];omega
   have HX:Hid (R=false):=AA (by rw [HX0.out];unfold P9;rw [X6.out,decide_eq_false h11];simp)
   clear h11 hgl
   go_wp2_with fail
   go_ret
   exact⟨FQ.out,by rw [HX.out];rfl⟩
  have n4:((z.op.toNat:Int) !=11)=false:=by rw [bne_eq_false_iff_eq];omega
  by_cases ha:z.a=(n:Int)
  case neg=>
   have n5:(z.a !=(n:Int))=true:=by rw [bne_iff_ne];exact ha
   have HX:Hid (R=false):=AA (by rw [HX0.out];unfold P9;rw [X6.out,decide_eq_false ha];simp)
   clear h11 ha hgl
   go_wp2_with fail
   go_ret
   exact⟨FQ.out,by rw [HX.out];rfl⟩
  have n5:(z.a !=(n:Int))=false:=by rw [bne_eq_false_iff_eq];exact ha
  obtain⟨f2,hf2⟩: ∃f2,m.fns[n]?=some f2:=⟨_,List.getElem?_eq_getElem hgl⟩
  have Z9:=XG.out.fns f2 (List.mem_of_getElem? hf2)
  obtain⟨t2,ht2⟩: ∃t2:Nat,f2.t=(t2:Int):=⟨f2.t.toNat,by have:=Z9.t0;omega⟩
  obtain⟨yV,uP⟩: ∃ty,m.types[t2]?=some ty:=⟨_,List.getElem?_eq_getElem (by have:=Z9.t1;omega)⟩
  have ADX:=(List.getElem?_eq_some_iff.1 uP).1
  have AAU:(B_ m (RU m (n:Int)).t)=yV:=by rw [OG hf2,ht2];exact FC uP
  obtain⟨bg,og,A_g,c_g,eG,_,hbg,j0,_⟩:=Eu H5.out hf2
  injection eG with eG;injection eG with eG1 eG2 _
  subst eG1 eG2
  obtain⟨b3,o3,eQ,_,hbq3,j1,_⟩:=CZ H0.out uP
  injection eQ with eQ;injection eQ with eQ1 eQ2 _
  subst eQ1 eQ2
  rw [ht2] at j0
  have y0:=(FQ.out.cell uM.out (p:=⟨bF,oF+n*3,none⟩)).trans j0
  have y1:=(FQ.out.cell LBQ.out (p:=⟨bq,oq+t2*2,none⟩)).trans j1
  have hcall:=AAO.out.call p z sh HZZ.out HSH.out h11
  rw [ha,AAU] at hcall
  have HX:Hid (R=EY f.st (sh.extract 0 (sh.size-yV.p.size)).data.toList):=AA (by
   rw [HX0.out,AAU];unfold P9
   rw [X6.out,show FE (n:Int) m.fns.length=true from decide_eq_true (by omega),decide_eq_true h11,decide_eq_true ha];rfl)
  obtain⟨cut,hcut⟩: ∃cut,sh.extract 0 (sh.size-yV.p.size)=cut:=⟨_,rfl⟩
  rw [hcut] at HX
  have hsl: ∀W,(Instr.slice 9 (.string sh) none (some (.int .i64 ((sh.size:Int)-yV.p.size))) none).run prog W= .ok (.string cut) W:=fun W=>by
   rw [run_slice_string_to_if (P:=prog) W 9 sh .i64 _ underlying9,if_pos (by omega),show((sh.size:Int)-yV.p.size).toNat=sh.size-yV.p.size from by omega,hcut]
  have hcz:cut.size≤256:=by rw [←hcut,ByteArray.size_extract];omega
  have t20:(0:Int)≤t2:=by omega
  have t21:(t2:Int)<m.types.length:=by omega
  have g0':(0:Int)≤n:=by omega
  have g1':(n:Int)<m.fns.length:=by omega
  have hws:IntKind.i64.wrap ((sh.size:Int)-(yV.p.size:Int))=(sh.size:Int)-(yV.p.size:Int):=IntWalk.i64_in _ (by omega)
  have q0:=HV6.out.q 0 rfl
  clear h11 ha hgl hf2 Z9 ht2 uP AAU j0 j1 hbg hbq3 hcut
  go_wp2_with fail
  go_quiet (fail)
  generalize hw7:w6.drewN _=w7
  have hd7:Below w6.heap.size w6 w7:=by rw [←hw7];exact below_drewN (Below.refl _ _) _
  have UA:Hid (Below w.heap.size w w7):=AA (FQ.out.trans (hd7.mono FQ.out.size))
  have s3:=(HF6.out.below hd7 HF6.out.lt).q 3 rfl
  clear hw7 hd7 q0 q5 y0 y1 d0' d1'
  go_wp2_with fail
  refine(Mq.out w7 cut hcz UA.out).mono ?_
  rintro e w8 ⟨Nk,rfl⟩
  have Xz:Hid (Below w.heap.size w w8):=AA (UA.out.trans (Nk.mono UA.out.size))
  clear Nk s3
  go_wp2_with fail
  go_ret
  exact⟨Xz.out,by rw [HX.out];rfl⟩
end Go.Proofs.YtlagonfamllgjaaGreatDoor
