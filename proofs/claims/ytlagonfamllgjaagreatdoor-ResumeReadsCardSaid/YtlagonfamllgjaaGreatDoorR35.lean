/- Part 35 of the proof: FrmA FrmC FrmB FrmD -/
import Derived.Test.YtlagonfamllgjaaGreatDoorR34
namespace Go.Proofs.YtlagonfamllgjaaGreatDoor
set_option linter.unusedVariables false
set_option linter.unusedSimpArgs false
set_option maxRecDepth 100000
set_option maxHeartbeats 4000000
open Go.RowKit Tryz
theorem V3 {m:AP} {t:List D5} {s:FU} {k:Nat} {f:Js} (hf:s.frames[k]?=some f) (h:Ta m f=false):J6 m t s k=false:=by
 unfold J6;simp only [hf,h,Bool.false_and]
theorem kY (cs ds:List Value) (At:Option Addr) (ct hi:Nat) (m:AP) (t:List D5) (s:FU) (k:Nat) (f:Js) (w:World) (hm:Db.R w 0 hi cs m) (htab:(NU.sl false).R w 0 hi [.slice At t.length ct] t) (hs:K8.R w 0 hi ds s) (hhi:hi≤w.heap.size) (hv:FE m= .inr t) (hin:Vd s) (hf:s.frames[k]?=some f):
 Calls prog 66 #[.agg (cs++ .slice At t.length ct::ds).toArray,.int .i64 k] w fun e w'=>Below w.heap.size w w'∧e= .returned (.bool (J6 m t s k)):=by
 obtain⟨R,hR⟩: ∃R,J6 m t s k=R:=⟨_,rfl⟩
 rw [hR]
 have HR:=AA hR
 obtain⟨hmo,htl,htb⟩:=J9 hv
 have Wx:=AA hmo;have GD:=AA htb;have HTL:=AA htl;have CJ:=AA hhi;have rD:=AA htab;have oP:=AA hf
 have hnf:=hmo.nf
 have hfl:=hin.aj
 obtain⟨hl1,hl2⟩:=hin.frames f (List.mem_of_getElem? hf)
 obtain⟨v1,v2,v3,v4,v5,v6,rfl,h0,_,_,_,_,h5,_⟩:=Av.1 hm
 obtain⟨A0,c0,rfl⟩:=AJ h0
 obtain⟨A5,c5,rfl⟩:=AJ h5
 obtain⟨u0,u1,u2,u5,rfl,s0,_⟩:=DR.1 hs
 obtain⟨B0,d0,rfl⟩:=AJ s0
 obtain⟨bf,of,Al,cl,As,cS,eB,_,hbf,g0,g1,g2,g3,ff,fp,hul,hus⟩:=NM s0 hf
 subst eB
 have hkl:=(List.getElem?_eq_some_iff.1 hf).1
 have H0:=AA h0;have H5:=AA h5;have S0:=AA s0
 have HLR:=AA (Rd.Gj hul).2;have M7:=AA (Rd.Gj hus).2
 have LBF:Hid (bf<w.heap.size):=AA (Nat.lt_of_lt_of_le hbf hhi)
 unfold Rd.Gd at ff fp
 have hk0:(0:Int)≤k:=by omega
 have hk1:(k:Int)<s.frames.length:=by omega
 clear hR hmo htl htb hm htab hs hhi hv hin hf h0 h5 s0 hul hus hbf
 change Calls prog 66 #[.agg #[.slice A0 m.types.length c0,v2,v3,.int .i64 m.first,.int .i64 m.most,.slice A5 m.fns.length c5,v5,v6,.slice At t.length ct,.slice (some ⟨bf,of,none⟩) s.frames.length d0,u1,u2,.int .i64 s.CU,.int .i8 s.end_,u5,.int .i8 s.trap,.int .i64 s.used],.int .i64 k] w _
 go_enter func66,ntmps66
 go_upto_region 1 with fail
 generalize hw1:w.alloc (.cells #[.slice A0 m.types.length c0,v2,v3,.int .i64 m.first,.int .i64 m.most,.slice A5 m.fns.length c5,v5,v6,.slice At t.length ct,.slice (some ⟨bf,of,none⟩) s.frames.length d0,u1,u2,.int .i64 s.CU,.int .i8 s.end_,u5,.int .i8 s.trap,.int .i64 s.used] 127)=w1
 obtain⟨hb1,hx1⟩:=EK hw1
 have hz1:w1.heap.size=w.heap.size+1:=by rw [←hw1];simp
 clear hw1
 have e0:=(hb1.cell LBF.out (p:=⟨bf,of+k*4,none⟩)).trans g0
 have e1:=(hb1.cell LBF.out (p:=⟨bf,of+k*4+1,none⟩)).trans g1
 have e2:=(hb1.cell LBF.out (p:=⟨bf,of+k*4+2,none⟩)).trans g2
 have e3:=(hb1.cell LBF.out (p:=⟨bf,of+k*4+3,none⟩)).trans g3
 have q9:=hx1.q 9 rfl
 have HB1:=AA hb1;have yw:=AA hx1
 clear g0 g1 g2 g3 hb1 hx1
 go_upto_region 2 with fail
 generalize hw2:w1.alloc (.cells #[.int .i64 f.f,.int .i64 f.pc,.slice Al f.loc.length cl,.slice As f.st.length cS] 91)=w2
 obtain⟨hb2,hx2⟩:=EK hw2
 have hz2:w2.heap.size=w.heap.size+2:=by rw [←hw2];simp;omega
 rw [hz1] at hx2
 try rw [hz1]
 have Jo:=AA hx2
 have kZ:=AA (yw.out.below hb2 yw.out.lt)
 have HB2:Hid (Below w.heap.size w w2):=AA (HB1.out.trans (hb2.mono HB1.out.size))
 clear hw2 hb2 hx2 hz1 e0 e1 e2 e3 q9 HB1 yw
 have r0:=Jo.out.q 0 rfl
 have q5:=kZ.out.q 5 rfl
 by_cases hin1:Eo f.f m.fns.length=true
 case neg=>
  have HX:Hid (R=false):=AA (by rw [←HR.out];exact V3 oP.out (by unfold Ta;rw [Bool.eq_false_iff.2 hin1];rfl))
  have key:decide (f.f<0)=true∨(decide (f.f<0)=false∧decide ((m.fns.length:Int)≤f.f)=true):=by
   have: ¬(0≤f.f∧f.f<m.fns.length):=fun e=>hin1 (decide_eq_true e)
   simp only [decide_eq_true_eq,decide_eq_false_iff_not];omega
  clear hin1
  rcases key with k1 | ⟨k1,k2⟩
  all_goals
   go_wp2_with fail
   go_ret
   exact⟨HB2.out,by rw [HX.out];rfl⟩
 obtain⟨j,hj,hjl⟩:=Fw hin1
 obtain⟨fn,hfn⟩: ∃fn,m.fns[j]?=some fn:=⟨_,List.getElem?_eq_getElem hjl⟩
 have dY:Qy m f.f=fn:=by rw [hj];exact Nf hfn
 obtain⟨bF,oF,Jm,KP,fU,_,V4,g0,g1,g2,_,_,hcd⟩:=FN H5.out hfn
 subst fU
 have rM:Hid (bF<w.heap.size):=AA (Nat.lt_of_lt_of_le V4 CJ.out)
 have hfo:=Wx.out.fns fn (List.mem_of_getElem? hfn)
 obtain⟨tn,ht⟩: ∃tn:Nat,fn.t=(tn:Int):=⟨fn.t.toNat,by have:=hfo.t0;omega⟩
 have htl:tn<m.types.length:=by have:=hfo.t1;omega
 obtain⟨ty,hty⟩: ∃ty,m.types[tn]?=some ty:=⟨_,List.getElem?_eq_getElem htl⟩
 obtain⟨bq,oq,X3,_,hbq,ht0,ht1,htp,htr⟩:=DN H0.out hty
 subst X3
 have JN:CG m fn.t=ty:=by rw [ht];exact FI hty
 have HLV:Hid (C8 m fn=ty.p++fn.loc):=AA (by unfold C8;rw [JN])
 have hloc:fn.loc.size+ty.p.size≤64:=by have:=hfo.loc;rw [JN] at this;exact this
 have hadd:binOp .add 9 (.string ty.p) (.string fn.loc)=pure (.string (ty.p++fn.loc)):=Fh _ _ _ (by omega)
 rw [ht] at g0
 have y0:=(HB2.out.cell rM.out (p:=⟨bF,oF+j*3,none⟩)).trans g0
 have y1:=(HB2.out.cell rM.out (p:=⟨bF,oF+j*3+1,none⟩)).trans g1
 have y2:=(HB2.out.cell rM.out (p:=⟨bF,oF+j*3+2,none⟩)).trans g2
 have LBQ:Hid (bq<w.heap.size):=AA (Nat.lt_of_lt_of_le hbq CJ.out)
 have HQ0:=AA ht0
 have ZY:=AA hfn;have HFV:=AA dY;have yY:=AA hcd;have HJJ:=AA hj
 have J_:=hfo.few
 have hzf:=hfo.loc
 have ACZ:Hid (Ta m f=(Eo f.pc fn.code.length&&EN f.loc (C8 m fn).data.toList)):=AA (by unfold Ta;rw [hin1,dY,Bool.true_and])
 rw [hj] at r0
 have hj0:(0:Int)≤j:=by omega
 have hj1:(j:Int)<m.fns.length:=by omega
 have k1:decide ((j:Int)<0)=false:=decide_eq_false (by omega)
 have k2:decide ((m.fns.length:Int)≤(j:Int))=false:=decide_eq_false (by omega)
 have k2n:decide (m.fns.length≤j)=false:=decide_eq_false (by omega)
 have ht20:(0:Int)≤tn:=by omega
 have ht21:(tn:Int)<m.types.length:=by omega
 clear hin1 hj hfn dY hcd g0 g1 g2 V4 hfo ht hty ht0 ht1 htp htr JN hbq hzf htl
 go_upto_region 5 with fail
 generalize hw3:w2.alloc (.cells #[.int .i64 tn,.string fn.loc,.slice Jm fn.code.length KP] 96)=w3
 obtain⟨hb3,hx3⟩:=EK hw3
 rw [hz2] at hx3
 try rw [hz2]
 have bH:=AA hx3
 have TR:=AA (Jo.out.below hb3 Jo.out.lt)
 have HV3:=AA (kZ.out.below hb3 kZ.out.lt)
 have HB3:Hid (Below w.heap.size w w3):=AA (HB2.out.trans (hb3.mono HB2.out.size))
 clear hw3 hb3 hx3 hz2 r0 q5 y0 y1 y2 HB2 Jo kZ
 have r1:=TR.out.q 1 rfl
 have n2:=bH.out.q 2 rfl
 by_cases hin2:Eo f.pc fn.code.length=true
 case neg=>
  have HX:Hid (R=false):=AA (by rw [←HR.out];exact V3 oP.out (by rw [ACZ.out,Bool.eq_false_iff.2 hin2];rfl))
  have key:decide (f.pc<0)=true∨(decide (f.pc<0)=false∧decide ((fn.code.length:Int)≤f.pc)=true):=by
   have: ¬(0≤f.pc∧f.pc<fn.code.length):=fun e=>hin2 (decide_eq_true e)
   simp only [decide_eq_true_eq,decide_eq_false_iff_not];omega
  clear hin2
  rcases key with z1 | ⟨z1,z2⟩
  all_goals
   go_quiet (fail)
   go_wp2_with fail
   go_ret
   exact⟨below_drewN HB3.out _,by rw [HX.out];rfl⟩
 obtain⟨p,hp,hpl⟩:=Fw hin2
 have Yl:=AA hp
 rw [hp] at r1
 have hp0:(0:Int)≤p:=by omega
 have hp1:(p:Int)<fn.code.length:=by omega
 have z1:decide ((p:Int)<0)=false:=decide_eq_false (by omega)
 have z2:decide ((fn.code.length:Int)≤(p:Int))=false:=decide_eq_false (by omega)
 have z2n:decide (fn.code.length≤p)=false:=decide_eq_false (by omega)
 obtain⟨lb,hlb⟩: ∃lb,EN f.loc (C8 m fn).data.toList=lb:=⟨_,rfl⟩
 have yx:Hid (Ta m f=lb):=AA (by rw [ACZ.out,hin2,hlb,Bool.true_and])
 have SL:(ty.p++fn.loc).size≤140737488351232:=by rw [ByteArray.size_append];omega
 have oN:Hid (∀W,Below w3.heap.size w3 W→Calls prog 101 #[.slice Al f.loc.length cl,.string (ty.p++fn.loc)] W fun e w'=>Below W.heap.size W w'∧e= .returned (.bool lb)):=AA (fun W hW=>by
  have hB:=HB3.out.trans (hW.mono HB3.out.size)
  have hq:=Uu Al f.loc.length cl hi f.loc (ty.p++fn.loc) W rfl (HLR.out.below' hB CJ.out) (Nat.le_trans CJ.out hB.size) SL
  rw [←HLV.out,hlb] at hq
  rw [←HLV.out]
  exact hq)
 have HS:Hid (∀W,Below w3.heap.size w3 W→W.cell? ⟨w.heap.size,0,none⟩=some (.slice (some ⟨bq,oq,none⟩) m.types.length c0)∧W.cell? ⟨w.heap.size+1,1,none⟩=some (.int .i64 p)∧W.cell? ⟨w.heap.size+1,2,none⟩=some (.slice Al f.loc.length cl)∧W.cell? ⟨w.heap.size+2,0,none⟩=some (.int .i64 tn)∧W.cell? ⟨w.heap.size+2,1,none⟩=some (.string fn.loc)∧W.cell? ⟨w.heap.size+2,2,none⟩=some (.slice Jm fn.code.length KP)∧W.cell? ⟨bq,oq+tn*2,none⟩=some (.string ty.p)∧Below w3.heap.size w3 W):=AA (fun W hW=>by
  have x1:=HV3.out.below hW HV3.out.lt
  have x2:=TR.out.below hW TR.out.lt
  have x3:=bH.out.below hW bH.out.lt
  have hB:=HB3.out.trans (hW.mono HB3.out.size)
  exact⟨x1.cell 0,(x2.cell 1).trans (by rw [←Yl.out];rfl),x2.cell 2,x3.cell 0,x3.cell 1,x3.cell 2,(hB.cell LBQ.out).trans HQ0.out,hW⟩)
 clear hin2 hp hlb r1 n2 SL hloc
 go_region_held3 (fun W=>W.cell? ⟨w.heap.size,0,none⟩=some (.slice (some ⟨bq,oq,none⟩) m.types.length c0)∧W.cell? ⟨w.heap.size+1,1,none⟩=some (.int .i64 p)∧W.cell? ⟨w.heap.size+1,2,none⟩=some (.slice Al f.loc.length cl)∧W.cell? ⟨w.heap.size+2,0,none⟩=some (.int .i64 tn)∧W.cell? ⟨w.heap.size+2,1,none⟩=some (.string fn.loc)∧W.cell? ⟨w.heap.size+2,2,none⟩=some (.slice Jm fn.code.length KP)∧W.cell? ⟨bq,oq+tn*2,none⟩=some (.string ty.p)∧Below w3.heap.size w3 W)
  (first | exact HS.out _ (Below.refl _ _) | exact HS.out _ (Below.refl _ _).drew | exact HS.out _ S1)
  (first
  | (go_at_call 101;refine(oN.out _ (Below.refl _ _).drew).mono ?_;rintro e W1 ⟨hb,rfl⟩;have S1:=CV hb;clear hb))
 have HW1:=AA S1
 have Ct:Hid (Below w.heap.size w W1):=AA (HB3.out.trans (S1.mono HB3.out.size))
 clear S1
 cases lb with
 | false=>
  have HX:Hid (R=false):=AA (by rw [←HR.out];exact V3 oP.out yx.out)
  go_wp2_with fail
  go_ret
  exact⟨Ct.out,by rw [HX.out];rfl⟩
 | true=>
 obtain⟨tb,htk,SK⟩:=GD.out j fn ZY.out
 have yc:=AA SK
 obtain⟨sh,hsh⟩: ∃sh,tb.shapes[p]?=some sh:=⟨_,List.getElem?_eq_getElem (by rw [SK.n];omega)⟩
 have hshz:=SK.low sh (List.mem_of_getElem? hsh)
 obtain⟨bt,ot,A_s,c_s,_,_,_,_,_,_,eT,_,hbt,t0,_,_,_,_,hss,_⟩:=aR rD.out htk
 subst eT
 obtain⟨bs,os,eS,_,hbs,cs',hc',hr'⟩:=Dj hss hsh
 subst eS
 obtain⟨rfl,_⟩:=hr'
 have y0:=(Ct.out.cell (Nat.lt_of_lt_of_le hbt CJ.out) (p:=⟨bt,ot+j*5,none⟩)).trans t0
 have y1:W1.cell? ⟨bs,os+p,none⟩=some (.string sh):=(Ct.out.cell (Nat.lt_of_lt_of_le hbs CJ.out) (p:=⟨bs,os+p,none⟩)).trans (by have:=hc' 0 _ rfl;simpa [Rd.str,Rd.one] using this)
 have HSV:Hid (IQ t f.f f.pc=sh):=AA (by unfold IQ;rw [HJJ.out,Yl.out];simp only [Int.toNat_natCast,htk,Option.map_some,Option.getD_some,hsh])
 have HSH:=AA hsh
 have HV4:=AA (HV3.out.below HW1.out HV3.out.lt)
 have X6:=AA (TR.out.below HW1.out TR.out.lt)
 have ko:=AA (bH.out.below HW1.out bH.out.lt)
 have q8:=HV4.out.q 8 rfl
 have r0:W1.cell? ⟨w.heap.size+1,0,none⟩=some (.int .i64 j):=(X6.out.cell 0).trans (by rw [←HJJ.out];rfl)
 have r1:W1.cell? ⟨w.heap.size+1,1,none⟩=some (.int .i64 p):=(X6.out.cell 1).trans (by rw [←Yl.out];rfl)
 have kt1:(j:Int)<t.length:=by rw [HTL.out];exact hj1
 have kt2:(p:Int)<tb.shapes.length:=by rw [SK.n];exact hp1
 clear htk SK hsh t0 hss hc' hbt hbs HV3 TR bH HS oN
 go_wp2_with fail
 go_quiet (fail)
 generalize Pn:W1.drewN _=w5
 have hd5:Below W1.heap.size W1 w5:=by rw [←Pn];exact below_drewN (Below.refl _ _) _
 have Dv:Hid (Below w.heap.size w w5):=AA (Ct.out.trans (hd5.mono Ct.out.size))
 have HV5:=AA (HV4.out.below hd5 HV4.out.lt)
 have wO:=AA (X6.out.below hd5 X6.out.lt)
 have HN5:=AA (ko.out.below hd5 ko.out.lt)
 clear Pn hd5 y0 y1 q8 r0 r1 kt1 kt2 HV4 X6 ko Ct HW1 HB3
 have q9:=HV5.out.q 9 rfl
 have MG:Hid (∀(W:World) (x:ByteArray),x.size≤256→Below w.heap.size w W→Calls prog 101 #[.slice As f.st.length cS,.string x] W fun e w'=>Below W.heap.size W w'∧e= .returned (.bool (EN f.st x.data.toList))):=AA (fun W x hx hB=>
  Uu As f.st.length cS hi f.st x W rfl (M7.out.below' hB CJ.out) (Nat.le_trans CJ.out hB.size) (by omega))
 cases hn:s.frames[k+1]? with
 | none=>
  have hlast: ¬k+1<s.frames.length:=by have:=List.getElem?_eq_none_iff.1 hn;omega
  have n1:decide ((k:Int)+1<s.frames.length)=false:=decide_eq_false (by omega)
  have n1n:decide (k+1<s.frames.length)=false:=decide_eq_false hlast
  have HX:Hid (R=EN f.st sh.data.toList):=AA (by
   rw [←HR.out,Ut oP.out hn];unfold KQ Vz;rw [yx.out,HSV.out,Bool.true_and])
  clear hn hlast
  have s3:=wO.out.q 3 rfl
  go_wp2_with fail
  refine(MG.out w5 sh (by omega) Dv.out).mono ?_
  rintro e w6 ⟨hb6,rfl⟩
  have EL:Hid (Below w.heap.size w w6):=AA (Dv.out.trans (hb6.mono Dv.out.size))
  clear hb6 s3 q9
  go_wp2_with fail
  go_ret
  exact⟨EL.out,by rw [HX.out];rfl⟩
 | some g=>
  have hnl:=(List.getElem?_eq_some_iff.1 hn).1
  have n1:decide ((k:Int)+1<s.frames.length)=true:=decide_eq_true (by omega)
  have n1n:decide (k+1<s.frames.length)=true:=decide_eq_true hnl
  obtain⟨b2,o2,_,_,_,_,eB,_,hb2,i0,_,_,_,g63,_⟩:=NM S0.out hn
  injection eB with eB;injection eB with qm qo _
  subst qm qo
  have x0:w5.cell? ⟨bf,of+(k+1)*4,none⟩=some (.int .i64 g.f):=(Dv.out.cell LBF.out).trans i0
  have hk2:(k:Int)+1<s.frames.length:=by omega
  have HNK:=AA hn
  unfold Rd.Gd at g63
  obtain⟨z,hz⟩: ∃z,fn.code[p]?=some z:=⟨_,List.getElem?_eq_getElem hpl⟩
  have yg:Hid (dV (Qy m f.f) f.pc=z):=AA (by unfold dV;rw [HFV.out,Yl.out,Int.toNat_natCast,hz];rfl)
  obtain⟨bc,oc,A_z,c_z,eC,_,hbc,j0,j1,j2,_,_⟩:=EP yY.out hz
  subst eC
  have yh:bc<w.heap.size:=Nat.lt_of_lt_of_le hbc CJ.out
  have y0:=(Dv.out.cell yh (p:=⟨bc,oc+p*3,none⟩)).trans j0
  have y1:=(Dv.out.cell yh (p:=⟨bc,oc+p*3+1,none⟩)).trans j1
  have y2:=(Dv.out.cell yh (p:=⟨bc,oc+p*3+2,none⟩)).trans j2
  have s1:w5.cell? ⟨w.heap.size+1,1,none⟩=some (.int .i64 p):=(wO.out.cell 1).trans (by rw [←Yl.out];rfl)
  have s2:=HN5.out.q 2 rfl
  have HZZ:=AA hz
  clear hn i0 hb2 hz j0 j1 j2 hbc hnl
  go_upto_region 11 with fail
  generalize Xy:w5.alloc (.cells #[.int .u8 (z.op.toNat:Int),.int .i64 z.a,.slice A_z z.l.length c_z] 122)=w6
  obtain⟨hb6,d0',d1',_,_⟩:=kW Xy
  have EL:Hid (Below w.heap.size w w6):=AA (Dv.out.trans (hb6.mono Dv.out.size))
  have HV6:=AA (HV5.out.below hb6 HV5.out.lt)
  have HF6:=AA (wO.out.below hb6 wO.out.lt)
  clear Xy hb6 y0 y1 y2 s1 s2 x0 q9
  have q5:=HV6.out.q 5 rfl
  by_cases hg0:g.f<0
  case pos=>
   have n2:decide (g.f<0)=true:=decide_eq_true hg0
   have HX:Hid (R=false):=AA (by rw [←HR.out];exact X5 oP.out HNK.out hg0)
   clear hg0
   go_wp2_with fail
   go_ret
   exact⟨EL.out,by rw [HX.out];rfl⟩
  obtain⟨n,hgn⟩: ∃n:Nat,g.f=(n:Int):=⟨g.f.toNat,by omega⟩
  have HX0:Hid (R=(PX m f (n:Int)&&EN f.st (sh.extract 0 (sh.size-(CG m (Qy m (n:Int)).t).p.size)).data.toList)):=AA (by
   rw [←HR.out,bG oP.out HNK.out hgn];unfold KQ Vz;rw [yx.out,HSV.out,Bool.true_and])
  rw [hgn] at g63⊢
  have n2:decide ((n:Int)<0)=false:=decide_eq_false (by omega)
  clear hg0 hgn
  by_cases hgl:n<m.fns.length
  case neg=>
   have n3:decide ((m.fns.length:Int)≤(n:Int))=true:=decide_eq_true (by omega)
   have n3n:decide (m.fns.length≤n)=true:=decide_eq_true (by omega)
   have HX:Hid (R=false):=AA (by
    rw [HX0.out];unfold PX
    rw [show Eo (n:Int) m.fns.length=false from decide_eq_false (by omega)];rfl)
   clear hgl
   go_wp2_with fail
   go_ret
   exact⟨EL.out,by rw [HX.out];rfl⟩
  have n3:decide ((m.fns.length:Int)≤(n:Int))=false:=decide_eq_false (by omega)
  have n3n:decide (m.fns.length≤n)=false:=decide_eq_false (by omega)
  by_cases h11:z.op.toNat=11
  case neg=>
   have n4:((z.op.toNat:Int) !=11)=true:=by rw [bne_iff_ne];omega
   have HX:Hid (R=false):=AA (by rw [HX0.out];unfold PX;rw [yg.out,decide_eq_false h11];simp)
   clear h11 hgl
   go_wp2_with fail
   go_ret
   exact⟨EL.out,by rw [HX.out];rfl⟩
  have n4:((z.op.toNat:Int) !=11)=false:=by rw [bne_eq_false_iff_eq];omega
  by_cases ha:z.a=(n:Int)
  case neg=>
   have n5:(z.a !=(n:Int))=true:=by rw [bne_iff_ne];exact ha
   have HX:Hid (R=false):=AA (by rw [HX0.out];unfold PX;rw [yg.out,decide_eq_false ha];simp)
   clear h11 ha hgl
   go_wp2_with fail
   go_ret
   exact⟨EL.out,by rw [HX.out];rfl⟩
  have n5:(z.a !=(n:Int))=false:=by rw [bne_eq_false_iff_eq];exact ha
  obtain⟨f2,hf2⟩: ∃f2,m.fns[n]?=some f2:=⟨_,List.getElem?_eq_getElem hgl⟩
  have Zb:=Wx.out.fns f2 (List.mem_of_getElem? hf2)
  obtain⟨t2,ht2⟩: ∃t2:Nat,f2.t=(t2:Int):=⟨f2.t.toNat,by have:=Zb.t0;omega⟩
  obtain⟨wP,Zd⟩: ∃ty,m.types[t2]?=some ty:=⟨_,List.getElem?_eq_getElem (by have:=Zb.t1;omega)⟩
  have ACV:=(List.getElem?_eq_some_iff.1 Zd).1
  have y8:(CG m (Qy m (n:Int)).t)=wP:=by rw [Nf hf2,ht2];exact FI Zd
  obtain⟨bg,og,A_g,c_g,eG,_,hbg,j0,_⟩:=FN H5.out hf2
  injection eG with eG;injection eG with eG1 eG2 _
  subst eG1 eG2
  obtain⟨b3,o3,eQ,_,hbq3,j1,_⟩:=DN H0.out Zd
  injection eQ with eQ;injection eQ with eQ1 eQ2 _
  subst eQ1 eQ2
  rw [ht2] at j0
  have y0:=(EL.out.cell rM.out (p:=⟨bF,oF+n*3,none⟩)).trans j0
  have y1:=(EL.out.cell LBQ.out (p:=⟨bq,oq+t2*2,none⟩)).trans j1
  have hcall:=yc.out.call p z sh HZZ.out HSH.out h11
  rw [ha,y8] at hcall
  have HX:Hid (R=EN f.st (sh.extract 0 (sh.size-wP.p.size)).data.toList):=AA (by
   rw [HX0.out,y8];unfold PX
   rw [yg.out,show Eo (n:Int) m.fns.length=true from decide_eq_true (by omega),decide_eq_true h11,decide_eq_true ha];rfl)
  obtain⟨cut,hcut⟩: ∃cut,sh.extract 0 (sh.size-wP.p.size)=cut:=⟨_,rfl⟩
  rw [hcut] at HX
  have hsl: ∀W,(Instr.slice 9 (.string sh) none (some (.int .i64 ((sh.size:Int)-wP.p.size))) none).run prog W= .ok (.string cut) W:=fun W=>by
   rw [run_slice_string_to_if (P:=prog) W 9 sh .i64 _ underlying9,if_pos (by omega),show((sh.size:Int)-wP.p.size).toNat=sh.size-wP.p.size from by omega,hcut]
  have hcz:cut.size≤256:=by rw [←hcut,ByteArray.size_extract];omega
  have t20:(0:Int)≤t2:=by omega
  have t21:(t2:Int)<m.types.length:=by omega
  have g0':(0:Int)≤n:=by omega
  have g1':(n:Int)<m.fns.length:=by omega
  have hws:IntKind.i64.wrap ((sh.size:Int)-(wP.p.size:Int))=(sh.size:Int)-(wP.p.size:Int):=IntWalk.i64_in _ (by omega)
  have q0:=HV6.out.q 0 rfl
  clear h11 ha hgl hf2 Zb ht2 Zd y8 j0 j1 hbg hbq3 hcut
  go_wp2_with fail
  go_quiet (fail)
  generalize hw7:w6.drewN _=w7
  have hd7:Below w6.heap.size w6 w7:=by rw [←hw7];exact below_drewN (Below.refl _ _) _
  have TP:Hid (Below w.heap.size w w7):=AA (EL.out.trans (hd7.mono EL.out.size))
  have s3:=(HF6.out.below hd7 HF6.out.lt).q 3 rfl
  clear hw7 hd7 q0 q5 y0 y1 d0' d1'
  go_wp2_with fail
  refine(MG.out w7 cut hcz TP.out).mono ?_
  rintro e w8 ⟨PE,rfl⟩
  have Vq:Hid (Below w.heap.size w w8):=AA (TP.out.trans (PE.mono TP.out.size))
  clear PE s3
  go_wp2_with fail
  go_ret
  exact⟨Vq.out,by rw [HX.out];rfl⟩
theorem ku (A:Option Addr) (n c:Nat) (w:World):Calls prog 121 #[.slice A n c] w fun e w'=>w=w'∧e= .returned (.bool (!decide (n=4096))):=by
 by_cases h:n=4096
 ·subst h
  go_enter func121,ntmps121
  go_wp2_with fail
  go_ret
  exact⟨rfl,rfl⟩
 ·have n1:((n:Int) !=4096)=true:=by rw [bne_iff_ne];omega
  have HX:Hid ((!decide (n=4096))=true):=AA (by rw [decide_eq_false h];rfl)
  clear h
  go_enter func121,ntmps121
  go_wp2_with fail
  go_ret
  exact⟨rfl,by rw [HX.out];rfl⟩
def LB (l:List (List UInt8)):Bool:=l.all (fun p=>decide (p.length=4096))
theorem lC {l:List (List UInt8)} {k:Nat} {p:List UInt8} (h:l[k]?=some p):LB (l.drop k)=(decide (p.length=4096)&&LB (l.drop (k+1))):=by
 obtain⟨h1,rfl⟩:=List.getElem?_eq_some_iff.1 h
 rw [List.drop_eq_getElem_cons h1];rfl
theorem lD (A:Option Addr) (c hi:Nat) (l:List (List UInt8)) (w:World) (h:((Rd.u8.sl false).sl false).R w 0 hi [.slice A l.length c] l) (hl:l.length≤140737488351232):
 Calls prog 149 #[.slice A l.length c,.func (.func 121) #[] #[]] w fun e w'=>w=w'∧ ∃i:Int,e= .returned (.int .i64 i)∧decide (0≤i)= !LB l:=by
 have H:=AA h
 clear h
 go_enter func149,ntmps149
 go_wp2_with fail
 go_loop [5,8] (fun _ i=> ∃k:Nat,k≤l.length∧i= .int .i64 k∧LB (l.drop k)=LB l) (fun _ i=>l.length-(intOf i).toNat)
 case atStart=>exact⟨0,Nat.zero_le _,rfl,rfl⟩
 case round=>
  obtain⟨k,hk,rfl,hall⟩:=hrel
  have HA:=AA hall
  clear hall
  by_cases hlt:k<l.length
  ·obtain⟨p,hp⟩: ∃p,l[k]?=some p:=⟨_,List.getElem?_eq_getElem hlt⟩
   obtain⟨b,o,eA,_,_,cs',hc',hr'⟩:=Dj H.out hp
   subst eA
   obtain⟨A',c',rfl,_⟩:=hr'
   have f0:w.cell? ⟨b,o+k,none⟩=some (.slice A' p.length c'):=by have:=hc' 0 _ rfl;simpa [Rd.sl] using this
   have HST:=AA (lC hp)
   have hk0:(0:Int)≤k:=by omega
   have hk1:(k:Int)<l.length:=by omega
   have HC:=AA (ku A' p.length c' w)
   clear hp hc'
   go_wp2_with fail
   refine HC.out.mono ?_
   rintro e w' ⟨rfl,rfl⟩
   by_cases iV:p.length=4096
   ·rw [decide_eq_true iV]
    have HG:Hid (LB (l.drop (k+1))=LB l):=AA (by rw [←HA.out,HST.out,decide_eq_true iV,Bool.true_and])
    clear iV
    go_wp2_with fail
    exact⟨⟨k+1,by omega,by go_num,HG.out⟩,by simp [intOf];omega⟩
   ·rw [decide_eq_false iV]
    have HX:Hid (LB l=false):=AA (by rw [←HA.out,HST.out,decide_eq_false iV,Bool.false_and])
    clear iV
    go_wp2_with fail
    go_ret
    exact⟨rfl,k,rfl,by rw [HX.out,decide_eq_true (by omega)];rfl⟩
  ·have HX:Hid (LB l=true):=AA (by rw [←HA.out,List.drop_of_length_le (by omega)];rfl)
   have n1:decide ((k:Int)<l.length)=false:=decide_eq_false (by omega)
   go_wp2_with fail
   go_ret
   exact⟨rfl,-1,rfl,by rw [HX.out];rfl⟩
theorem fZ (A:Option Addr) (c hi:Nat) (l:List (List UInt8)) (w:World) (h:((Rd.u8.sl false).sl false).R w 0 hi [.slice A l.length c] l) (hl:l.length≤140737488351232):
 Calls prog 120 #[.slice A l.length c,.func (.func 121) #[] #[]] w fun e w'=>w=w'∧e= .returned (.bool (!LB l)):=by
 have HC:=AA (lD A c hi l w h hl)
 clear h
 go_enter func120,ntmps120
 go_wp2_with fail
 refine HC.out.mono ?_
 rintro e w' ⟨rfl,i,rfl,hi⟩
 have HI:=AA hi
 clear hi
 go_wp2_with fail
 go_ret
 exact⟨rfl,by rw [←HI.out];rfl⟩
theorem lF (cs ds:List Value) (vt:Value) (hi:Nat) (m:AP) (s:FU) (w:World) (hm:Db.R w 0 hi cs m) (hs:K8.R w 0 hi ds s) (hhi:hi≤w.heap.size) (hpl:s.pages.length≤140737488351232):
 Calls prog 100 #[.agg (cs++vt::ds).toArray] w fun e w'=>Below w.heap.size w w'∧e= .returned (.bool (Ci m s 7)):=by
 have wG:Hid (Ci m s 7=(decide (m.first≤s.pages.length∧(s.pages.length:Int)≤m.most)&&LB s.pages)):=AA rfl
 obtain⟨R,hR⟩: ∃R,Ci m s 7=R:=⟨_,rfl⟩
 rw [hR] at wG⊢
 clear hR
 obtain⟨v1,v2,v3,v4,v5,v6,rfl,_,_,h2,hf3,XZ,_⟩:=Av.1 hm
 obtain⟨u0,u1,u2,u5,rfl,_,s1,s2,sr,_,_,_,su⟩:=DR.1 hs
 obtain⟨A2,c2,rfl⟩:=AJ h2
 obtain⟨B1,d1,rfl⟩:=AJ s1
 obtain⟨B2,d2,rfl⟩:=AJ s2
 have H2:=AA h2;have CJ:=AA hhi;have S1:=AA s1;have S2:=AA s2
 unfold Rd.Gd at hf3 XZ sr su
 clear hm hs h2 s1 s2 hhi
 change Calls prog 100 #[.agg #[v1,v2,.slice A2 m.globs.length c2,.int .i64 m.first,.int .i64 m.most,v4,v5,v6,vt,u0,.slice B1 s.globs.length d1,.slice B2 s.pages.length d2,.int .i64 s.CU,.int .i8 s.end_,u5,.int .i8 s.trap,.int .i64 s.used]] w _
 go_enter func100,ntmps100
 go_upto_region 1 with fail
 generalize hw1:w.alloc (.cells #[v1,v2,.slice A2 m.globs.length c2,.int .i64 m.first,.int .i64 m.most,v4,v5,v6,vt,u0,.slice B1 s.globs.length d1,.slice B2 s.pages.length d2,.int .i64 s.CU,.int .i8 s.end_,u5,.int .i8 s.trap,.int .i64 s.used] 127)=w1
 obtain⟨hb1,hx1⟩:=EK hw1
 have HB1:=AA hb1;have CS:=AA hx1
 clear hw1 hb1 hx1
 have q3:=CS.out.q 3 rfl
 have q4:=CS.out.q 4 rfl
 have q11:=CS.out.q 11 rfl
 by_cases h1:m.first≤(s.pages.length:Int)
 case neg=>
  have n1:decide (m.first≤(s.pages.length:Int))=false:=decide_eq_false h1
  have HX:Hid (R=false):=AA (by rw [wG.out,decide_eq_false (by omega)];rfl)
  clear h1
  go_wp2_with fail
  go_ret
  exact⟨HB1.out,by rw [HX.out];rfl⟩
 have n1:decide (m.first≤(s.pages.length:Int))=true:=decide_eq_true h1
 by_cases h2:(s.pages.length:Int)≤m.most
 case neg=>
  have n2:decide ((s.pages.length:Int)≤m.most)=false:=decide_eq_false h2
  have HX:Hid (R=false):=AA (by rw [wG.out,decide_eq_false (by omega)];rfl)
  clear h1 h2
  go_wp2_with fail
  go_ret
  exact⟨HB1.out,by rw [HX.out];rfl⟩
 have n2:decide ((s.pages.length:Int)≤m.most)=true:=decide_eq_true h2
 have HX:Hid (R=LB s.pages):=AA (by rw [wG.out,decide_eq_true ⟨h1,h2⟩,Bool.true_and])
 have HC:=AA (fZ B2 d2 hi s.pages w1 (Rd.below S2.out HB1.out CJ.out) hpl)
 clear h1 h2
 go_wp2_with fail
 refine HC.out.mono ?_
 rintro e w' ⟨rfl,rfl⟩
 go_wp2_with fail
 go_ret
 exact⟨HB1.out,by rw [HX.out];simp⟩
theorem Ze (cs ds:List Value) (vt:Value) (hi:Nat) (m:AP) (s:FU) (w:World) (hm:Db.R w 0 hi cs m) (hs:K8.R w 0 hi ds s) (hhi:hi≤w.heap.size) (hng:m.globs.length≤64):
 Calls prog 99 #[.agg (cs++vt::ds).toArray] w fun e w'=>Below w.heap.size w w'∧e= .returned (.bool (Ci m s 6)):=by
 rw [show Ci m s 6=Cq m.globs s.globs from rfl]
 obtain⟨R,hR⟩: ∃R,Cq m.globs s.globs=R:=⟨_,rfl⟩
 rw [hR]
 have HR:=AA hR
 clear hR
 obtain⟨v1,v2,v3,v4,v5,v6,rfl,_,_,h2,hf3,XZ,_⟩:=Av.1 hm
 obtain⟨u0,u1,u2,u5,rfl,_,s1,s2,sr,_,_,_,su⟩:=DR.1 hs
 obtain⟨A2,c2,rfl⟩:=AJ h2
 obtain⟨B1,d1,rfl⟩:=AJ s1
 obtain⟨B2,d2,rfl⟩:=AJ s2
 have H2:=AA h2;have CJ:=AA hhi;have S1:=AA s1;have S2:=AA s2
 unfold Rd.Gd at hf3 XZ sr su
 clear hm hs h2 s1 s2 hhi
 change Calls prog 99 #[.agg #[v1,v2,.slice A2 m.globs.length c2,.int .i64 m.first,.int .i64 m.most,v4,v5,v6,vt,u0,.slice B1 s.globs.length d1,.slice B2 s.pages.length d2,.int .i64 s.CU,.int .i8 s.end_,u5,.int .i8 s.trap,.int .i64 s.used]] w _
 go_enter func99,ntmps99
 go_upto_region 1 with fail
 generalize hw1:w.alloc (.cells #[v1,v2,.slice A2 m.globs.length c2,.int .i64 m.first,.int .i64 m.most,v4,v5,v6,vt,u0,.slice B1 s.globs.length d1,.slice B2 s.pages.length d2,.int .i64 s.CU,.int .i8 s.end_,u5,.int .i8 s.trap,.int .i64 s.used] 127)=w1
 obtain⟨hb1,hx1⟩:=EK hw1
 have HB1:=AA hb1;have CS:=AA hx1
 clear hw1 hb1 hx1
 have q2:=CS.out.q 2 rfl
 have q10:=CS.out.q 10 rfl
 by_cases hgl:s.globs.length=m.globs.length
 case neg=>
  have k3:((s.globs.length:Int) !=(m.globs.length:Int))=true:=by rw [bne_iff_ne];omega
  have k3n:(s.globs.length !=m.globs.length)=true:=by rw [bne_iff_ne];exact hgl
  have HX:Hid (R=false):=AA (by rw [←HR.out];exact Ij (fun e=>hgl e.symm))
  clear hgl
  go_wp2_with fail
  go_ret
  exact⟨HB1.out,by rw [HX.out];rfl⟩
 have k3:((s.globs.length:Int) !=(m.globs.length:Int))=false:=by rw [bne_eq_false_iff_eq];omega
 have k3n:(s.globs.length !=m.globs.length)=false:=by rw [bne_eq_false_iff_eq];exact hgl
 have HGL:=AA hgl
 have hglI:(s.globs.length:Int)≤m.globs.length∧(m.globs.length:Int)≤s.globs.length:=by omega
 have hglN:m.globs.length≤s.globs.length∧s.globs.length≤m.globs.length:=by omega
 clear hgl
 go_wp2_with fail
 clear q2 q10 k3 k3n
 go_loopw [3,4,18] (fun _ _ i wr=> ∃k:Nat,k≤m.globs.length∧i= .int .i64 k∧Cq (m.globs.drop k) (s.globs.drop k)=Cq m.globs s.globs∧Below w1.heap.size w1 wr) (fun _ _ i _=>m.globs.length-(intOf i).toNat)
 case atStart=>exact⟨0,Nat.zero_le _,rfl,rfl,Below.refl _ _⟩
 case round=>
  obtain⟨k,hk,rfl,hfit,hbr⟩:=hrel
  have yS:=AA hfit;have Io:=AA hbr
  have Ec:Hid (Below w.heap.size w wr):=AA (HB1.out.trans (hbr.mono HB1.out.size))
  have LU:=AA (CS.out.below hbr CS.out.lt)
  clear hfit hbr
  by_cases hlt:k<m.globs.length
  ·obtain⟨v,hv⟩: ∃v,s.globs[k]?=some v:=⟨_,List.getElem?_eq_getElem (by omega)⟩
   obtain⟨x,hx⟩: ∃x,m.globs[k]?=some x:=⟨_,List.getElem?_eq_getElem hlt⟩
   obtain⟨b,o,eA,_,hbb,g0,g1,g2,x64⟩:=Hw H2.out hx
   subst eA
   obtain⟨b',o',eB,_,SC,cs',hc',hr'⟩:=Dj S1.out hv
   subst eB
   obtain⟨rfl,v64⟩:=hr'
   have f0:w.cell? ⟨b',o'+k,none⟩=some (.int .u64 (v:Int)):=by have:=hc' 0 _ rfl;simpa [Rd.u64,Rd.one,uv] using this
   have lb:b<w.heap.size:=Nat.lt_of_lt_of_le hbb CJ.out
   have lb':b'<w.heap.size:=Nat.lt_of_lt_of_le SC CJ.out
   have e0:=(Ec.out.cell lb (p:=⟨b,o+k*3,none⟩)).trans g0
   have e1:=(Ec.out.cell lb (p:=⟨b,o+k*3+1,none⟩)).trans g1
   have e2:=(Ec.out.cell lb (p:=⟨b,o+k*3+2,none⟩)).trans g2
   have hk0:(0:Int)≤k:=by omega
   have hk1:(k:Int)<s.globs.length:=by omega
   have hk2:(k:Int)<m.globs.length:=by omega
   have kM:=AA (QL hx hv)
   have HL:Hid (∀W,Calls prog 119 #[.int .u64 (v:Int),.int .u8 (x.l.toNat:Int)] W fun e w'=>W=w'∧e= .returned (.bool (Du v x.l.toNat))):=AA (fun W=>Nh v x.l.toNat x.l.toNat_lt W)
   have HBAD:Hid (El x v=false→R=false):=AA (fun h=>by
    rw [←HR.out,←yS.out,kM.out,h];rfl)
   have Xt:Hid (El x v=true→Cq (m.globs.drop (k+1)) (s.globs.drop (k+1))=Cq m.globs s.globs):=AA (fun h=>by rw [←yS.out,kM.out,h,Bool.true_and])
   unfold Rd.Yv at x64 v64
   clear hx hv g0 g1 g2 hc' hbb SC
   go_upto_region 6 with fail
   generalize hwg:wr.alloc (.cells #[.int .u8 (x.l.toNat:Int),.bool x.m,.int .u64 (x.v:Int)] 139)=wg
   obtain⟨hbg,hgx⟩:=EK hwg
   have iR:Hid (Below w.heap.size w wg):=AA (Ec.out.trans (hbg.mono Ec.out.size))
   have kN:Hid (Below w1.heap.size w1 wg):=AA (Io.out.trans (hbg.mono Io.out.size))
   have q10':=(LU.out.below hbg LU.out.lt).q 10 rfl
   have f0':=(iR.out.cell lb' (p:=⟨b',o'+k,none⟩)).trans f0
   have t0:=hgx.q 0 rfl
   have t1:=hgx.q 1 rfl
   have t2:=hgx.q 2 rfl
   clear hwg hbg hgx e0 e1 e2 f0
   cases hft:Du v x.l.toNat with
   | false=>
    have HX:Hid (R=false):=AA (HBAD.out (by unfold El;rw [hft];rfl))
    rw [hft] at HL
    clear hft
    go_quiet ((go_at_call 119;first | exact Bp (HL.out _) | exact Bj (HL.out _)))
    go_wp2_with fail
    go_ret
    exact⟨below_drewN iR.out _,by rw [HX.out];rfl⟩
   | true=>
    cases hxm:x.m with
    | true=>
     have HG:=AA (Xt.out (by unfold El;rw [hft,hxm];rfl))
     rw [hft] at HL
     rw [hxm] at t1
     clear hft hxm
     go_quiet ((go_at_call 119;first | exact Bp (HL.out _) | exact Bj (HL.out _)))
     go_wp2_with fail
     exact⟨⟨k+1,by omega,by go_num,HG.out,below_drewN kN.out _⟩,by simp [intOf];omega⟩
    | false=>
     by_cases hvv:v=x.v
     ·have HG:=AA (Xt.out (by unfold El;rw [hft,hxm,hvv];simp))
      have n1:((v:Int) !=(x.v:Int))=false:=by rw [bne_eq_false_iff_eq];omega
      have n2:(v !=x.v)=false:=by rw [bne_eq_false_iff_eq];exact hvv
      rw [hft] at HL
      rw [hxm] at t1
      clear hft hxm hvv
      go_quiet ((go_at_call 119;first | exact Bp (HL.out _) | exact Bj (HL.out _)))
      go_wp2_with fail
      exact⟨⟨k+1,by omega,by go_num,HG.out,below_drewN kN.out _⟩,by simp [intOf];omega⟩
     ·have HX:Hid (R=false):=AA (HBAD.out (by unfold El;rw [hft,hxm,decide_eq_false hvv];rfl))
      have n1:((v:Int) !=(x.v:Int))=true:=by rw [bne_iff_ne];omega
      have n2:(v !=x.v)=true:=by rw [bne_iff_ne];exact hvv
      rw [hft] at HL
      rw [hxm] at t1
      clear hft hxm hvv
      go_quiet ((go_at_call 119;first | exact Bp (HL.out _) | exact Bj (HL.out _)))
      go_wp2_with fail
      go_ret
      exact⟨below_drewN iR.out _,by rw [HX.out];rfl⟩
  ·have HX:Hid (R=true):=AA (by
    rw [←HR.out,←yS.out,List.drop_of_length_le (by omega),List.drop_of_length_le (by omega)];rfl)
   have n1:decide ((k:Int)<m.globs.length)=false:=decide_eq_false (by omega)
   go_wp2_with fail
   go_ret
   exact⟨Ec.out,by rw [HX.out];rfl⟩
theorem rO (r h t:Bool) (br bh bt:Nat) (w:World) (hr:w.cell? ⟨br,0,none⟩=some (.bool r)) (hh:w.cell? ⟨bh,0,none⟩=some (.bool h)) (ht:w.cell? ⟨bt,0,none⟩=some (.bool t)):
 Calls prog 93 #[.pointer (some ⟨br,0,none⟩),.pointer (some ⟨bh,0,none⟩),.pointer (some ⟨bt,0,none⟩)] w fun e w'=>w=w'∧e= .returned (.bool (r||(h||t))):=by
 cases r<;>cases h<;>cases t
 all_goals
  go_enter func93,ntmps93
  go_wp2_with fail
  go_ret
  exact⟨rfl,rfl⟩
theorem rP (r:Bool) (br bs n c:Nat) (A:Option Addr) (w:World) (hr:w.cell? ⟨br,0,none⟩=some (.bool r)) (hs:w.cell? ⟨bs,0,none⟩=some (.slice A n c)):
 Calls prog 94 #[.pointer (some ⟨br,0,none⟩),.pointer (some ⟨bs,0,none⟩)] w fun e w'=>w=w'∧e= .returned (.bool (r&&decide (1≤n∧n≤64)|| !r&&decide (n=0))):=by
 obtain⟨R,hR⟩: ∃R,(r&&decide (1≤n∧n≤64)|| !r&&decide (n=0))=R:=⟨_,rfl⟩
 rw [hR]
 cases r with
 | true=>
  by_cases h1:1≤n
  ·have a1:decide ((1:Int)≤n)=true:=decide_eq_true (by omega)
   have a2:decide (1≤n)=true:=decide_eq_true h1
   have a3:decide (0<n)=true:=decide_eq_true (by omega)
   by_cases h2:n≤64
   ·have b1:decide ((n:Int)≤64)=true:=decide_eq_true (by omega)
    have b2:decide (n≤64)=true:=decide_eq_true h2
    have HX:Hid (R=true):=AA (by rw [←hR,decide_eq_true ⟨h1,h2⟩];rfl)
    clear hR h1 h2
    go_enter func94,ntmps94
    go_wp2_with fail
    go_ret
    exact⟨rfl,by rw [HX.out];rfl⟩
   ·have b1:decide ((n:Int)≤64)=false:=decide_eq_false (by omega)
    have b2:decide (n≤64)=false:=decide_eq_false h2
    have HX:Hid (R=false):=AA (by rw [←hR,decide_eq_false (by omega)];rfl)
    clear hR h1 h2
    go_enter func94,ntmps94
    go_wp2_with fail
    go_ret
    exact⟨rfl,by rw [HX.out];rfl⟩
  ·obtain rfl:n=0:=by omega
   have HX:Hid (R=false):=AA (by rw [←hR];rfl)
   clear hR h1
   go_enter func94,ntmps94
   go_wp2_with fail
   go_ret
   exact⟨rfl,by rw [HX.out];rfl⟩
 | false=>
  by_cases h1:n=0
  ·subst h1
   have HX:Hid (R=true):=AA (by rw [←hR];rfl)
   clear hR
   go_enter func94,ntmps94
   go_wp2_with fail
   go_ret
   exact⟨rfl,by rw [HX.out];rfl⟩
  ·have a1:((n:Int)==0)=false:=by rw [beq_eq_false_iff_ne];omega
   have a2:(n==0)=false:=by rw [beq_eq_false_iff_ne];exact h1
   have HX:Hid (R=false):=AA (by rw [←hR,decide_eq_false h1];rfl)
   clear hR
   go_enter func94,ntmps94
   go_wp2_with fail
   go_ret
   exact⟨rfl,by rw [HX.out];first | rfl | simp [h1]⟩
theorem rQ (h:Bool) (bs bh n c:Nat) (A:Option Addr) (w:World) (hh:w.cell? ⟨bh,0,none⟩=some (.bool h)) (hs:w.cell? ⟨bs,5,none⟩=some (.slice A n c)):
 Calls prog 95 #[.pointer (some ⟨bs,0,none⟩),.pointer (some ⟨bh,0,none⟩)] w fun e w'=>w=w'∧e= .returned (.bool (decide (n=0)||h&&decide (n≤8))):=by
 obtain⟨R,hR⟩: ∃R,(decide (n=0)||h&&decide (n≤8))=R:=⟨_,rfl⟩
 rw [hR]
 by_cases h1:n=0
 ·subst h1
  have HX:Hid (R=true):=AA (by rw [←hR];rfl)
  clear hR
  go_enter func95,ntmps95
  go_wp2_with fail
  go_ret
  exact⟨rfl,by rw [HX.out];rfl⟩
 have a1:((n:Int)==0)=false:=by rw [beq_eq_false_iff_ne];omega
 have a2:(n==0)=false:=by rw [beq_eq_false_iff_ne];exact h1
 cases h with
 | false=>
  have HX:Hid (R=false):=AA (by rw [←hR,decide_eq_false h1];rfl)
  clear hR
  go_enter func95,ntmps95
  go_wp2_with fail
  go_ret
  exact⟨rfl,by rw [HX.out];rfl⟩
 | true=>
  by_cases h2:n≤8
  ·have b1:decide ((n:Int)≤8)=true:=decide_eq_true (by omega)
   have b2:decide (n≤8)=true:=decide_eq_true h2
   have HX:Hid (R=true):=AA (by rw [←hR,decide_eq_false h1,decide_eq_true h2];rfl)
   clear hR h2
   go_enter func95,ntmps95
   go_wp2_with fail
   go_ret
   exact⟨rfl,by rw [HX.out];rfl⟩
  ·have b1:decide ((n:Int)≤8)=false:=decide_eq_false (by omega)
   have b2:decide (n≤8)=false:=decide_eq_false h2
   have HX:Hid (R=false):=AA (by rw [←hR,decide_eq_false h1,decide_eq_false h2];rfl)
   clear hR h2
   go_enter func95,ntmps95
   go_wp2_with fail
   go_ret
   exact⟨rfl,by rw [HX.out];rfl⟩
theorem rR (t:Bool) (bt bs:Nat) (x:Int) (w:World) (ht:w.cell? ⟨bt,0,none⟩=some (.bool t)) (hs:w.cell? ⟨bs,6,none⟩=some (.int .i8 x)):
 Calls prog 96 #[.pointer (some ⟨bt,0,none⟩),.pointer (some ⟨bs,0,none⟩)] w fun e w'=>w=w'∧e= .returned (.bool (t&&decide (1≤x∧x≤6)|| !t&&decide (x=0))):=by
 obtain⟨R,hR⟩: ∃R,(t&&decide (1≤x∧x≤6)|| !t&&decide (x=0))=R:=⟨_,rfl⟩
 rw [hR]
 cases t with
 | true=>
  by_cases h1:1≤x
  ·by_cases h2:x≤6
   ·have a1:decide ((1:Int)≤x)=true:=decide_eq_true h1
    have b1:decide (x≤6)=true:=decide_eq_true h2
    have HX:Hid (R=true):=AA (by rw [←hR];rw [decide_eq_true ⟨h1,h2⟩];rfl)
    clear hR
    go_enter func96,ntmps96
    go_wp2_with fail
    go_ret
    exact⟨rfl,by rw [HX.out];first | rfl | simp [*]⟩
   ·have a1:decide ((1:Int)≤x)=true:=decide_eq_true h1
    have b1:decide (x≤6)=false:=decide_eq_false h2
    have HX:Hid (R=false):=AA (by rw [←hR];rw [decide_eq_false (by omega)];rfl)
    clear hR
    go_enter func96,ntmps96
    go_wp2_with fail
    go_ret
    exact⟨rfl,by rw [HX.out];first | rfl | simp [*]⟩
  ·have a1:decide ((1:Int)≤x)=false:=decide_eq_false h1
   have HX:Hid (R=false):=AA (by rw [←hR];rw [decide_eq_false (by omega)];rfl)
   clear hR
   go_enter func96,ntmps96
   go_wp2_with fail
   go_ret
   exact⟨rfl,by rw [HX.out];first | rfl | simp [*]⟩
 | false=>
  by_cases h1:x=0
  ·subst h1
   have HX:Hid (R=true):=AA (by rw [←hR];rfl)
   clear hR
   go_enter func96,ntmps96
   go_wp2_with fail
   go_ret
   exact⟨rfl,by rw [HX.out];first | rfl | simp [*]⟩
  ·have a1:(x==0)=false:=by rw [beq_eq_false_iff_ne];exact h1
   have HX:Hid (R=false):=AA (by rw [←hR];rw [decide_eq_false h1];rfl)
   clear hR
   go_enter func96,ntmps96
   go_wp2_with fail
   go_ret
   exact⟨rfl,by rw [HX.out];first | rfl | simp [*]⟩
theorem rT (bs:Nat) (x:Int) (w:World) (hs:w.cell? ⟨bs,7,none⟩=some (.int .i64 x)):
 Calls prog 97 #[.pointer (some ⟨bs,0,none⟩)] w fun e w'=>w=w'∧e= .returned (.bool (decide (0≤x∧x≤4611686018427387904))):=by
 obtain⟨R,hR⟩: ∃R,decide (0≤x∧x≤4611686018427387904)=R:=⟨_,rfl⟩
 rw [hR]
 by_cases h1:0≤x
 ·have a1:decide (0≤x)=true:=decide_eq_true h1
  by_cases h2:x≤4611686018427387904
  ·have b1:decide (x≤4611686018427387904)=true:=decide_eq_true h2
   have HX:Hid (R=true):=AA (by rw [←hR];exact decide_eq_true ⟨h1,h2⟩)
   clear hR h1 h2
   go_enter func97,ntmps97
   go_wp2_with fail
   go_ret
   exact⟨rfl,by rw [HX.out];rfl⟩
  ·have b1:decide (x≤4611686018427387904)=false:=decide_eq_false h2
   have HX:Hid (R=false):=AA (by rw [←hR];exact decide_eq_false (by omega))
   clear hR h1 h2
   go_enter func97,ntmps97
   go_wp2_with fail
   go_ret
   exact⟨rfl,by rw [HX.out];rfl⟩
 ·have a1:decide (0≤x)=false:=decide_eq_false h1
  have HX:Hid (R=false):=AA (by rw [←hR];exact decide_eq_false (by omega))
  clear hR h1
  go_enter func97,ntmps97
  go_wp2_with fail
  go_ret
  exact⟨rfl,by rw [HX.out];rfl⟩
theorem rU (bs:Nat) (x:Int) (w:World) (hs:w.cell? ⟨bs,3,none⟩=some (.int .i64 x)):
 Calls prog 98 #[.pointer (some ⟨bs,0,none⟩)] w fun e w'=>w=w'∧e= .returned (.bool (decide (0≤x))):=by
 go_enter func98,ntmps98
 go_wp2_with fail
 go_ret
 exact⟨rfl,rfl⟩
end Go.Proofs.YtlagonfamllgjaaGreatDoor
