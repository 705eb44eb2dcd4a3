/- Part 34 of the proof: R14D R14E RefG RefH -/
import Derived.Test.YtlagonfamllgjaaGreatDoorR33
namespace Go.Proofs.YtlagonfamllgjaaGreatDoor
set_option linter.unusedVariables false
set_option linter.unusedSimpArgs false
set_option maxRecDepth 100000
set_option maxHeartbeats 4000000
open Go.RowKit Tryz
def Vz (m:AP) (t:List D5) (f:Js) (nx:Option Nat):Bool:=match nx with
 | none=>EN f.st (IQ t f.f f.pc).data.toList
 | some g=>PX m f (g:Int)&&EN f.st ((IQ t f.f f.pc).extract 0 ((IQ t f.f f.pc).size-(CG m (Qy m (g:Int)).t).p.size)).data.toList
def KQ (m:AP) (t:List D5) (f:Js) (nx:Option Nat):Bool:=Ta m f&&Vz m t f nx
def nxI (nx:Option Nat):Int:=match nx with
 | none=> -1
 | some g=>(g:Int)
theorem rC {A:Option Addr} {n c B:Nat} {s:ByteArray} {w:World} {vs:List Nat} (hn:n=vs.length) (h47:s.size≤140737488351232) (hn47:n≤140737488351232) (hr:Row w B A (vs.map uv)) (a k:Nat):
 Calls prog 104 #[.slice A n c,.string s] (w.drewN (a+k)) fun e w''=>e= .returned (.bool (EN vs s.data.toList))∧ ∃m,w''=w.drewN (a+m):=by
 refine(Rs A n c B s (w.drewN (a+k)) vs hn h47 hn47 (hr.drewN _)).mono ?_
 rintro e w' ⟨⟨q,rfl⟩,rfl⟩
 exact⟨rfl,k+q,by rw [World.drewN_drewN,Nat.add_assoc]⟩
theorem fV (cs fs:List Value) (At:Option Addr) (ct hi:Nat) (m:AP) (t:List D5) (f:Js) (nx:Option Nat) (w:World) (hm:Db.R w 0 hi cs m) (htab:(NU.sl false).R w 0 hi [.slice At t.length ct] t) (hf:UR.R w 0 hi fs f) (hhi:hi≤w.heap.size) (hv:FE m= .inr t)
 (hnx: ∀g,nx=some g→g<9223372036854775808) (hl1:f.loc.length≤140737488351232) (hl2:f.st.length≤140737488351232):
 Calls prog 72 #[.agg cs.toArray,.slice At t.length ct,.agg fs.toArray,.int .i64 (nxI nx)] w fun e w'=>Below w.heap.size w w'∧e= .returned (.bool (KQ m t f nx)):=by
 obtain⟨nv,yX⟩: ∃nv,nxI nx=nv:=⟨_,rfl⟩
 rw [yX]
 have HNV:=AA yX
 clear yX
 obtain⟨hmo,htl,htb⟩:=J9 hv
 have HM:=AA hm;have Wx:=AA hmo;have GD:=AA htb;have HTL:=AA htl;have CJ:=AA hhi;have rD:=AA htab;have Ey:=AA hnx
 have hnf:=hmo.nf
 obtain⟨v1,v2,v3,v4,v5,v6,rfl,h0,_,_,_,_,h5,_⟩:=Av.1 hm
 obtain⟨A0,c0,rfl⟩:=AJ h0
 obtain⟨A5,c5,rfl⟩:=AJ h5
 obtain⟨ul,us,rfl,ff,fp,hul,hus⟩:=Ic.1 hf
 obtain⟨Al,cl,rfl⟩:=AJ hul
 obtain⟨As,cS,rfl⟩:=AJ hus
 have H0:=AA h0;have H5:=AA h5
 have HLR:=AA (Rd.Gj hul).2;have M7:=AA (Rd.Gj hus).2
 unfold Rd.Gd at ff fp
 clear hmo htl htb hm htab hf hv hnx h0 h5 hul hus
 obtain⟨R,hR⟩: ∃R,KQ m t f nx=R:=⟨_,rfl⟩
 rw [hR]
 have HR:=AA hR
 clear hR
 go_enter func72,ntmps72
 go_upto_region 1 with fail
 generalize hw1:w.alloc (.cells #[.slice A0 m.types.length c0,v2,v3,.int .i64 m.first,.int .i64 m.most,.slice A5 m.fns.length c5,v5,v6] 29)=w1
 obtain⟨hb1,hx1⟩:=Pp hw1
 have hz1:w1.heap.size=w.heap.size+1:=by rw [←hw1];simp
 clear hw1
 generalize hw2:w1.alloc (.cells #[.int .i64 f.f,.int .i64 f.pc,.slice Al f.loc.length cl,.slice As f.st.length cS] 91)=w2
 have hb2:Below w1.heap.size w1 w2:=by rw [←hw2];exact(Below.refl _ _).alloc (Nat.le_refl _) _
 have Jo:Hid (AQ w2 (w.heap.size+1) 91 [.int .i64 f.f,.int .i64 f.pc,.slice Al f.loc.length cl,.slice As f.st.length cS]):=AA (by rw [←hw2,←hz1];exact AQ.new w1 91 _)
 have Bq:=AA (hx1.below hb2 hx1.lt)
 have HB2:Hid (Below w.heap.size w w2):=AA (hb1.trans (hb2.mono hb1.size))
 try rw [hz1]
 clear hw2 hb1 hb2 hx1 hz1
 have r0:=Jo.out.q 0 rfl
 have r1:=Jo.out.q 1 rfl
 have r2:=Jo.out.q 2 rfl
 have q5:=Bq.out.q 5 rfl
 by_cases hin1:Eo f.f m.fns.length=true
 case neg=>
  have HX:Hid (R=false):=AA (by rw [←HR.out];unfold KQ Ta;rw [Bool.eq_false_iff.2 hin1];rfl)
  have key:decide (f.f<0)=true∨(decide (f.f<0)=false∧decide ((m.fns.length:Int)≤f.f)=true):=by
   have: ¬(0≤f.f∧f.f<m.fns.length):=fun e=>hin1 (decide_eq_true e)
   simp only [decide_eq_true_eq,decide_eq_false_iff_not];omega
  clear hin1
  rcases key with k1 | ⟨k1,k2⟩
  all_goals
   go_wp2_with fail
   go_ret
   exact⟨HB2.out,by rw [HX.out];rfl⟩
 obtain⟨k,hk,hkl⟩:=Fw hin1
 obtain⟨fn,hfn⟩: ∃fn,m.fns[k]?=some fn:=⟨_,List.getElem?_eq_getElem hkl⟩
 have dY:Qy m f.f=fn:=by rw [hk];exact Nf hfn
 obtain⟨bf,of,Jm,KP,fU,_,hbf,g0,g1,g2,_,_,hcd⟩:=FN H5.out hfn
 subst fU
 have oO:bf<w.heap.size:=Nat.lt_of_lt_of_le hbf CJ.out
 have e2:=(HB2.out.cell oO (p:=⟨bf,of+k*3+2,none⟩)).trans g2
 have ZY:=AA hfn;have HFV:=AA dY;have yY:=AA hcd;have HKK:=AA hk
 have J_:=(Wx.out.fns fn (List.mem_of_getElem? hfn)).few
 have EU:Hid (R=((Eo f.pc fn.code.length&&EN f.loc (C8 m fn).data.toList)&&Vz m t f nx)):=AA (by
  rw [←HR.out];unfold KQ Ta;rw [hin1,dY,Bool.true_and])
 rw [hk] at r0
 have hk0:(0:Int)≤k:=by omega
 have hk1:(k:Int)<m.fns.length:=by omega
 have k1:decide ((k:Int)<0)=false:=decide_eq_false (by omega)
 have k2:decide ((m.fns.length:Int)≤(k:Int))=false:=decide_eq_false (by omega)
 have k2n:decide (m.fns.length≤k)=false:=decide_eq_false (by omega)
 clear hin1 hk hfn dY hcd g0 g1 g2 hbf
 go_wp2_with fail
 by_cases hin2:Eo f.pc fn.code.length=true
 case neg=>
  have HX:Hid (R=false):=AA (by rw [EU.out,Bool.eq_false_iff.2 hin2];rfl)
  have key:decide (f.pc<0)=true∨(decide (f.pc<0)=false∧decide ((fn.code.length:Int)≤f.pc)=true):=by
   have: ¬(0≤f.pc∧f.pc<fn.code.length):=fun e=>hin2 (decide_eq_true e)
   simp only [decide_eq_true_eq,decide_eq_false_iff_not];omega
  clear hin2
  rcases key with z1 | ⟨z1,z2⟩
  all_goals
   go_quiet (fail)
   go_wp2_with fail
   go_ret
   exact⟨below_drewN HB2.out _,by rw [HX.out];rfl⟩
 obtain⟨p,hp,hpl⟩:=Fw hin2
 have yZ:=AA (EU.out.trans (by rw [hin2,Bool.true_and]))
 have Yl:=AA hp
 rw [hp] at r1
 have hp0:(0:Int)≤p:=by omega
 have hp1:(p:Int)<fn.code.length:=by omega
 have z1:decide ((p:Int)<0)=false:=decide_eq_false (by omega)
 have z2:decide ((fn.code.length:Int)≤(p:Int))=false:=decide_eq_false (by omega)
 have z2n:decide (fn.code.length≤p)=false:=decide_eq_false (by omega)
 have hlz:=X0 Wx.out ZY.out
 obtain⟨lb,hlb⟩: ∃lb,EN f.loc (C8 m fn).data.toList=lb:=⟨_,rfl⟩
 rw [hlb] at yZ
 have iU:=AA hlb
 have hzz:w.heap.size≤w2.heap.size:=HB2.out.size
 have HS:Hid (∀W,Below w2.heap.size w2 W→W.cell? ⟨w.heap.size,0,none⟩=some (.slice A0 m.types.length c0)∧W.cell? ⟨w.heap.size,1,none⟩=some v2∧W.cell? ⟨w.heap.size,2,none⟩=some v3∧W.cell? ⟨w.heap.size,3,none⟩=some (.int .i64 m.first)∧W.cell? ⟨w.heap.size,4,none⟩=some (.int .i64 m.most)∧W.cell? ⟨w.heap.size,5,none⟩=some (.slice (some ⟨bf,of,none⟩) m.fns.length c5)∧W.cell? ⟨w.heap.size,6,none⟩=some v5∧W.cell? ⟨w.heap.size,7,none⟩=some v6∧
  W.cell? ⟨w.heap.size+1,0,none⟩=some (.int .i64 k)∧W.cell? ⟨w.heap.size+1,1,none⟩=some (.int .i64 p)∧W.cell? ⟨w.heap.size+1,2,none⟩=some (.slice Al f.loc.length cl)∧Below w2.heap.size w2 W):=AA (fun W hW=>by
  have x1:=Bq.out.below hW Bq.out.lt
  have x2:=Jo.out.below hW Jo.out.lt
  exact⟨x1.cell 0,x1.cell 1,x1.cell 2,x1.cell 3,x1.cell 4,x1.cell 5,x1.cell 6,x1.cell 7,(x2.cell 0).trans (by rw [←HKK.out];rfl),(x2.cell 1).trans (by rw [←Yl.out];rfl),x2.cell 2,hW⟩)
 have HLC:Hid (∀W,Below w2.heap.size w2 W→Calls prog 105 #[.agg #[.slice A0 m.types.length c0,v2,v3,.int .i64 m.first,.int .i64 m.most,.slice (some ⟨bf,of,none⟩) m.fns.length c5,v5,v6],.int .i64 k] W fun e w'=>Below W.heap.size W w'∧e= .returned (.string (C8 m fn))):=AA (fun W hW=>ZX _ hi m k fn W (Rd.below HM.out (HB2.out.trans (hW.mono hzz)) CJ.out) (Nat.le_trans CJ.out (HB2.out.trans (hW.mono hzz)).size) Wx.out ZY.out)
 have HLI:Hid (∀W,Below w2.heap.size w2 W→Calls prog 104 #[.slice Al f.loc.length cl,.string (C8 m fn)] W fun e w'=>(∃q,w'=W.drewN q)∧e= .returned (.bool lb)):=AA (fun W hW=>iU.out▸Rs Al f.loc.length cl hi (C8 m fn) W f.loc rfl (by omega) hl1 (HLR.out.below' (HB2.out.trans (hW.mono hzz)) CJ.out))
 clear hin2 hp hlb r0 r1 r2 q5 e2
 go_region_held3 (fun W=>W.cell? ⟨w.heap.size,0,none⟩=some (.slice A0 m.types.length c0)∧W.cell? ⟨w.heap.size,1,none⟩=some v2∧W.cell? ⟨w.heap.size,2,none⟩=some v3∧W.cell? ⟨w.heap.size,3,none⟩=some (.int .i64 m.first)∧W.cell? ⟨w.heap.size,4,none⟩=some (.int .i64 m.most)∧W.cell? ⟨w.heap.size,5,none⟩=some (.slice (some ⟨bf,of,none⟩) m.fns.length c5)∧W.cell? ⟨w.heap.size,6,none⟩=some v5∧W.cell? ⟨w.heap.size,7,none⟩=some v6∧W.cell? ⟨w.heap.size+1,0,none⟩=some (.int .i64 k)∧W.cell? ⟨w.heap.size+1,1,none⟩=some (.int .i64 p)∧W.cell? ⟨w.heap.size+1,2,none⟩=some (.slice Al f.loc.length cl)∧Below w2.heap.size w2 W)
  (first | exact HS.out _ (Below.refl _ _) | exact HS.out _ (Below.refl _ _).drew | exact HS.out _ S1 | exact HS.out _ S2)
  (first
  | (go_at_call 105;refine(HLC.out _ (Below.refl _ _).drew).mono ?_;rintro e W1 ⟨hb,rfl⟩;have S1:=CV hb;clear hb)
  | (go_at_call 104;refine(HLI.out _ S1).mono ?_;rintro e w' ⟨⟨kk,rfl⟩,rfl⟩;have S2:=below_drewN S1 kk))
 have hbe:=S2
 have HB3:=AA hbe
 have X4:Hid (Below w.heap.size w (W1.drewN kk)):=AA (HB2.out.trans (hbe.mono hzz))
 clear hbe
 generalize W1.drewN kk=w3 at*
 cases lb with
 | false=>
  have HX:Hid (R=false):=AA (by rw [yZ.out];rfl)
  go_wp2_with fail
  go_ret
  exact⟨X4.out,by rw [HX.out];rfl⟩
 | true=>
 have ACT:Hid (R=Vz m t f nx):=AA (by rw [yZ.out,Bool.true_and])
 obtain⟨tb,htk,SK⟩:=GD.out k fn ZY.out
 have yc:=AA SK
 obtain⟨sh,hsh⟩: ∃sh,tb.shapes[p]?=some sh:=⟨_,List.getElem?_eq_getElem (by rw [SK.n];omega)⟩
 have hshz:=SK.low sh (List.mem_of_getElem? hsh)
 obtain⟨bt,ot,A_s,c_s,_,_,_,_,_,_,eT,_,hbt,t0,_,_,_,_,hss,_⟩:=aR rD.out htk
 subst eT
 obtain⟨bs,os,eS,_,hbs,cs',hc',hr'⟩:=Dj hss hsh
 subst eS
 obtain⟨rfl,_⟩:=hr'
 have y0:=(X4.out.cell (Nat.lt_of_lt_of_le hbt CJ.out) (p:=⟨bt,ot+k*5,none⟩)).trans t0
 have y1:w3.cell? ⟨bs,os+p,none⟩=some (.string sh):=(X4.out.cell (Nat.lt_of_lt_of_le hbs CJ.out) (p:=⟨bs,os+p,none⟩)).trans (by have:=hc' 0 _ rfl;simpa [Rd.str,Rd.one] using this)
 have HSV:Hid (IQ t f.f f.pc=sh):=AA (by unfold IQ;rw [HKK.out,Yl.out];simp only [Int.toNat_natCast,htk,Option.map_some,Option.getD_some,hsh])
 have HSH:=AA hsh
 obtain⟨s0,s1,s2,s3,s4,s5,s6,s7,s8,s9,s10,_⟩:=HS.out w3 HB3.out
 have kt1:(k:Int)<t.length:=by rw [HTL.out];exact hk1
 have kt2:(p:Int)<tb.shapes.length:=by rw [SK.n];exact hp1
 clear htk SK hsh t0 hss hc' hbt hbs s1 s2 s3 s4 s6 s7
 go_wp2_with fail
 go_quiet (fail)
 generalize hw4:w3.drewN _=w4
 have Ct:Hid (Below w2.heap.size w2 w4):=AA (by rw [←hw4];exact below_drewN HB3.out _)
 have Jp:Hid (Below w.heap.size w w4):=AA (by rw [←hw4];exact below_drewN X4.out _)
 clear hw4 y0 y1 s0 s5 s8 s9 s10 kt1 kt2
 obtain⟨s0,s1,s2,s3,s4,s5,s6,s7,s8,s9,s10,_⟩:=HS.out w4 Ct.out
 have s11:=(Jo.out.below Ct.out Jo.out.lt).q 3 rfl
 clear s1 s2 s3 s4 s6 s7 s10
 cases hnx:nx with
 | none=>
  have yX:nv= -1:=by rw [←HNV.out,hnx];rfl
  have HX:Hid (R=EN f.st sh.data.toList):=AA (by rw [ACT.out,hnx];unfold Vz;rw [HSV.out])
  subst yX
  clear hnx
  go_wp2_with fail
  refine(Rs As f.st.length cS hi sh w4 f.st rfl (by omega) hl2 (M7.out.below' Jp.out CJ.out)).mono ?_
  rintro e w5 ⟨⟨q,rfl⟩,rfl⟩
  go_wp2_with fail
  go_ret
  exact⟨below_drewN Jp.out _,by rw [HX.out];rfl⟩
 | some g=>
  have yX:nv=(g:Int):=by rw [←HNV.out,hnx];rfl
  have hg63:=Ey.out g hnx
  obtain⟨z,hz⟩: ∃z,fn.code[p]?=some z:=⟨_,List.getElem?_eq_getElem hpl⟩
  have HX0:Hid (R=(PX m f (g:Int)&&EN f.st (sh.extract 0 (sh.size-(CG m (Qy m (g:Int)).t).p.size)).data.toList)):=AA (by rw [ACT.out,hnx];unfold Vz;rw [HSV.out])
  have yg:Hid (dV (Qy m f.f) f.pc=z):=AA (by unfold dV;rw [HFV.out,Yl.out,Int.toNat_natCast,hz];rfl)
  obtain⟨bc,oc,A_z,c_z,eC,_,hbc,i0,i1,i2,_,_⟩:=EP yY.out hz
  subst eC
  have yh:bc<w.heap.size:=Nat.lt_of_lt_of_le hbc CJ.out
  have y0:=(Jp.out.cell yh (p:=⟨bc,oc+p*3,none⟩)).trans i0
  have y1:=(Jp.out.cell yh (p:=⟨bc,oc+p*3+1,none⟩)).trans i1
  have y2:=(Jp.out.cell yh (p:=⟨bc,oc+p*3+2,none⟩)).trans i2
  have HZZ:=AA hz
  subst yX
  have n0:decide ((g:Int)<0)=false:=decide_eq_false (by omega)
  clear hnx hz i0 i1 i2 hbc
  go_upto_region 10 with fail
  generalize Pn:w4.alloc (.cells #[.int .u8 (z.op.toNat:Int),.int .i64 z.a,.slice A_z z.l.length c_z] 122)=w5
  obtain⟨hb5,d0,d1,_,_⟩:=kW Pn
  have Dv:Hid (Below w2.heap.size w2 w5):=AA (Ct.out.trans (hb5.mono Ct.out.size))
  have Za:Hid (Below w.heap.size w w5):=AA (Jp.out.trans (hb5.mono Jp.out.size))
  clear Pn hb5 y0 y1 y2 s0 s5 s8 s9 s11
  obtain⟨s0,s1,s2,s3,s4,s5,s6,s7,s8,s9,s10,_⟩:=HS.out w5 Dv.out
  have s11:=(Jo.out.below Dv.out Jo.out.lt).q 3 rfl
  clear s1 s2 s3 s4 s6 s7 s10
  by_cases h11:z.op.toNat=11
  case neg=>
   have n1:((z.op.toNat:Int) !=11)=true:=by rw [bne_iff_ne];omega
   have HX:Hid (R=false):=AA (by rw [HX0.out];unfold PX;rw [yg.out,decide_eq_false h11];simp)
   clear h11
   go_wp2_with fail
   go_ret
   exact⟨Za.out,by rw [HX.out];rfl⟩
  have n1:((z.op.toNat:Int) !=11)=false:=by rw [bne_eq_false_iff_eq];omega
  by_cases ha:z.a=(g:Int)
  case neg=>
   have n2:(z.a !=(g:Int))=true:=by rw [bne_iff_ne];exact ha
   have HX:Hid (R=false):=AA (by rw [HX0.out];unfold PX;rw [yg.out,decide_eq_false ha];simp)
   clear h11 ha
   go_wp2_with fail
   go_ret
   exact⟨Za.out,by rw [HX.out];rfl⟩
  have n2:(z.a !=(g:Int))=false:=by rw [bne_eq_false_iff_eq];exact ha
  by_cases hgl:g<m.fns.length
  case neg=>
   have n3:decide ((m.fns.length:Int)≤(g:Int))=true:=decide_eq_true (by omega)
   have n3n:decide (m.fns.length≤g)=true:=decide_eq_true (by omega)
   have HX:Hid (R=false):=AA (by
    rw [HX0.out];unfold PX
    rw [show Eo (g:Int) m.fns.length=false from decide_eq_false (by omega)];rfl)
   clear h11 ha hgl
   go_wp2_with fail
   go_ret
   exact⟨Za.out,by rw [HX.out];rfl⟩
  have n3:decide ((m.fns.length:Int)≤(g:Int))=false:=decide_eq_false (by omega)
  have n3n:decide (m.fns.length≤g)=false:=decide_eq_false (by omega)
  obtain⟨f2,hf2⟩: ∃f2,m.fns[g]?=some f2:=⟨_,List.getElem?_eq_getElem hgl⟩
  have Zb:=Wx.out.fns f2 (List.mem_of_getElem? hf2)
  obtain⟨t2,ht2⟩: ∃t2:Nat,f2.t=(t2:Int):=⟨f2.t.toNat,by have:=Zb.t0;omega⟩
  obtain⟨ty,hty⟩: ∃ty,m.types[t2]?=some ty:=⟨_,List.getElem?_eq_getElem (by have:=Zb.t1;omega)⟩
  have ACV:=(List.getElem?_eq_some_iff.1 hty).1
  have JN:(CG m (Qy m (g:Int)).t)=ty:=by rw [Nf hf2,ht2];exact FI hty
  obtain⟨bg,og,A_g,c_g,eG,_,hbg,j0,_⟩:=FN H5.out hf2
  injection eG with eG;injection eG with eG1 eG2 _
  subst eG1 eG2
  obtain⟨bq,oq,eQ,_,hbq,j1,_⟩:=DN H0.out hty
  subst eQ
  rw [ht2] at j0
  have y0:=(Za.out.cell oO (p:=⟨bf,of+g*3,none⟩)).trans j0
  have y1:=(Za.out.cell (Nat.lt_of_lt_of_le hbq CJ.out) (p:=⟨bq,oq+t2*2,none⟩)).trans j1
  have hcall:=yc.out.call p z sh HZZ.out HSH.out h11
  rw [ha,JN] at hcall
  have HX:Hid (R=EN f.st (sh.extract 0 (sh.size-ty.p.size)).data.toList):=AA (by
   rw [HX0.out,JN];unfold PX
   rw [yg.out,show Eo (g:Int) m.fns.length=true from decide_eq_true (by omega),decide_eq_true h11,decide_eq_true ha];rfl)
  obtain⟨cut,hcut⟩: ∃cut,sh.extract 0 (sh.size-ty.p.size)=cut:=⟨_,rfl⟩
  rw [hcut] at HX
  have hsl: ∀W,(Instr.slice 9 (.string sh) none (some (.int .i64 ((sh.size:Int)-ty.p.size))) none).run prog W= .ok (.string cut) W:=fun W=>by
   rw [run_slice_string_to_if (P:=prog) W 9 sh .i64 _ underlying9,if_pos (by omega),show((sh.size:Int)-ty.p.size).toNat=sh.size-ty.p.size from by omega,hcut]
  have hcz:cut.size≤256:=by rw [←hcut,ByteArray.size_extract];omega
  have t20:(0:Int)≤t2:=by omega
  have t21:(t2:Int)<m.types.length:=by omega
  have g0':(0:Int)≤g:=by omega
  have g1':(g:Int)<m.fns.length:=by omega
  have HLQ:Hid (∀a k,Calls prog 104 #[.slice As f.st.length cS,.string cut] (w5.drewN (a+k)) fun e w''=>e= .returned (.bool (EN f.st cut.data.toList))∧ ∃m,w''=w5.drewN (a+m)):=AA (fun a k=>rC rfl (by omega) hl2 (M7.out.below' Za.out CJ.out) a k)
  have hws:IntKind.i64.wrap ((sh.size:Int)-(ty.p.size:Int))=(sh.size:Int)-(ty.p.size:Int):=IntWalk.i64_in _ (by omega)
  clear h11 ha hgl hf2 Zb ht2 hty JN j0 j1 hbg hbq hcut
  go_wp2_with fail
  go_quiet (fail)
  go_wp2_with fail
  go_quiet ((go_at_call 104;exact HLQ.out _ _))
  go_wp2_with fail
  go_ret
  exact⟨below_drewN (below_drewN Za.out _) _,by rw [HX.out];rfl⟩
theorem Ut {m:AP} {t:List D5} {s:FU} {k:Nat} {f:Js} (hf:s.frames[k]?=some f) (hn:s.frames[k+1]?=none):J6 m t s k=KQ m t f none:=by
 unfold J6 KQ Vz;simp only [hf,hn]
theorem bG {m:AP} {t:List D5} {s:FU} {k n:Nat} {f g:Js} (hf:s.frames[k]?=some f) (hn:s.frames[k+1]?=some g) (h:g.f=(n:Int)):J6 m t s k=KQ m t f (some n):=by
 unfold J6 KQ Vz;simp only [hf,hn,h]
theorem X5 {m:AP} {t:List D5} {s:FU} {k:Nat} {f g:Js} (hf:s.frames[k]?=some f) (hn:s.frames[k+1]?=some g) (h:g.f<0):J6 m t s k=false:=by
 unfold J6;simp only [hf,hn];unfold PX
 rw [show Eo g.f m.fns.length=false from decide_eq_false (by omega)];simp
theorem yj {m:AP} {t:List D5} {s:FU} (h:Aa 4 (Br m s)≠0):Ik m t s=Aa 4 (Br m s):=by
 unfold Ik;rw [SB,Bn (by rw [Bn h];exact h),Bn h]
theorem yt {m:AP} {t:List D5} {s:FU} (h:Aa 4 (Br m s)=0) (h2:Ez m s≠0):Ik m t s=Ez m s:=by
 unfold Ik;rw [SB,AX h,Bn h2]
theorem rF (cs ds:List Value) (At:Option Addr) (ct hi:Nat) (m:AP) (t:List D5) (s:FU) (w:World) (hm:Db.R w 0 hi cs m) (htab:(NU.sl false).R w 0 hi [.slice At t.length ct] t) (hs:K8.R w 0 hi ds s) (hhi:hi≤w.heap.size) (hv:FE m= .inr t) (hin:Vd s):
 Calls prog 36 #[.agg cs.toArray,.slice At t.length ct,.agg ds.toArray] w fun e w'=>Below w.heap.size w w'∧e= .returned (.int .i64 (Ik m t s)):=by
 have HM:=AA hm;have rD:=AA htab;have HST:=AA hs;have CJ:=AA hhi;have HV:=AA hv;have EU:=AA hin
 have Wx:=AA (J9 hv).1
 obtain⟨v1,v2,v3,v4,v5,v6,rfl,_⟩:=Av.1 hm
 obtain⟨u0,u1,u2,u5,rfl,s0,_⟩:=DR.1 hs
 obtain⟨B0,d0,rfl⟩:=AJ s0
 have S0:=AA s0
 clear hm htab hs hhi hv s0 hin
 go_enter func36,ntmps36
 go_upto_region 1 with fail
 generalize hw0:w.alloc (.cells #[v1,v2,v3,.int .i64 m.first,.int .i64 m.most,v4,v5,v6] 29)=w0
 obtain⟨hb0,hx0⟩:=Pp hw0
 have hz0:w0.heap.size=w.heap.size+1:=by rw [←hw0];simp
 clear hw0
 generalize hw1:w0.alloc (.cells #[.slice B0 s.frames.length d0,u1,u2,.int .i64 s.CU,.int .i8 s.end_,u5,.int .i8 s.trap,.int .i64 s.used] 35)=w1
 obtain⟨hb1,hx1⟩:=qA hw1
 rw [hz0] at hx1
 try rw [hz0]
 have Fz:=AA (hx0.below hb1 hx0.lt)
 have JM:=AA hx1
 have HB1:Hid (Below w.heap.size w w1):=AA (hb0.trans (hb1.mono hb0.size))
 clear hw1 hb0 hb1 hx0 hx1 hz0
 have wL:Hid (Calls prog 70 #[.agg #[.slice B0 s.frames.length d0,u1,u2,.int .i64 s.CU,.int .i8 s.end_,u5,.int .i8 s.trap,.int .i64 s.used]] w1 fun e w'=>Below w1.heap.size w1 w'∧e= .returned (.int .i64 (Aa 4 (Br m s)))):=AA (dh _ hi m s w1 (Rd.below HST.out HB1.out CJ.out))
 have wM:Hid (∀W,Below w1.heap.size w1 W→Calls prog 71 #[.agg #[v1,v2,v3,.int .i64 m.first,.int .i64 m.most,v4,v5,v6],.agg #[.slice B0 s.frames.length d0,u1,u2,.int .i64 s.CU,.int .i8 s.end_,u5,.int .i8 s.trap,.int .i64 s.used]] W fun e w'=>Below W.heap.size W w'∧e= .returned (.int .i64 (Ez m s))):=AA (fun W hW=>by
  have hB:=HB1.out.trans (hW.mono HB1.out.size)
  exact kK _ _ hi m s W (Rd.below HM.out hB CJ.out) (Rd.below HST.out hB CJ.out) (Nat.le_trans CJ.out hB.size) Wx.out.ng Wx.out.f2)
 have q0:=JM.out.q 0 rfl
 have q1:=JM.out.q 1 rfl
 have q2:=JM.out.q 2 rfl
 have q3:=JM.out.q 3 rfl
 have q4:=JM.out.q 4 rfl
 have q5:=JM.out.q 5 rfl
 have q6:=JM.out.q 6 rfl
 have q7:=JM.out.q 7 rfl
 go_wp2_with fail
 refine wL.out.mono ?_
 rintro e w2 ⟨hb2,rfl⟩
 have HB2:=AA hb2
 have Fa:Hid (Below w.heap.size w w2):=AA (HB1.out.trans (hb2.mono HB1.out.size))
 clear hb2 q0 q1 q2 q3 q4 q5 q6 q7
 obtain⟨E4,hE4⟩: ∃x,Aa 4 (Br m s)=x:=⟨_,rfl⟩
 rw [hE4]
 by_cases jv:E4=0
 case neg=>
  have n1:(E4 !=0)=true:=by rw [bne_iff_ne];exact jv
  have HX:Hid (Ik m t s=E4):=AA (by rw [yj (by rw [hE4];exact jv),hE4])
  clear jv hE4
  go_wp2_with fail
  go_ret
  exact⟨Fa.out,by rw [HX.out];rfl⟩
 subst jv
 have kX:=AA hE4
 clear hE4
 have rG:=Fz.out.below HB2.out Fz.out.lt
 have rH:=JM.out.below HB2.out JM.out.lt
 have q0:=rH.q 0 rfl
 have q1:=rH.q 1 rfl
 have q2:=rH.q 2 rfl
 have q3:=rH.q 3 rfl
 have q4:=rH.q 4 rfl
 have q5:=rH.q 5 rfl
 have q6:=rH.q 6 rfl
 have q7:=rH.q 7 rfl
 have p0:=rG.q 0 rfl
 have p1:=rG.q 1 rfl
 have p2:=rG.q 2 rfl
 have p3:=rG.q 3 rfl
 have p4:=rG.q 4 rfl
 have p5:=rG.q 5 rfl
 have p6:=rG.q 6 rfl
 have p7:=rG.q 7 rfl
 clear rG rH
 go_wp2_with fail
 refine(wM.out w2 HB2.out).mono ?_
 rintro e w3 ⟨hb3,rfl⟩
 have X4:Hid (Below w.heap.size w w3):=AA (Fa.out.trans (hb3.mono Fa.out.size))
 have Zc:=HB2.out.trans (hb3.mono HB2.out.size)
 have Ur:=AA (Fz.out.below Zc Fz.out.lt)
 have LU:=AA (JM.out.below Zc JM.out.lt)
 clear hb3 Zc HB2 Fa Fz JM wM wL q0 q1 q2 q3 q4 q5 q6 q7 p0 p1 p2 p3 p4 p5 p6 p7
 obtain⟨L4,hL4⟩: ∃x,Ez m s=x:=⟨_,rfl⟩
 rw [hL4]
 by_cases hl4:L4=0
 case neg=>
  have n1:(L4 !=0)=true:=by rw [bne_iff_ne];exact hl4
  have HX:Hid (Ik m t s=L4):=AA (by rw [yt kX.out (by rw [hL4];exact hl4),hL4])
  clear hl4 hL4
  go_wp2_with fail
  go_ret
  exact⟨X4.out,by rw [HX.out];rfl⟩
 subst hl4
 have H8:Hid (Aa 8 (Br m s)=0):=AA (by rw [SB,kX.out,hL4];rfl)
 clear hL4
 have hfl:=EU.out.aj
 go_wp2_with fail
 go_loopw [9,10] (fun i _ wr=> ∃k:Nat,k≤s.frames.length∧i= .int .i64 k∧Aa k (Lm m t s)=0∧Below w3.heap.size w3 wr) (fun i _ _=>s.frames.length-(intOf i).toNat)
 case atStart=>exact⟨0,Nat.zero_le _,rfl,rfl,Below.refl _ _⟩
 case round=>
  obtain⟨k,hk,rfl,hf0,hbr⟩:=hrel
  have RD:=AA hf0;have Io:=AA hbr
  have Ec:Hid (Below w.heap.size w wr):=AA (X4.out.trans (hbr.mono X4.out.size))
  have HZM:=AA (Ur.out.below hbr Ur.out.lt)
  have HZS:=AA (LU.out.below hbr LU.out.lt)
  have q0:=HZS.out.q 0 rfl
  clear hf0 hbr
  by_cases hlt:k<s.frames.length
  ·obtain⟨f,hf⟩: ∃f,s.frames[k]?=some f:=⟨_,List.getElem?_eq_getElem hlt⟩
   obtain⟨bf,of,eA,_,hbb,cs',hc',hr'⟩:=Dj S0.out hf
   subst eA
   have HFR:=AA hr'
   obtain⟨ul,us,rfl,_⟩:=Ic.1 hr'
   have lb:bf<w.heap.size:=Nat.lt_of_lt_of_le hbb CJ.out
   have HFI:Hid (AB1 f):=AA (EU.out.frames f (List.mem_of_getElem? hf))
   have hc0:=hc' 0 _ rfl;have hc1:=hc' 1 _ rfl;have hc2:=hc' 2 _ rfl;have hc3:=hc' 3 _ rfl
   have HS:Hid (∀W,Below wr.heap.size wr W→W.cell? ⟨w.heap.size,0,none⟩=some v1∧W.cell? ⟨w.heap.size,1,none⟩=some v2∧W.cell? ⟨w.heap.size,2,none⟩=some v3∧W.cell? ⟨w.heap.size,3,none⟩=some (.int .i64 m.first)∧W.cell? ⟨w.heap.size,4,none⟩=some (.int .i64 m.most)∧W.cell? ⟨w.heap.size,5,none⟩=some v4∧W.cell? ⟨w.heap.size,6,none⟩=some v5∧W.cell? ⟨w.heap.size,7,none⟩=some v6∧W.cell? ⟨w.heap.size+1,0,none⟩=some (.slice (some ⟨bf,of,none⟩) s.frames.length d0)∧W.cell? ⟨bf,of+k*4,none⟩=some (.int .i64 f.f)∧W.cell? ⟨bf,of+k*4+1,none⟩=some (.int .i64 f.pc)∧W.cell? ⟨bf,of+k*4+2,none⟩=some ul∧W.cell? ⟨bf,of+k*4+3,none⟩=some us∧Below wr.heap.size wr W):=AA (fun W hW=>by
    have x1:=HZM.out.below hW HZM.out.lt
    have x2:=HZS.out.below hW HZS.out.lt
    have hB:=Ec.out.trans (hW.mono Ec.out.size)
    exact⟨x1.cell 0,x1.cell 1,x1.cell 2,x1.cell 3,x1.cell 4,x1.cell 5,x1.cell 6,x1.cell 7,x2.cell 0,(hB.cell lb).trans hc0,(hB.cell lb).trans hc1,(hB.cell lb).trans hc2,(hB.cell lb).trans hc3,hW⟩)
   have wN:Hid (∀nx W,Below wr.heap.size wr W→(∀g,nx=some g→g<9223372036854775808)→Calls prog 72 #[.agg #[v1,v2,v3,.int .i64 m.first,.int .i64 m.most,v4,v5,v6],.slice At t.length ct,.agg #[.int .i64 f.f,.int .i64 f.pc,ul,us],.int .i64 (nxI nx)] W fun e w'=>Below W.heap.size W w'∧e= .returned (.bool (KQ m t f nx))):=AA (fun nx W hW hnx=>by
    have hB:=Ec.out.trans (hW.mono Ec.out.size)
    exact fV _ _ At ct hi m t f nx W (Rd.below HM.out hB CJ.out) (Rd.below rD.out hB CJ.out) (Rd.below HFR.out hB CJ.out) (Nat.le_trans CJ.out hB.size) HV.out hnx HFI.out.1 HFI.out.2)
   have hk0:(0:Int)≤k:=by omega
   have hk1:(k:Int)<s.frames.length:=by omega
   have oP:=AA hf
   clear hr' hc' hc0 hc1 hc2 hc3 hf hbb
   cases hn:s.frames[k+1]? with
   | none=>
    have hlast: ¬k+1<s.frames.length:=by have:=List.getElem?_eq_none_iff.1 hn;omega
    have n1:decide ((k:Int)+1<s.frames.length)=false:=decide_eq_false (by omega)
    have n1n:decide (k+1<s.frames.length)=false:=decide_eq_false hlast
    obtain⟨R,hR⟩: ∃R,KQ m t f none=R:=⟨_,rfl⟩
    have HC:Hid (∀W,Below wr.heap.size wr W→Calls prog 72 #[.agg #[v1,v2,v3,.int .i64 m.first,.int .i64 m.most,v4,v5,v6],.slice At t.length ct,.agg #[.int .i64 f.f,.int .i64 f.pc,ul,us],.int .i64 (-1)] W fun e w'=>Below W.heap.size W w'∧e= .returned (.bool R)):=AA (fun W hW=>hR▸wN.out none W hW (by simp))
    have Iw:Hid (J6 m t s k=R):=AA (by rw [←hR];exact(Ut oP.out hn))
    clear hR hn hlast
    cases R
    case false=>
     have HX:Hid (Ik m t s=9+(k:Int)):=AA (Q6 H8.out RD.out hlt Iw.out)
     go_wp2_with fail
     go_region_held3 (fun W=>W.cell? ⟨w.heap.size,0,none⟩=some v1∧W.cell? ⟨w.heap.size,1,none⟩=some v2∧W.cell? ⟨w.heap.size,2,none⟩=some v3∧W.cell? ⟨w.heap.size,3,none⟩=some (.int .i64 m.first)∧W.cell? ⟨w.heap.size,4,none⟩=some (.int .i64 m.most)∧W.cell? ⟨w.heap.size,5,none⟩=some v4∧W.cell? ⟨w.heap.size,6,none⟩=some v5∧W.cell? ⟨w.heap.size,7,none⟩=some v6∧W.cell? ⟨w.heap.size+1,0,none⟩=some (.slice (some ⟨bf,of,none⟩) s.frames.length d0)∧W.cell? ⟨bf,of+k*4,none⟩=some (.int .i64 f.f)∧W.cell? ⟨bf,of+k*4+1,none⟩=some (.int .i64 f.pc)∧W.cell? ⟨bf,of+k*4+2,none⟩=some ul∧W.cell? ⟨bf,of+k*4+3,none⟩=some us∧Below wr.heap.size wr W)
      (first | exact HS.out _ (Below.refl _ _) | exact HS.out _ (Below.refl _ _).drew | exact HS.out _ S1)
      (first
      | (go_at_call 72;refine(HC.out _ (Below.refl _ _).drew).mono ?_;rintro e W1 ⟨hb,rfl⟩;have S1:=CV hb;clear hb))
     go_wp2_with fail
     go_ret
     exact⟨Ec.out.trans (S1.mono Ec.out.size),by rw [HX.out];rfl⟩
    case true=>
     have HN:Hid (Aa (k+1) (Lm m t s)=0):=AA (CQ RD.out (by unfold Lm;rw [Iw.out];rfl))
     go_wp2_with fail
     go_region_held3 (fun W=>W.cell? ⟨w.heap.size,0,none⟩=some v1∧W.cell? ⟨w.heap.size,1,none⟩=some v2∧W.cell? ⟨w.heap.size,2,none⟩=some v3∧W.cell? ⟨w.heap.size,3,none⟩=some (.int .i64 m.first)∧W.cell? ⟨w.heap.size,4,none⟩=some (.int .i64 m.most)∧W.cell? ⟨w.heap.size,5,none⟩=some v4∧W.cell? ⟨w.heap.size,6,none⟩=some v5∧W.cell? ⟨w.heap.size,7,none⟩=some v6∧W.cell? ⟨w.heap.size+1,0,none⟩=some (.slice (some ⟨bf,of,none⟩) s.frames.length d0)∧W.cell? ⟨bf,of+k*4,none⟩=some (.int .i64 f.f)∧W.cell? ⟨bf,of+k*4+1,none⟩=some (.int .i64 f.pc)∧W.cell? ⟨bf,of+k*4+2,none⟩=some ul∧W.cell? ⟨bf,of+k*4+3,none⟩=some us∧Below wr.heap.size wr W)
      (first | exact HS.out _ (Below.refl _ _) | exact HS.out _ (Below.refl _ _).drew | exact HS.out _ S1)
      (first
      | (go_at_call 72;refine(HC.out _ (Below.refl _ _).drew).mono ?_;rintro e W1 ⟨hb,rfl⟩;have S1:=CV hb;clear hb))
     go_wp2_with fail
     exact⟨⟨k+1,by omega,by go_num,HN.out,Io.out.trans (S1.mono Io.out.size)⟩,by simp [intOf];omega⟩
   | some g=>
    have hnl:=(List.getElem?_eq_some_iff.1 hn).1
    have n1:decide ((k:Int)+1<s.frames.length)=true:=decide_eq_true (by omega)
    have n1n:decide (k+1<s.frames.length)=true:=decide_eq_true hnl
    obtain⟨b2,o2,_,_,_,_,eB,_,hb2,y0,_,_,_,g63,_⟩:=NM S0.out hn
    injection eB with eB;injection eB with qm qo _
    subst qm qo
    have y0':wr.cell? ⟨bf,of+(k+1)*4,none⟩=some (.int .i64 g.f):=(Ec.out.cell lb).trans y0
    have hk2:(k:Int)+1<s.frames.length:=by omega
    have HNK:=AA hn
    unfold Rd.Gd at g63
    clear y0 hb2 hn
    by_cases hg:g.f<0
    case pos=>
     have n2:decide (g.f<0)=true:=decide_eq_true hg
     have HX:Hid (Ik m t s=9+(k:Int)):=AA (Q6 H8.out RD.out hlt (X5 oP.out HNK.out hg))
     clear hg
     go_wp2_with fail
     go_ret
     exact⟨Ec.out,by rw [HX.out];rfl⟩
    obtain⟨n,hgn⟩: ∃n:Nat,g.f=(n:Int):=⟨g.f.toNat,by omega⟩
    have n2:decide (g.f<0)=false:=decide_eq_false hg
    have oQ:=AA hgn
    rw [hgn] at y0' n2 g63
    clear hgn hg
    obtain⟨R,hR⟩: ∃R,KQ m t f (some n)=R:=⟨_,rfl⟩
    have HC:Hid (∀W,Below wr.heap.size wr W→Calls prog 72 #[.agg #[v1,v2,v3,.int .i64 m.first,.int .i64 m.most,v4,v5,v6],.slice At t.length ct,.agg #[.int .i64 f.f,.int .i64 f.pc,ul,us],.int .i64 (n:Int)] W fun e w'=>Below W.heap.size W w'∧e= .returned (.bool R)):=AA (fun W hW=>hR▸wN.out (some n) W hW (fun g' e=>by injection e with e;omega))
    have Iw:Hid (J6 m t s k=R):=AA (by rw [←hR];exact(bG oP.out HNK.out oQ.out))
    clear hR
    cases R
    case false=>
     have HX:Hid (Ik m t s=9+(k:Int)):=AA (Q6 H8.out RD.out hlt Iw.out)
     go_wp2_with fail
     go_region_held3 (fun W=>W.cell? ⟨w.heap.size,0,none⟩=some v1∧W.cell? ⟨w.heap.size,1,none⟩=some v2∧W.cell? ⟨w.heap.size,2,none⟩=some v3∧W.cell? ⟨w.heap.size,3,none⟩=some (.int .i64 m.first)∧W.cell? ⟨w.heap.size,4,none⟩=some (.int .i64 m.most)∧W.cell? ⟨w.heap.size,5,none⟩=some v4∧W.cell? ⟨w.heap.size,6,none⟩=some v5∧W.cell? ⟨w.heap.size,7,none⟩=some v6∧W.cell? ⟨w.heap.size+1,0,none⟩=some (.slice (some ⟨bf,of,none⟩) s.frames.length d0)∧W.cell? ⟨bf,of+k*4,none⟩=some (.int .i64 f.f)∧W.cell? ⟨bf,of+k*4+1,none⟩=some (.int .i64 f.pc)∧W.cell? ⟨bf,of+k*4+2,none⟩=some ul∧W.cell? ⟨bf,of+k*4+3,none⟩=some us∧Below wr.heap.size wr W)
      (first | exact HS.out _ (Below.refl _ _) | exact HS.out _ (Below.refl _ _).drew | exact HS.out _ S1)
      (first
      | (go_at_call 72;refine(HC.out _ (Below.refl _ _).drew).mono ?_;rintro e W1 ⟨hb,rfl⟩;have S1:=CV hb;clear hb))
     go_wp2_with fail
     go_ret
     exact⟨Ec.out.trans (S1.mono Ec.out.size),by rw [HX.out];rfl⟩
    case true=>
     have HN:Hid (Aa (k+1) (Lm m t s)=0):=AA (CQ RD.out (by unfold Lm;rw [Iw.out];rfl))
     go_wp2_with fail
     go_region_held3 (fun W=>W.cell? ⟨w.heap.size,0,none⟩=some v1∧W.cell? ⟨w.heap.size,1,none⟩=some v2∧W.cell? ⟨w.heap.size,2,none⟩=some v3∧W.cell? ⟨w.heap.size,3,none⟩=some (.int .i64 m.first)∧W.cell? ⟨w.heap.size,4,none⟩=some (.int .i64 m.most)∧W.cell? ⟨w.heap.size,5,none⟩=some v4∧W.cell? ⟨w.heap.size,6,none⟩=some v5∧W.cell? ⟨w.heap.size,7,none⟩=some v6∧W.cell? ⟨w.heap.size+1,0,none⟩=some (.slice (some ⟨bf,of,none⟩) s.frames.length d0)∧W.cell? ⟨bf,of+k*4,none⟩=some (.int .i64 f.f)∧W.cell? ⟨bf,of+k*4+1,none⟩=some (.int .i64 f.pc)∧W.cell? ⟨bf,of+k*4+2,none⟩=some ul∧W.cell? ⟨bf,of+k*4+3,none⟩=some us∧Below wr.heap.size wr W)
      (first | exact HS.out _ (Below.refl _ _) | exact HS.out _ (Below.refl _ _).drew | exact HS.out _ S1)
      (first
      | (go_at_call 72;refine(HC.out _ (Below.refl _ _).drew).mono ?_;rintro e W1 ⟨hb,rfl⟩;have S1:=CV hb;clear hb))
     go_wp2_with fail
     exact⟨⟨k+1,by omega,by go_num,HN.out,Io.out.trans (S1.mono Io.out.size)⟩,by simp [intOf];omega⟩
  ·have HX:Hid (Ik m t s=0):=AA (by
    unfold Ik;rw [AX H8.out,show s.frames.length=k by omega,RD.out])
   have n1:decide ((k:Int)<s.frames.length)=false:=decide_eq_false (by omega)
   go_wp2_with fail
   go_ret
   exact⟨Ec.out,by rw [HX.out];rfl⟩
def WW (s ahead:ByteArray) (first:Bool):Int:=if first then 0 else Ab (!(OL s ahead)) 18
theorem gY (s ahead:ByteArray) (fst:Bool) (h47:s.size≤140737488351232) (w:World):
 Calls prog 177 #[.string s,.string ahead,.bool fst] w fun e w'=>w=w'∧e= .returned (.int .i64 (Cg (M_ s) (WW s ahead fst))):=by
 generalize Td:Cg _ _=EE
 have HE:=AA Td
 clear Td
 unfold M_ at HE
 have hsz:s.data.toList.length=s.size:=by simp
 have VX:=AA hsz;clear hsz
 by_cases h32:s.size≤32
 case neg=>
  have hd:decide (32<s.size)=true:=decide_eq_true (by omega)
  have hdi:decide ((32:Int)<(s.size:Int))=true:=decide_eq_true (by omega)
  have hX:Hid (EE=13):=AA (by rw [←HE.out,Bw (decide_eq_false h32)];rfl)
  clear h32 HE
  go_enter func177,ntmps177
  go_wp2_with fail
  go_ret
  exact⟨rfl,by rw [hX.out];rfl⟩
 have hd:decide (32<s.size)=false:=decide_eq_false (by omega)
 have hdi:decide ((32:Int)<(s.size:Int))=false:=decide_eq_false (by omega)
 by_cases hz:s.size=0
 ·have hX:Hid (EE=23):=AA (by rw [←HE.out,BQ (decide_eq_true h32),Bw (decide_eq_false (by omega))];rfl)
  have e0:s.toList= []:=by rw [ByteArray.toList_eq];exact List.length_eq_zero_iff.1 (by rw [Array.length_toList];exact hz)
  clear hz HE
  go_enter func177,ntmps177
  go_wp2_with fail
  go_ret
  exact⟨rfl,by rw [hX.out];rfl⟩
 have en: ¬s.toList= []:=fun e=>hz (by rw [ByteArray.toList_eq] at e;have:=congrArg List.length e;rw [Array.length_toList] at this;exact this)
 have e0:(!s.toList.isEmpty)=true:=by cases hh:s.toList with | nil=>exact absurd hh en | cons _ _=>rfl
 have e1:(s.toList== [])=false:=by cases hh:s.toList with | nil=>exact absurd hh en | cons _ _=>rfl
 have HZ:Hid (EE=Cg (Ab (s.data.toList.all PS) 23) (WW s ahead fst)):=AA (by
  rw [←HE.out,BQ (decide_eq_true h32),AX rfl,BQ (decide_eq_true (by omega)),AX rfl])
 have ADX:=qH 9 s ahead
 clear hz HE en h32
 go_enter func177,ntmps177
 go_wp2_with fail
 go_loop [7] (fun i=> ∃k:Nat,k≤s.size∧i= .int .i64 k∧(s.data.toList.drop k).all PS=s.data.toList.all PS) (fun i=>s.size-(intOf i).toNat)
 case atStart=>exact⟨0,Nat.zero_le _,rfl,rfl⟩
 case round=>
  obtain⟨k,hk,rfl,hR⟩:=hrel
  have HR2:=AA hR;clear hR
  by_cases hlt:k<s.size
  ·have Hd:=AA (drop_at s.data.toList k (by rw [VX.out];exact hlt))
   have hb:=byte_at s k hlt
   have Hb:=AA hb;clear hb
   have hk0:(0:Int)≤k:=by omega
   have HR3:Hid ((PS (s.data.toList[k]?.getD 0)&&(s.data.toList.drop (k+1)).all PS)=s.data.toList.all PS):=AA (by rw [←HR2.out,Hd.out];rfl)
   have hbn:(s[k]'hlt).toNat=(s.data.toList[k]?.getD 0).toNat:=congrArg UInt8.toNat Hb.out
   have key:(PS (s.data.toList[k]?.getD 0)=false∧(decide (((s[k]'hlt).toNat:Int)<33)=true∨(decide (((s[k]'hlt).toNat:Int)<33)=false∧decide ((126:Int)<((s[k]'hlt).toNat:Int))=true)))∨
    (PS (s.data.toList[k]?.getD 0)=true∧decide (((s[k]'hlt).toNat:Int)<33)=false∧decide ((126:Int)<((s[k]'hlt).toNat:Int))=false):=by
    unfold PS
    simp only [decide_eq_true_eq,decide_eq_false_iff_not]
    omega
   clear Hd HR2 hbn Hb
   rcases key with⟨hc,k1 | ⟨k1,k2⟩⟩ | ⟨hc,k1,k2⟩
   rotate_left 2
   ·have HG:Hid ((s.data.toList.drop (k+1)).all PS=s.data.toList.all PS):=AA (by rw [←HR3.out,hc,Bool.true_and])
    clear hc
    go_wp2_with fail
    exact⟨⟨k+1,by omega,by go_num,HG.out⟩,by simp [intOf];omega⟩
   all_goals
    have hX:Hid (EE=23):=AA (by rw [HZ.out,←HR3.out,hc];rfl)
    clear hc
    go_wp2_with fail
    go_ret
    exact⟨rfl,by rw [hX.out];rfl⟩
  ·have HA:Hid (s.data.toList.all PS=true):=AA (by rw [←HR2.out,List.drop_of_length_le (by rw [VX.out];omega)];rfl)
   have HZ2:Hid (EE=WW s ahead fst):=AA (by rw [HZ.out,HA.out,BQ rfl,AX rfl])
   cases fst with
   | true=>
    have hX:Hid (EE=0):=AA HZ2.out
    go_wp2_with fail
    go_ret
    exact⟨rfl,by rw [hX.out];rfl⟩
   | false=>
    cases hle:OL s ahead with
    | true=>
     have hX:Hid (EE=18):=AA (by rw [HZ2.out];unfold WW;rw [hle];rfl)
     rw [hle] at ADX
     clear hle
     go_wp2_with fail
     go_ret
     exact⟨rfl,by rw [hX.out];rfl⟩
    | false=>
     have hX:Hid (EE=0):=AA (by rw [HZ2.out];unfold WW;rw [hle];rfl)
     rw [hle] at ADX
     clear hle
     go_wp2_with fail
     go_ret
     exact⟨rfl,by rw [hX.out];rfl⟩
theorem zf {m:AP} {k:Nat} {d:Gn} (hd:m.dat[k]?=some d) (h:Kl m k=0):(0≤d.at_∧d.at_≤m.first*4096)∧(d.b.length:Int)≤m.first*4096-d.at_:=by
 unfold Kl at h
 rw [hd] at h
 obtain⟨a,b⟩:=AU h
 obtain⟨_,c⟩:=AU b
 obtain⟨c,_⟩:=AU c
 have key: ∀ {b:Bool} {e:Int},e≠0→Ab b e=0→b=true:=fun {b e} he h=>by cases b with | true=>rfl | false=>exact absurd h he
 exact⟨of_decide_eq_true (key (by decide) a),of_decide_eq_true (key (by decide) c)⟩
def tH (m:AP) (k:Nat):ByteArray:=match k with
 | 0=>⟨#[]⟩
 | i+1=>match m.Aw[i]? with
  | none=>⟨#[]⟩
  | some y=>y.n
theorem tJ {m:AP} {k:Nat} {s:ByteArray} (hk:k<m.Aw.length):WW s (tH m k) (decide (k=0))=Ri m.Aw k s:=by
 unfold WW Ri tH
 cases k with
 | zero=>rfl
 | succ i=>
  have hi:m.Aw[i]?=some m.Aw[i]:=List.getElem?_eq_getElem (by omega)
  rw [if_neg (by simp),if_neg (by omega)]
  simp only [show i+1-1=i from rfl,hi]
theorem WX (cs:List Value) (hi:Nat) (m:AP) (w:World) (h:Db.R w 0 hi cs m) (hhi:hi≤w.heap.size) (hp0:0≤m.first) (hp1:m.first≤64) (hfn:m.fns.length≤128) (hbd: ∀d∈m.dat,d.b.length≤2147483647):
 Calls prog 139 #[.agg cs.toArray] w fun e w'=>Below w.heap.size w w'∧e= .returned (.int .i64 (Cg (FY m) (IZ m))):=by
 obtain⟨v1,v2,v3,v4,v5,v6,rfl,_,_,_,_,_,h5,h6,h7⟩:=Av.1 h
 obtain⟨A5,c5,rfl⟩:=AJ h5
 obtain⟨A6,c6,rfl⟩:=AJ h6
 obtain⟨A7,c7,rfl⟩:=AJ h7
 have yT:=AA hbd;have H6:=AA h6;have H7:=AA h7;have CJ:=AA hhi
 clear h h5 h6 h7 hhi hbd
 go_enter func139,ntmps139
 go_upto_region 1 with fail
 generalize hw1:w.alloc (.cells #[v1,v2,v3,.int .i64 m.first,.int .i64 m.most,.slice A5 m.fns.length c5,.slice A6 m.dat.length c6,.slice A7 m.Aw.length c7] 29)=w1
 obtain⟨hb1,hx1⟩:=Pp hw1
 have HB1:=AA hb1;have CS:=AA hx1
 clear hw1 hb1 hx1
 have q6:=CS.out.q 6 rfl
 by_cases hn:m.dat.length≤64
 case neg=>
  have hd:decide (64<m.dat.length)=true:=decide_eq_true (by omega)
  have hdi:decide ((64:Int)<(m.dat.length:Int))=true:=decide_eq_true (by omega)
  have HE:Hid (Cg (FY m) (IZ m)=20):=AA (by unfold FY;rw [Bw (decide_eq_false hn)];rfl)
  clear hn
  go_wp2_with fail
  go_ret
  exact⟨HB1.out,by rw [HE.out];rfl⟩
 have hd:decide (64<m.dat.length)=false:=decide_eq_false (by omega)
 have hdi:decide ((64:Int)<(m.dat.length:Int))=false:=decide_eq_false (by omega)
 have Uq:Hid (FY m=Aa m.dat.length (Kl m)):=AA (by unfold FY;rw [BQ (decide_eq_true hn),AX rfl])
 go_wp2_with fail
 clear q6
 go_loopw [3,4] (fun i _ wr=> ∃k:Nat,i= .int .i64 k∧K_ m.dat.length (Kl m) k∧Below w1.heap.size w1 wr) (fun i _ _=>m.dat.length-(intOf i).toNat)
 case atStart=>exact⟨0,rfl,⟨Nat.zero_le _,rfl⟩,Below.refl _ _⟩
 case round=>
  obtain⟨k,rfl,hg,hbr⟩:=hrel
  have HG:=AA hg
  have Io:=AA hbr
  have Ec:Hid (Below w.heap.size w wr):=AA (HB1.out.trans (hbr.mono HB1.out.size))
  have RA:=AA (CS.out.below hbr CS.out.lt)
  have q6:=RA.out.q 6 rfl
  clear hg hbr
  by_cases hlt:k<m.dat.length
  ·obtain⟨x,hx⟩: ∃x,m.dat[k]?=some x:=⟨_,List.getElem?_eq_getElem hlt⟩
   obtain⟨b,o,Qw,QH,eA,_,hbb,d0,d1,b63,_⟩:=JO H6.out hx
   subst eA
   have lb:b<w.heap.size:=Nat.lt_of_lt_of_le hbb CJ.out
   have e0:=(Ec.out.cell lb (p:=⟨b,o+k*2,none⟩)).trans d0
   have e1:=(Ec.out.cell lb (p:=⟨b,o+k*2+1,none⟩)).trans d1
   have hk0:(0:Int)≤k:=by omega
   have hk1:(k:Int)<m.dat.length:=by omega
   have HXX:=AA hx
   have wm:Hid (Kl m k=Cg (Ab (decide (0≤x.at_∧x.at_≤m.first*4096)) 17) (Cg (if k=0 then 0 else match m.dat[k-1]? with | none=>0 | some y=>Ab (decide (y.at_+y.b.length<x.at_)) 18) (Cg (Ab (decide ((x.b.length:Int)≤m.first*4096-x.at_)) 13) (Ab (decide (0<x.b.length)) 17)))):=AA (by unfold Kl;rw [hx];rfl)
   have Zr:Hid (∀e:Int,e≠0→Kl m k=e→Cg (FY m) (IZ m)=e):=AA (fun e he h=>by rw [Uq.out,HG.out.hit hlt (by rw [h];exact he),h,Bn he])
   unfold Rd.Gd at b63
   clear hx d0 d1 hbb
   go_upto_region 7 with fail
   generalize hw2:wr.alloc (.cells #[.int .i64 x.at_,.slice Qw x.b.length QH] 99)=w2
   have hb2:Below wr.heap.size wr w2:=by rw [←hw2];exact(Below.refl _ _).alloc (Nat.le_refl _) _
   have Jo:Hid (AQ w2 wr.heap.size 99 [.int .i64 x.at_,.slice Qw x.b.length QH]):=AA (by rw [←hw2];exact AQ.new wr 99 _)
   have Bq:=AA (RA.out.below hb2 RA.out.lt)
   have HB2:Hid (Below w.heap.size w w2):=AA (Ec.out.trans (hb2.mono Ec.out.size))
   have SA:Hid (Below w1.heap.size w1 w2):=AA (Io.out.trans (hb2.mono Io.out.size))
   clear hw2 hb2 e0 e1 q6
   have r0:=Jo.out.q 0 rfl
   have r1:=Jo.out.q 1 rfl
   have q3:=Bq.out.q 3 rfl
   have q6:=Bq.out.q 6 rfl
   by_cases hin:0≤x.at_∧x.at_≤m.first*4096
   case neg=>
    have HE:=AA (Zr.out 17 (by decide) (by rw [wm.out,Bw (decide_eq_false hin)];rfl))
    have key:decide (x.at_<0)=true∨(decide (x.at_<0)=false∧decide (m.first*4096<x.at_)=true):=by
     simp only [decide_eq_true_eq,decide_eq_false_iff_not];omega
    clear hin
    rcases key with k1 | ⟨k1,k2⟩
    all_goals
     go_wp2_with fail
     go_ret
     exact⟨HB2.out,by rw [HE.out];rfl⟩
   obtain⟨hin0,hin1⟩:=hin
   have tK:=AA (wm.out.trans ((congrArg (Cg · _) (BQ (decide_eq_true ⟨hin0,hin1⟩))).trans (AX rfl)))
   clear wm
   have k1:decide (x.at_<0)=false:=decide_eq_false (by omega)
   have k2:decide (m.first*4096<x.at_)=false:=decide_eq_false (by omega)
   have hbl:x.b.length≤2147483647:=yT.out x (List.mem_of_getElem? HXX.out)
   go_upto_region 9 with fail
   have key:(decide (0<k)=false∧decide ((0:Int)<k)=false∧k=0)∨(∃y,decide (0<k)=true∧decide ((0:Int)<k)=true∧0<k∧m.dat[k-1]?=some y∧Kl m (k-1)=0):=by
    by_cases h0:k=0
    ·exact .inl ⟨decide_eq_false (by omega),decide_eq_false (by omega),h0⟩
    ·exact .inr ⟨_,decide_eq_true (by omega),decide_eq_true (by omega),by omega,List.getElem?_eq_getElem (by omega),BP HG.out.2 _ (by omega)⟩
   rcases key with⟨z0,z0i,ADY⟩ | ⟨y,z0,z0i,hkp,hy,hdy⟩
   case' inl=>
    have tL:=AA (tK.out.trans ((congrArg (Cg · _) (if_pos ADY)).trans (AX rfl)))
    clear ADY tK
    go_quiet (fail)
    generalize hw3:w2.drewN _=w3
    have HD3:Hid (∃nn,w3=w2.drewN nn):=AA ⟨_,hw3.symm⟩
    clear hw3 z0 z0i
   case' inr=>
    obtain⟨b',o',A_y,c_y,eB,_,_,f0,f1,y63,_⟩:=JO H6.out hy
    injection eB with eB;injection eB with qm qo _
    subst qm qo
    obtain⟨⟨y0,y1⟩,y2⟩:=zf hy hdy
    have g0:=(HB2.out.cell lb (p:=⟨b,o+(k-1)*2,none⟩)).trans f0
    have g1:=(HB2.out.cell lb (p:=⟨b,o+(k-1)*2+1,none⟩)).trans f1
    have hwk:IntKind.i64.wrap ((k:Int)-1)=(k:Int)-1:=IntWalk.i64_in _ (by omega)
    have hk3:(0:Int)≤(k:Int)-1:=by omega
    have hk4:(k:Int)-1<m.dat.length:=by omega
    have hkn:((k:Int)-1).toNat=k-1:=by omega
    have hws:IntKind.i64.wrap (y.at_+(y.b.length:Int))=y.at_+(y.b.length:Int):=IntWalk.i64_in _ (by omega)
    have HDY:Hid (Kl m k=Cg (Ab (decide (y.at_+y.b.length<x.at_)) 18) (Cg (Ab (decide ((x.b.length:Int)≤m.first*4096-x.at_)) 13) (Ab (decide (0<x.b.length)) 17))):=AA (by rw [tK.out,if_neg (by omega),hy])
    clear tK f0 f1 hy hdy y63
    by_cases hov:y.at_+(y.b.length:Int)<x.at_
    case' neg=>
     have ho:decide (x.at_≤y.at_+(y.b.length:Int))=true:=decide_eq_true (by omega)
     have HE:=AA (Zr.out 18 (by decide) (by rw [HDY.out,Bw (decide_eq_false hov)];rfl))
     clear hov
     go_quiet (fail)
     clear hwk hws
     go_wp2_with fail
     go_ret
     exact⟨below_drewN HB2.out _,by rw [HE.out];rfl⟩
    case' pos=>
     have ho:decide (x.at_≤y.at_+(y.b.length:Int))=false:=decide_eq_false (by omega)
     have tL:=AA (HDY.out.trans ((congrArg (Cg · _) (BQ (decide_eq_true hov))).trans (AX rfl)))
     clear hov HDY
     go_quiet (fail)
     clear hwk hws
     generalize hw3:w2.drewN _=w3
     have HD3:Hid (∃nn,w3=w2.drewN nn):=AA ⟨_,hw3.symm⟩
     clear hw3 z0 z0i ho g0 g1 hk3 hk4 hkn y0 y1 y2
   all_goals
    obtain⟨nn,hnn⟩:=HD3.out
    have HB3:Hid (Below w.heap.size w w3):=AA (by rw [hnn];exact below_drewN HB2.out _)
    have tC:Hid (Below w1.heap.size w1 w3):=AA (by rw [hnn];exact below_drewN SA.out _)
    have r0:w3.cell? ⟨wr.heap.size,0,none⟩=some (.int .i64 x.at_):=by rw [hnn];exact r0
    have r1:w3.cell? ⟨wr.heap.size,1,none⟩=some (.slice Qw x.b.length QH):=by rw [hnn];exact r1
    have q3:w3.cell? ⟨w.heap.size,3,none⟩=some (.int .i64 m.first):=by rw [hnn];exact q3
    clear hnn q6
    by_cases hb1:(x.b.length:Int)≤m.first*4096-x.at_
    case neg=>
     have ho:decide (m.first*4096-x.at_<(x.b.length:Int))=true:=decide_eq_true (by omega)
     have HE:=AA (Zr.out 13 (by decide) (by rw [tL.out,Bw (decide_eq_false hb1)];rfl))
     clear hb1
     go_wp2_with fail
     go_ret
     exact⟨HB3.out,by rw [HE.out];rfl⟩
    have ho:decide (m.first*4096-x.at_<(x.b.length:Int))=false:=decide_eq_false (by omega)
    by_cases hb0:0<x.b.length
    case neg=>
     have hz0:((x.b.length:Int)==0)=true:=by rw [beq_iff_eq];omega
     have hz0n:(x.b.length==0)=true:=by rw [beq_iff_eq];omega
     have HE:=AA (Zr.out 17 (by decide) (by rw [tL.out,BQ (decide_eq_true hb1),AX rfl,Bw (decide_eq_false hb0)]))
     clear hb1 hb0
     go_wp2_with fail
     go_ret
     exact⟨HB3.out,by rw [HE.out];rfl⟩
    have hz0:((x.b.length:Int)==0)=false:=by rw [beq_eq_false_iff_ne];omega
    have hz0n:(x.b.length==0)=false:=by rw [beq_eq_false_iff_ne];omega
    have HD0:Hid (Kl m k=0):=AA (by rw [tL.out,BQ (decide_eq_true hb1),AX rfl,BQ (decide_eq_true hb0)])
    clear hb1 hb0
    go_wp2_with fail
    exact⟨⟨k+1,by go_num,HG.out.step hlt HD0.out,tC.out⟩,by simp [intOf];omega⟩
  ·have HT0:Hid (FY m=0):=AA (by
    have:k=m.dat.length:=by have:=HG.out.1;omega
    rw [Uq.out,←this];exact HG.out.2)
   have q7:=RA.out.q 7 rfl
   by_cases hnx:m.Aw.length≤64
   case neg=>
    have hdx:decide (64<m.Aw.length)=true:=decide_eq_true (by omega)
    have hdxi:decide ((64:Int)<(m.Aw.length:Int))=true:=decide_eq_true (by omega)
    have HE:Hid (Cg (FY m) (IZ m)=20):=AA (by rw [HT0.out,AX rfl];unfold IZ;rw [Bw (decide_eq_false hnx)];rfl)
    clear hnx
    go_wp2_with fail
    go_ret
    exact⟨Ec.out,by rw [HE.out];rfl⟩
   have hdx:decide (64<m.Aw.length)=false:=decide_eq_false (by omega)
   have hdxi:decide ((64:Int)<(m.Aw.length:Int))=false:=decide_eq_false (by omega)
   have HXE:Hid (Cg (FY m) (IZ m)=Aa m.Aw.length (PU m)):=AA (by rw [HT0.out,AX rfl];unfold IZ;rw [BQ (decide_eq_true hnx),AX rfl])
   go_wp2_with fail
   clear q6 q7
   obtain⟨wo,rfl⟩: ∃wo:World,wo=wr:=⟨_,rfl⟩
   go_loopw [5,6,7] (fun a i _ wv=> ∃j:Nat,i= .int .i64 j∧a= .string (tH m j)∧K_ m.Aw.length (PU m) j∧Below wo.heap.size wo wv) (fun _ i _ _=>m.Aw.length-(intOf i).toNat)
   case atStart=>exact⟨0,rfl,rfl,⟨Nat.zero_le _,rfl⟩,Below.refl _ _⟩
   case round=>
    obtain⟨j,rfl,rfl,hgj,hbv⟩:=hrel
    have tF:=AA hgj
    have ZU:=AA hbv
    have Jp:Hid (Below w.heap.size w wr):=AA (Ec.out.trans (hbv.mono Ec.out.size))
    have Ob:=AA (RA.out.below hbv RA.out.lt)
    have q5:=Ob.out.q 5 rfl
    have q7:=Ob.out.q 7 rfl
    clear hgj hbv
    by_cases hjl:j<m.Aw.length
    ·obtain⟨x,hx⟩: ∃x,m.Aw[j]?=some x:=⟨_,List.getElem?_eq_getElem hjl⟩
     obtain⟨b,o,eA,_,hbb,d0,d1,sn,f63⟩:=MS H7.out hx
     subst eA
     have lb:b<w.heap.size:=Nat.lt_of_lt_of_le hbb CJ.out
     have e0:=(Jp.out.cell lb (p:=⟨b,o+j*2,none⟩)).trans d0
     have e1:=(Jp.out.cell lb (p:=⟨b,o+j*2+1,none⟩)).trans d1
     have hj0:(0:Int)≤j:=by omega
     have hj1:(j:Int)<m.Aw.length:=by omega
     have HEE:Hid (PU m j=Cg (Cg (M_ x.n) (WW x.n (tH m j) (decide (j=0)))) (Ab (decide (0≤x.f∧x.f<m.fns.length)) 30)):=AA (by
      rw [tJ hjl,EG];unfold PU;rw [hx])
     have HAS:Hid (x.n=tH m (j+1)):=AA (by unfold tH;simp only [hx])
     have Zr:Hid (∀e:Int,e≠0→PU m j=e→Cg (FY m) (IZ m)=e):=AA (fun e he h=>by rw [HXE.out,tF.out.hit hjl (by rw [h];exact he),h])
     obtain⟨fb,mI⟩: ∃fb,decide (j=0)=fb:=⟨_,rfl⟩
     have hfi:((j:Int)==0)=fb:=by rw [←mI,Bool.eq_iff_iff];simp
     have hfn':(j==0)=fb:=by rw [←mI,Bool.eq_iff_iff];simp
     obtain⟨ne,hne⟩: ∃ne,Cg (M_ x.n) (WW x.n (tH m j) fb)=ne:=⟨_,rfl⟩
     have tN:Hid (∀W,Calls prog 177 #[.string x.n,.string (tH m j),.bool fb] W fun e w'=>W=w'∧e= .returned (.int .i64 ne)):=AA (fun W=>hne▸gY x.n (tH m j) fb sn W)
     rw [mI,hne] at HEE
     unfold Rd.Gd at f63
     clear hx d0 d1 sn hbb mI hne
     go_wp2_with fail
     refine(tN.out wr).mono ?_
     rintro e w' ⟨rfl,rfl⟩
     clear hfi hfn'
     by_cases hne0:ne=0
     case neg=>
      have qn:(ne !=0)=true:=by simpa using hne0
      have HE:=AA (Zr.out ne hne0 (by rw [HEE.out,Bn hne0]))
      clear hne0
      go_wp2_with fail
      go_ret
      exact⟨Jp.out,by rw [HE.out];rfl⟩
     subst hne0
     by_cases hin:0≤x.f∧x.f<m.fns.length
     case neg=>
      have HE:=AA (Zr.out 30 (by decide) (by rw [HEE.out,AX rfl,Bw (decide_eq_false hin)]))
      have key:decide (x.f<0)=true∨(decide (x.f<0)=false∧decide ((m.fns.length:Int)≤x.f)=true):=by
       simp only [decide_eq_true_eq,decide_eq_false_iff_not];omega
      clear hin
      rcases key with k1 | ⟨k1,k2⟩
      all_goals
       go_wp2_with fail
       go_quiet (fail)
       go_wp2_with fail
       go_ret
       exact⟨below_drewN Jp.out _,by rw [HE.out];rfl⟩
     have k1:decide (x.f<0)=false:=decide_eq_false (by omega)
     have k2:decide ((m.fns.length:Int)≤x.f)=false:=decide_eq_false (by omega)
     have OA:Hid (PU m j=0):=AA (by rw [HEE.out,AX rfl,BQ (decide_eq_true hin)])
     clear hin
     go_wp2_with fail
     go_quiet (fail)
     go_wp2_with fail
     exact⟨⟨j+1,by go_num,by rw [HAS.out],tF.out.step hjl OA.out,below_drewN ZU.out _⟩,by simp [intOf];omega⟩
    ·have HE:Hid (Cg (FY m) (IZ m)=0):=AA (by
      have:j=m.Aw.length:=by have:=tF.out.1;omega
      rw [HXE.out,←this];exact tF.out.2)
     go_wp2_with fail
     go_ret
     exact⟨Jp.out,by rw [HE.out];rfl⟩
end Go.Proofs.YtlagonfamllgjaaGreatDoor
