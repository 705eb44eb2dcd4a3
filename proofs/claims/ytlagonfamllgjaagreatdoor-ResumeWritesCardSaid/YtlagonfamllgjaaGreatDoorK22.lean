/- Part 22 of the proof: R14D R14E TypesD -/
import Derived.Test.YtlagonfamllgjaaGreatDoorK21
namespace Go.Proofs.YtlagonfamllgjaaGreatDoor
set_option linter.unusedVariables false
set_option linter.unusedSimpArgs false
set_option maxRecDepth 100000
set_option maxHeartbeats 4000000
open Go.RowKit Tryz
def WH (m:AP) (t:List Dz) (f:Jy) (nx:Option Nat):Bool:=match nx with
 | none=>EY f.st (Ip t f.f f.pc).data.toList
 | some g=>P9 m f (g:Int)&&EY f.st ((Ip t f.f f.pc).extract 0 ((Ip t f.f f.pc).size-(B_ m (RU m (g:Int)).t).p.size)).data.toList
def Kq (m:AP) (t:List Dz) (f:Jy) (nx:Option Nat):Bool:=UM m f&&WH m t f nx
def nxI (nx:Option Nat):Int:=match nx with
 | none=> -1
 | some g=>(g:Int)
theorem uE {A:Option Addr} {n c B:Nat} {s:ByteArray} {w:World} {vs:List Nat} (hn:n=vs.length) (h47:s.size≤140737488351232) (hn47:n≤140737488351232) (hr:Row w B A (vs.map uv)) (a k:Nat):
 Calls prog 104 #[.slice A n c,.string s] (w.drewN (a+k)) fun e w''=>e= .returned (.bool (EY vs s.data.toList))∧ ∃m,w''=w.drewN (a+m):=by
 refine(SC A n c B s (w.drewN (a+k)) vs hn h47 hn47 (hr.drewN _)).mono ?_
 rintro e w' ⟨⟨q,rfl⟩,rfl⟩
 exact⟨rfl,k+q,by rw [World.drewN_drewN,Nat.add_assoc]⟩
theorem gq (cs fs:List Value) (At:Option Addr) (ct hi:Nat) (m:AP) (t:List Dz) (f:Jy) (nx:Option Nat) (w:World) (hm:DJ.R w 0 hi cs m) (htab:(Nw.sl false).R w 0 hi [.slice At t.length ct] t) (hf:Od.R w 0 hi fs f) (hhi:hi≤w.heap.size) (hv:F7 m= .inr t)
 (hnx: ∀g,nx=some g→g<9223372036854775808) (hl1:f.loc.length≤140737488351232) (hl2:f.st.length≤140737488351232):
 Calls prog 72 #[.agg cs.toArray,.slice At t.length ct,.agg fs.toArray,.int .i64 (nxI nx)] w fun e w'=>Below w.heap.size w w'∧e= .returned (.bool (Kq m t f nx)):=by
 obtain⟨nv,X3⟩: ∃nv,nxI nx=nv:=⟨_,rfl⟩
 rw [X3]
 have HNV:=AA X3
 clear X3
 obtain⟨hmo,htl,htb⟩:=Ke hv
 have HM:=AA hm;have XG:=AA hmo;have Gp:=AA htb;have HTL:=AA htl;have Bw:=AA hhi;have uG:=AA htab;have ZE:=AA hnx
 have hnf:=hmo.nf
 obtain⟨v1,v2,v3,v4,v5,v6,rfl,h0,_,_,_,_,h5,_⟩:=Am.1 hm
 obtain⟨A0,c0,rfl⟩:=AB h0
 obtain⟨A5,c5,rfl⟩:=AB h5
 obtain⟨ul,us,rfl,ff,fp,hul,hus⟩:=FV.1 hf
 obtain⟨Al,cl,rfl⟩:=AB hul
 obtain⟨As,cS,rfl⟩:=AB hus
 have H0:=AA h0;have H5:=AA h5
 have HLR:=AA (Rd.GV hul).2;have VA:=AA (Rd.GV hus).2
 unfold Rd.G8 at ff fp
 clear hmo htl htb hm htab hf hv hnx h0 h5 hul hus
 obtain⟨R,hR⟩: ∃R,Kq m t f nx=R:=⟨_,rfl⟩
 rw [hR]
 have HR:=AA hR
 clear hR
 go_enter func72,ntmps72
 go_upto_region 1 with fail
 generalize hw1:w.alloc (.cells #[.slice A0 m.types.length c0,v2,v3,.int .i64 m.first,.int .i64 m.most,.slice A5 m.fns.length c5,v5,v6] 29)=w1
 obtain⟨hb1,hx1⟩:=QK hw1
 have hz1:w1.heap.size=w.heap.size+1:=by rw [←hw1];simp
 clear hw1
 generalize hw2:w1.alloc (.cells #[.int .i64 f.f,.int .i64 f.pc,.slice Al f.loc.length cl,.slice As f.st.length cS] 91)=w2
 have hb2:Below w1.heap.size w1 w2:=by rw [←hw2];exact(Below.refl _ _).alloc (Nat.le_refl _) _
 have Im:Hid (AQ w2 (w.heap.size+1) 91 [.int .i64 f.f,.int .i64 f.pc,.slice Al f.loc.length cl,.slice As f.st.length cS]):=AA (by rw [←hw2,←hz1];exact AQ.new w1 91 _)
 have CV:=AA (hx1.below hb2 hx1.lt)
 have HB2:Hid (Below w.heap.size w w2):=AA (hb1.trans (hb2.mono hb1.size))
 try rw [hz1]
 clear hw2 hb1 hb2 hx1 hz1
 have r0:=Im.out.q 0 rfl
 have r1:=Im.out.q 1 rfl
 have r2:=Im.out.q 2 rfl
 have q5:=CV.out.q 5 rfl
 by_cases hin1:FE f.f m.fns.length=true
 case neg=>
  have HX:Hid (R=false):=AA (by rw [←HR.out];unfold Kq UM;rw [Bool.eq_false_iff.2 hin1];rfl)
  have key:decide (f.f<0)=true∨(decide (f.f<0)=false∧decide ((m.fns.length:Int)≤f.f)=true):=by
   have: ¬(0≤f.f∧f.f<m.fns.length):=fun e=>hin1 (decide_eq_true e)
   simp only [decide_eq_true_eq,decide_eq_false_iff_not];omega
  clear hin1
  rcases key with k1 | ⟨k1,k2⟩
  all_goals
   go_wp2_with fail
   go_ret
   exact⟨HB2.out,by rw [HX.out];rfl⟩
 obtain⟨k,hk,hkl⟩:=Ed hin1
 obtain⟨fn,hfn⟩: ∃fn,m.fns[k]?=some fn:=⟨_,List.getElem?_eq_getElem hkl⟩
 have fH:RU m f.f=fn:=by rw [hk];exact OG hfn
 obtain⟨bf,of,TJ,Ko,gZ,_,hbf,g0,g1,g2,_,_,hcd⟩:=Eu H5.out hfn
 subst gZ
 have qy:bf<w.heap.size:=Nat.lt_of_lt_of_le hbf Bw.out
 have e2:=(HB2.out.cell qy (p:=⟨bf,of+k*3+2,none⟩)).trans g2
 have gu:=AA hfn;have HFV:=AA fH;have X5:=AA hcd;have HKK:=AA hk
 have Kg:=(XG.out.fns fn (List.mem_of_getElem? hfn)).few
 have Es:Hid (R=((FE f.pc fn.code.length&&EY f.loc (CS m fn).data.toList)&&WH m t f nx)):=AA (by
  rw [←HR.out];unfold Kq UM;rw [hin1,fH,Bool.true_and])
 rw [hk] at r0
 have hk0:(0:Int)≤k:=by omega
 have hk1:(k:Int)<m.fns.length:=by omega
 have k1:decide ((k:Int)<0)=false:=decide_eq_false (by omega)
 have k2:decide ((m.fns.length:Int)≤(k:Int))=false:=decide_eq_false (by omega)
 have k2n:decide (m.fns.length≤k)=false:=decide_eq_false (by omega)
 clear hin1 hk hfn fH hcd g0 g1 g2 hbf
 go_wp2_with fail
 by_cases hin2:FE f.pc fn.code.length=true
 case neg=>
  have HX:Hid (R=false):=AA (by rw [Es.out,Bool.eq_false_iff.2 hin2];rfl)
  have key:decide (f.pc<0)=true∨(decide (f.pc<0)=false∧decide ((fn.code.length:Int)≤f.pc)=true):=by
   have: ¬(0≤f.pc∧f.pc<fn.code.length):=fun e=>hin2 (decide_eq_true e)
   simp only [decide_eq_true_eq,decide_eq_false_iff_not];omega
  clear hin2
  rcases key with z1 | ⟨z1,z2⟩
  all_goals
   go_quiet (fail)
   go_wp2_with fail
   go_ret
   exact⟨below_drewN HB2.out _,by rw [HX.out];rfl⟩
 obtain⟨p,hp,hpl⟩:=Ed hin2
 have AAN:=AA (Es.out.trans (by rw [hin2,Bool.true_and]))
 have jY:=AA hp
 rw [hp] at r1
 have hp0:(0:Int)≤p:=by omega
 have hp1:(p:Int)<fn.code.length:=by omega
 have z1:decide ((p:Int)<0)=false:=decide_eq_false (by omega)
 have z2:decide ((fn.code.length:Int)≤(p:Int))=false:=decide_eq_false (by omega)
 have z2n:decide (fn.code.length≤p)=false:=decide_eq_false (by omega)
 have hlz:=YN XG.out gu.out
 obtain⟨lb,hlb⟩: ∃lb,EY f.loc (CS m fn).data.toList=lb:=⟨_,rfl⟩
 rw [hlb] at AAN
 have jZ:=AA hlb
 have hzz:w.heap.size≤w2.heap.size:=HB2.out.size
 have HS:Hid (∀W,Below w2.heap.size w2 W→W.cell? ⟨w.heap.size,0,none⟩=some (.slice A0 m.types.length c0)∧W.cell? ⟨w.heap.size,1,none⟩=some v2∧W.cell? ⟨w.heap.size,2,none⟩=some v3∧W.cell? ⟨w.heap.size,3,none⟩=some (.int .i64 m.first)∧W.cell? ⟨w.heap.size,4,none⟩=some (.int .i64 m.most)∧W.cell? ⟨w.heap.size,5,none⟩=some (.slice (some ⟨bf,of,none⟩) m.fns.length c5)∧W.cell? ⟨w.heap.size,6,none⟩=some v5∧W.cell? ⟨w.heap.size,7,none⟩=some v6∧
  W.cell? ⟨w.heap.size+1,0,none⟩=some (.int .i64 k)∧W.cell? ⟨w.heap.size+1,1,none⟩=some (.int .i64 p)∧W.cell? ⟨w.heap.size+1,2,none⟩=some (.slice Al f.loc.length cl)∧Below w2.heap.size w2 W):=AA (fun W hW=>by
  have x1:=CV.out.below hW CV.out.lt
  have x2:=Im.out.below hW Im.out.lt
  exact⟨x1.cell 0,x1.cell 1,x1.cell 2,x1.cell 3,x1.cell 4,x1.cell 5,x1.cell 6,x1.cell 7,(x2.cell 0).trans (by rw [←HKK.out];rfl),(x2.cell 1).trans (by rw [←jY.out];rfl),x2.cell 2,hW⟩)
 have HLC:Hid (∀W,Below w2.heap.size w2 W→Calls prog 105 #[.agg #[.slice A0 m.types.length c0,v2,v3,.int .i64 m.first,.int .i64 m.most,.slice (some ⟨bf,of,none⟩) m.fns.length c5,v5,v6],.int .i64 k] W fun e w'=>Below W.heap.size W w'∧e= .returned (.string (CS m fn))):=AA (fun W hW=>Z7 _ hi m k fn W (Rd.below HM.out (HB2.out.trans (hW.mono hzz)) Bw.out) (Nat.le_trans Bw.out (HB2.out.trans (hW.mono hzz)).size) XG.out gu.out)
 have HLI:Hid (∀W,Below w2.heap.size w2 W→Calls prog 104 #[.slice Al f.loc.length cl,.string (CS m fn)] W fun e w'=>(∃q,w'=W.drewN q)∧e= .returned (.bool lb)):=AA (fun W hW=>jZ.out▸SC Al f.loc.length cl hi (CS m fn) W f.loc rfl (by omega) hl1 (HLR.out.below' (HB2.out.trans (hW.mono hzz)) Bw.out))
 clear hin2 hp hlb r0 r1 r2 q5 e2
 go_region_held3 (fun W=>W.cell? ⟨w.heap.size,0,none⟩=some (.slice A0 m.types.length c0)∧W.cell? ⟨w.heap.size,1,none⟩=some v2∧W.cell? ⟨w.heap.size,2,none⟩=some v3∧W.cell? ⟨w.heap.size,3,none⟩=some (.int .i64 m.first)∧W.cell? ⟨w.heap.size,4,none⟩=some (.int .i64 m.most)∧W.cell? ⟨w.heap.size,5,none⟩=some (.slice (some ⟨bf,of,none⟩) m.fns.length c5)∧W.cell? ⟨w.heap.size,6,none⟩=some v5∧W.cell? ⟨w.heap.size,7,none⟩=some v6∧W.cell? ⟨w.heap.size+1,0,none⟩=some (.int .i64 k)∧W.cell? ⟨w.heap.size+1,1,none⟩=some (.int .i64 p)∧W.cell? ⟨w.heap.size+1,2,none⟩=some (.slice Al f.loc.length cl)∧Below w2.heap.size w2 W)
  (first | exact HS.out _ (Below.refl _ _) | exact HS.out _ (Below.refl _ _).drew | exact HS.out _ S1 | exact HS.out _ S2)
  (first
  | (go_at_call 105;refine(HLC.out _ (Below.refl _ _).drew).mono ?_;rintro e W1 ⟨hb,rfl⟩;have S1:=Ce hb;clear hb)
  | (go_at_call 104;refine(HLI.out _ S1).mono ?_;rintro e w' ⟨⟨kk,rfl⟩,rfl⟩;have S2:=below_drewN S1 kk))
 have hbe:=S2
 have HB3:=AA hbe
 have YO:Hid (Below w.heap.size w (W1.drewN kk)):=AA (HB2.out.trans (hbe.mono hzz))
 clear hbe
 generalize W1.drewN kk=w3 at*
 cases lb with
 | false=>
  have HX:Hid (R=false):=AA (by rw [AAN.out];rfl)
  go_wp2_with fail
  go_ret
  exact⟨YO.out,by rw [HX.out];rfl⟩
 | true=>
 have ADV:Hid (R=WH m t f nx):=AA (by rw [AAN.out,Bool.true_and])
 obtain⟨tb,htk,TA⟩:=Gp.out k fn gu.out
 have AAO:=AA TA
 obtain⟨sh,hsh⟩: ∃sh,tb.shapes[p]?=some sh:=⟨_,List.getElem?_eq_getElem (by rw [TA.n];omega)⟩
 have hshz:=TA.low sh (List.mem_of_getElem? hsh)
 obtain⟨bt,ot,A_s,c_s,_,_,_,_,_,_,eT,_,hbt,t0,_,_,_,_,hss,_⟩:=bJ uG.out htk
 subst eT
 obtain⟨bs,os,eS,_,hbs,cs',hc',hr'⟩:=DC hss hsh
 subst eS
 obtain⟨rfl,_⟩:=hr'
 have y0:=(YO.out.cell (Nat.lt_of_lt_of_le hbt Bw.out) (p:=⟨bt,ot+k*5,none⟩)).trans t0
 have y1:w3.cell? ⟨bs,os+p,none⟩=some (.string sh):=(YO.out.cell (Nat.lt_of_lt_of_le hbs Bw.out) (p:=⟨bs,os+p,none⟩)).trans (by have:=hc' 0 _ rfl;simpa [Rd.str,Rd.one] using this)
 have HSV:Hid (Ip t f.f f.pc=sh):=AA (by unfold Ip;rw [HKK.out,jY.out];simp only [Int.toNat_natCast,htk,Option.map_some,Option.getD_some,hsh])
 have HSH:=AA hsh
 obtain⟨s0,s1,s2,s3,s4,s5,s6,s7,s8,s9,s10,_⟩:=HS.out w3 HB3.out
 have kt1:(k:Int)<t.length:=by rw [HTL.out];exact hk1
 have kt2:(p:Int)<tb.shapes.length:=by rw [TA.n];exact hp1
 clear htk TA hsh t0 hss hc' hbt hbs s1 s2 s3 s4 s6 s7
 go_wp2_with fail
 go_quiet (fail)
 generalize hw4:w3.drewN _=w4
 have C9:Hid (Below w2.heap.size w2 w4):=AA (by rw [←hw4];exact below_drewN HB3.out _)
 have KM:Hid (Below w.heap.size w w4):=AA (by rw [←hw4];exact below_drewN YO.out _)
 clear hw4 y0 y1 s0 s5 s8 s9 s10 kt1 kt2
 obtain⟨s0,s1,s2,s3,s4,s5,s6,s7,s8,s9,s10,_⟩:=HS.out w4 C9.out
 have s11:=(Im.out.below C9.out Im.out.lt).q 3 rfl
 clear s1 s2 s3 s4 s6 s7 s10
 cases hnx:nx with
 | none=>
  have X3:nv= -1:=by rw [←HNV.out,hnx];rfl
  have HX:Hid (R=EY f.st sh.data.toList):=AA (by rw [ADV.out,hnx];unfold WH;rw [HSV.out])
  subst X3
  clear hnx
  go_wp2_with fail
  refine(SC As f.st.length cS hi sh w4 f.st rfl (by omega) hl2 (VA.out.below' KM.out Bw.out)).mono ?_
  rintro e w5 ⟨⟨q,rfl⟩,rfl⟩
  go_wp2_with fail
  go_ret
  exact⟨below_drewN KM.out _,by rw [HX.out];rfl⟩
 | some g=>
  have X3:nv=(g:Int):=by rw [←HNV.out,hnx];rfl
  have hg63:=ZE.out g hnx
  obtain⟨z,hz⟩: ∃z,fn.code[p]?=some z:=⟨_,List.getElem?_eq_getElem hpl⟩
  have HX0:Hid (R=(P9 m f (g:Int)&&EY f.st (sh.extract 0 (sh.size-(B_ m (RU m (g:Int)).t).p.size)).data.toList)):=AA (by rw [ADV.out,hnx];unfold WH;rw [HSV.out])
  have X6:Hid (fD (RU m f.f) f.pc=z):=AA (by unfold fD;rw [HFV.out,jY.out,Int.toNat_natCast,hz];rfl)
  obtain⟨bc,oc,A_z,c_z,eC,_,hbc,i0,i1,i2,_,_⟩:=Dy X5.out hz
  subst eC
  have X7:bc<w.heap.size:=Nat.lt_of_lt_of_le hbc Bw.out
  have y0:=(KM.out.cell X7 (p:=⟨bc,oc+p*3,none⟩)).trans i0
  have y1:=(KM.out.cell X7 (p:=⟨bc,oc+p*3+1,none⟩)).trans i1
  have y2:=(KM.out.cell X7 (p:=⟨bc,oc+p*3+2,none⟩)).trans i2
  have HZZ:=AA hz
  subst X3
  have n0:decide ((g:Int)<0)=false:=decide_eq_false (by omega)
  clear hnx hz i0 i1 i2 hbc
  go_upto_region 10 with fail
  generalize Rf:w4.alloc (.cells #[.int .u8 (z.op.toNat:Int),.int .i64 z.a,.slice A_z z.l.length c_z] 122)=w5
  obtain⟨hb5,d0,d1,_,_⟩:=mo Rf
  have D8:Hid (Below w2.heap.size w2 w5):=AA (C9.out.trans (hb5.mono C9.out.size))
  have Z8:Hid (Below w.heap.size w w5):=AA (KM.out.trans (hb5.mono KM.out.size))
  clear Rf hb5 y0 y1 y2 s0 s5 s8 s9 s11
  obtain⟨s0,s1,s2,s3,s4,s5,s6,s7,s8,s9,s10,_⟩:=HS.out w5 D8.out
  have s11:=(Im.out.below D8.out Im.out.lt).q 3 rfl
  clear s1 s2 s3 s4 s6 s7 s10
  by_cases h11:z.op.toNat=11
  case neg=>
   have n1:((z.op.toNat:Int) !=11)=true:=by rw [bne_iff_ne];omega
   have HX:Hid (R=false):=AA (by rw [HX0.out];unfold P9;rw [X6.out,decide_eq_false h11];simp)
   clear h11
   go_wp2_with fail
   go_ret
   exact⟨Z8.out,by rw [HX.out];rfl⟩
  have n1:((z.op.toNat:Int) !=11)=false:=by rw [bne_eq_false_iff_eq];omega
  by_cases ha:z.a=(g:Int)
  case neg=>
   have n2:(z.a !=(g:Int))=true:=by rw [bne_iff_ne];exact ha
   have HX:Hid (R=false):=AA (by rw [HX0.out];unfold P9;rw [X6.out,decide_eq_false ha];simp)
   clear h11 ha
   go_wp2_with fail
   go_ret
   exact⟨Z8.out,by rw [HX.out];rfl⟩
  have n2:(z.a !=(g:Int))=false:=by rw [bne_eq_false_iff_eq];exact ha
  by_cases hgl:g<m.fns.length
  case neg=>
   have n3:decide ((m.fns.length:Int)≤(g:Int))=true:=decide_eq_true (by omega)
   have n3n:decide (m.fns.length≤g)=true:=decide_eq_true (by omega)
   have HX:Hid (R=false):=AA (by
    rw [HX0.out];unfold P9
    rw [show FE (g:Int) m.fns.length=false from decide_eq_false (by omega)];rfl)
   clear h11 ha hgl
   go_wp2_with fail
   go_ret
   exact⟨Z8.out,by rw [HX.out];rfl⟩
  have n3:decide ((m.fns.length:Int)≤(g:Int))=false:=decide_eq_false (by omega)
  have n3n:decide (m.fns.length≤g)=false:=decide_eq_false (by omega)
  obtain⟨f2,hf2⟩: ∃f2,m.fns[g]?=some f2:=⟨_,List.getElem?_eq_getElem hgl⟩
  have Z9:=XG.out.fns f2 (List.mem_of_getElem? hf2)
  obtain⟨t2,ht2⟩: ∃t2:Nat,f2.t=(t2:Int):=⟨f2.t.toNat,by have:=Z9.t0;omega⟩
  obtain⟨ty,hty⟩: ∃ty,m.types[t2]?=some ty:=⟨_,List.getElem?_eq_getElem (by have:=Z9.t1;omega)⟩
  have ADX:=(List.getElem?_eq_some_iff.1 hty).1
  have Ho:(B_ m (RU m (g:Int)).t)=ty:=by rw [OG hf2,ht2];exact FC hty
  obtain⟨bg,og,A_g,c_g,eG,_,hbg,j0,_⟩:=Eu H5.out hf2
  injection eG with eG;injection eG with eG1 eG2 _
  subst eG1 eG2
  obtain⟨bq,oq,eQ,_,hbq,j1,_⟩:=CZ H0.out hty
  subst eQ
  rw [ht2] at j0
  have y0:=(Z8.out.cell qy (p:=⟨bf,of+g*3,none⟩)).trans j0
  have y1:=(Z8.out.cell (Nat.lt_of_lt_of_le hbq Bw.out) (p:=⟨bq,oq+t2*2,none⟩)).trans j1
  have hcall:=AAO.out.call p z sh HZZ.out HSH.out h11
  rw [ha,Ho] at hcall
  have HX:Hid (R=EY f.st (sh.extract 0 (sh.size-ty.p.size)).data.toList):=AA (by
   rw [HX0.out,Ho];unfold P9
   rw [X6.out,show FE (g:Int) m.fns.length=true from decide_eq_true (by omega),decide_eq_true h11,decide_eq_true ha];rfl)
  obtain⟨cut,hcut⟩: ∃cut,sh.extract 0 (sh.size-ty.p.size)=cut:=⟨_,rfl⟩
  rw [hcut] at HX
  have hsl: ∀W,(Instr.slice 9 (.string sh) none (some (.int .i64 ((sh.size:Int)-ty.p.size))) none).run prog W= .ok (.string cut) W:=fun W=>by
   rw [run_slice_string_to_if (P:=prog) W 9 sh .i64 _ underlying9,if_pos (by omega),show((sh.size:Int)-ty.p.size).toNat=sh.size-ty.p.size from by omega,hcut]
  have hcz:cut.size≤256:=by rw [←hcut,ByteArray.size_extract];omega
  have t20:(0:Int)≤t2:=by omega
  have t21:(t2:Int)<m.types.length:=by omega
  have g0':(0:Int)≤g:=by omega
  have g1':(g:Int)<m.fns.length:=by omega
  have HLQ:Hid (∀a k,Calls prog 104 #[.slice As f.st.length cS,.string cut] (w5.drewN (a+k)) fun e w''=>e= .returned (.bool (EY f.st cut.data.toList))∧ ∃m,w''=w5.drewN (a+m)):=AA (fun a k=>uE rfl (by omega) hl2 (VA.out.below' Z8.out Bw.out) a k)
  have hws:IntKind.i64.wrap ((sh.size:Int)-(ty.p.size:Int))=(sh.size:Int)-(ty.p.size:Int):=IntWalk.i64_in _ (by omega)
  clear h11 ha hgl hf2 Z9 ht2 hty Ho j0 j1 hbg hbq hcut
  go_wp2_with fail
  go_quiet (fail)
  go_wp2_with fail
  go_quiet ((go_at_call 104;exact HLQ.out _ _))
  go_wp2_with fail
  go_ret
  exact⟨below_drewN (below_drewN Z8.out _) _,by rw [HX.out];rfl⟩
theorem VB {m:AP} {t:List Dz} {s:FH} {k:Nat} {f:Jy} (hf:s.frames[k]?=some f) (hn:s.frames[k+1]?=none):KZ m t s k=Kq m t f none:=by
 unfold KZ Kq WH;simp only [hf,hn]
theorem dB {m:AP} {t:List Dz} {s:FH} {k n:Nat} {f g:Jy} (hf:s.frames[k]?=some f) (hn:s.frames[k+1]?=some g) (h:g.f=(n:Int)):KZ m t s k=Kq m t f (some n):=by
 unfold KZ Kq WH;simp only [hf,hn,h]
theorem YP {m:AP} {t:List Dz} {s:FH} {k:Nat} {f g:Jy} (hf:s.frames[k]?=some f) (hn:s.frames[k+1]?=some g) (h:g.f<0):KZ m t s k=false:=by
 unfold KZ;simp only [hf,hn];unfold P9
 rw [show FE g.f m.fns.length=false from decide_eq_false (by omega)];simp
theorem AAR {m:AP} {t:List Dz} {s:FH} (h:Aa 4 (Bz m s)≠0):JD m t s=Aa 4 (Bz m s):=by
 unfold JD;rw [Sn,Br (by rw [Br h];exact h),Br h]
theorem AAS {m:AP} {t:List Dz} {s:FH} (h:Aa 4 (Bz m s)=0) (h2:FR m s≠0):JD m t s=FR m s:=by
 unfold JD;rw [Sn,AY h,Br h2]
theorem uH (cs ds:List Value) (At:Option Addr) (ct hi:Nat) (m:AP) (t:List Dz) (s:FH) (w:World) (hm:DJ.R w 0 hi cs m) (htab:(Nw.sl false).R w 0 hi [.slice At t.length ct] t) (hs:K7.R w 0 hi ds s) (hhi:hi≤w.heap.size) (hv:F7 m= .inr t) (hin:RA s):
 Calls prog 36 #[.agg cs.toArray,.slice At t.length ct,.agg ds.toArray] w fun e w'=>Below w.heap.size w w'∧e= .returned (.int .i64 (JD m t s)):=by
 have HM:=AA hm;have uG:=AA htab;have HST:=AA hs;have Bw:=AA hhi;have HV:=AA hv;have Es:=AA hin
 have XG:=AA (Ke hv).1
 obtain⟨v1,v2,v3,v4,v5,v6,rfl,_⟩:=Am.1 hm
 obtain⟨u0,u1,u2,u5,rfl,s0,_⟩:=CU.1 hs
 obtain⟨B0,d0,rfl⟩:=AB s0
 have S0:=AA s0
 clear hm htab hs hhi hv s0 hin
 go_enter func36,ntmps36
 go_upto_region 1 with fail
 generalize hw0:w.alloc (.cells #[v1,v2,v3,.int .i64 m.first,.int .i64 m.most,v4,v5,v6] 29)=w0
 obtain⟨hb0,hx0⟩:=QK hw0
 have hz0:w0.heap.size=w.heap.size+1:=by rw [←hw0];simp
 clear hw0
 generalize hw1:w0.alloc (.cells #[.slice B0 s.frames.length d0,u1,u2,.int .i64 s.Bj,.int .i8 s.end_,u5,.int .i8 s.trap,.int .i64 s.used] 35)=w1
 obtain⟨hb1,hx1⟩:=sG hw1
 rw [hz0] at hx1
 try rw [hz0]
 have G9:=AA (hx0.below hb1 hx0.lt)
 have Ef:=AA hx1
 have HB1:Hid (Below w.heap.size w w1):=AA (hb0.trans (hb1.mono hb0.size))
 clear hw1 hb0 hb1 hx0 hx1 hz0
 have yR:Hid (Calls prog 70 #[.agg #[.slice B0 s.frames.length d0,u1,u2,.int .i64 s.Bj,.int .i8 s.end_,u5,.int .i8 s.trap,.int .i64 s.used]] w1 fun e w'=>Below w1.heap.size w1 w'∧e= .returned (.int .i64 (Aa 4 (Bz m s)))):=AA (fJ _ hi m s w1 (Rd.below HST.out HB1.out Bw.out))
 have yS:Hid (∀W,Below w1.heap.size w1 W→Calls prog 71 #[.agg #[v1,v2,v3,.int .i64 m.first,.int .i64 m.most,v4,v5,v6],.agg #[.slice B0 s.frames.length d0,u1,u2,.int .i64 s.Bj,.int .i8 s.end_,u5,.int .i8 s.trap,.int .i64 s.used]] W fun e w'=>Below W.heap.size W w'∧e= .returned (.int .i64 (FR m s))):=AA (fun W hW=>by
  have hB:=HB1.out.trans (hW.mono HB1.out.size)
  exact mQ _ _ hi m s W (Rd.below HM.out hB Bw.out) (Rd.below HST.out hB Bw.out) (Nat.le_trans Bw.out hB.size) XG.out.ng XG.out.f2)
 have q0:=Ef.out.q 0 rfl
 have q1:=Ef.out.q 1 rfl
 have q2:=Ef.out.q 2 rfl
 have q3:=Ef.out.q 3 rfl
 have q4:=Ef.out.q 4 rfl
 have q5:=Ef.out.q 5 rfl
 have q6:=Ef.out.q 6 rfl
 have q7:=Ef.out.q 7 rfl
 go_wp2_with fail
 refine yR.out.mono ?_
 rintro e w2 ⟨hb2,rfl⟩
 have HB2:=AA hb2
 have F9:Hid (Below w.heap.size w w2):=AA (HB1.out.trans (hb2.mono HB1.out.size))
 clear hb2 q0 q1 q2 q3 q4 q5 q6 q7
 obtain⟨E4,hE4⟩: ∃x,Aa 4 (Bz m s)=x:=⟨_,rfl⟩
 rw [hE4]
 by_cases jV:E4=0
 case neg=>
  have n1:(E4 !=0)=true:=by rw [bne_iff_ne];exact jV
  have HX:Hid (JD m t s=E4):=AA (by rw [AAR (by rw [hE4];exact jV),hE4])
  clear jV hE4
  go_wp2_with fail
  go_ret
  exact⟨F9.out,by rw [HX.out];rfl⟩
 subst jV
 have mq:=AA hE4
 clear hE4
 have uI:=G9.out.below HB2.out G9.out.lt
 have uJ:=Ef.out.below HB2.out Ef.out.lt
 have q0:=uJ.q 0 rfl
 have q1:=uJ.q 1 rfl
 have q2:=uJ.q 2 rfl
 have q3:=uJ.q 3 rfl
 have q4:=uJ.q 4 rfl
 have q5:=uJ.q 5 rfl
 have q6:=uJ.q 6 rfl
 have q7:=uJ.q 7 rfl
 have p0:=uI.q 0 rfl
 have p1:=uI.q 1 rfl
 have p2:=uI.q 2 rfl
 have p3:=uI.q 3 rfl
 have p4:=uI.q 4 rfl
 have p5:=uI.q 5 rfl
 have p6:=uI.q 6 rfl
 have p7:=uI.q 7 rfl
 clear uI uJ
 go_wp2_with fail
 refine(yS.out w2 HB2.out).mono ?_
 rintro e w3 ⟨hb3,rfl⟩
 have YO:Hid (Below w.heap.size w w3):=AA (F9.out.trans (hb3.mono F9.out.size))
 have Ml:=HB2.out.trans (hb3.mono HB2.out.size)
 have U_:=AA (G9.out.below Ml G9.out.lt)
 have L9:=AA (Ef.out.below Ml Ef.out.lt)
 clear hb3 Ml HB2 F9 G9 Ef yS yR q0 q1 q2 q3 q4 q5 q6 q7 p0 p1 p2 p3 p4 p5 p6 p7
 obtain⟨L4,hL4⟩: ∃x,FR m s=x:=⟨_,rfl⟩
 rw [hL4]
 by_cases hl4:L4=0
 case neg=>
  have n1:(L4 !=0)=true:=by rw [bne_iff_ne];exact hl4
  have HX:Hid (JD m t s=L4):=AA (by rw [AAS mq.out (by rw [hL4];exact hl4),hL4])
  clear hl4 hL4
  go_wp2_with fail
  go_ret
  exact⟨YO.out,by rw [HX.out];rfl⟩
 subst hl4
 have H8:Hid (Aa 8 (Bz m s)=0):=AA (by rw [Sn,mq.out,hL4];rfl)
 clear hL4
 have hfl:=Es.out.Rb
 go_wp2_with fail
 go_loopw [9,10] (fun i _ wr=> ∃k:Nat,k≤s.frames.length∧i= .int .i64 k∧Aa k (MP m t s)=0∧Below w3.heap.size w3 wr) (fun i _ _=>s.frames.length-(intOf i).toNat)
 case atStart=>exact⟨0,Nat.zero_le _,rfl,rfl,Below.refl _ _⟩
 case round=>
  obtain⟨k,hk,rfl,hf0,hbr⟩:=hrel
  have Pv:=AA hf0;have JG:=AA hbr
  have EP:Hid (Below w.heap.size w wr):=AA (YO.out.trans (hbr.mono YO.out.size))
  have HZM:=AA (U_.out.below hbr U_.out.lt)
  have HZS:=AA (L9.out.below hbr L9.out.lt)
  have q0:=HZS.out.q 0 rfl
  clear hf0 hbr
  by_cases hlt:k<s.frames.length
  ·obtain⟨f,hf⟩: ∃f,s.frames[k]?=some f:=⟨_,List.getElem?_eq_getElem hlt⟩
   obtain⟨bf,of,eA,_,hbb,cs',hc',hr'⟩:=DC S0.out hf
   subst eA
   have HFR:=AA hr'
   obtain⟨ul,us,rfl,_⟩:=FV.1 hr'
   have lb:bf<w.heap.size:=Nat.lt_of_lt_of_le hbb Bw.out
   have HFI:Hid (sS f):=AA (Es.out.frames f (List.mem_of_getElem? hf))
   have hc0:=hc' 0 _ rfl;have hc1:=hc' 1 _ rfl;have hc2:=hc' 2 _ rfl;have hc3:=hc' 3 _ rfl
   have HS:Hid (∀W,Below wr.heap.size wr W→W.cell? ⟨w.heap.size,0,none⟩=some v1∧W.cell? ⟨w.heap.size,1,none⟩=some v2∧W.cell? ⟨w.heap.size,2,none⟩=some v3∧W.cell? ⟨w.heap.size,3,none⟩=some (.int .i64 m.first)∧W.cell? ⟨w.heap.size,4,none⟩=some (.int .i64 m.most)∧W.cell? ⟨w.heap.size,5,none⟩=some v4∧W.cell? ⟨w.heap.size,6,none⟩=some v5∧W.cell? ⟨w.heap.size,7,none⟩=some v6∧W.cell? ⟨w.heap.size+1,0,none⟩=some (.slice (some ⟨bf,of,none⟩) s.frames.length d0)∧W.cell? ⟨bf,of+k*4,none⟩=some (.int .i64 f.f)∧W.cell? ⟨bf,of+k*4+1,none⟩=some (.int .i64 f.pc)∧W.cell? ⟨bf,of+k*4+2,none⟩=some ul∧W.cell? ⟨bf,of+k*4+3,none⟩=some us∧Below wr.heap.size wr W):=AA (fun W hW=>by
    have x1:=HZM.out.below hW HZM.out.lt
    have x2:=HZS.out.below hW HZS.out.lt
    have hB:=EP.out.trans (hW.mono EP.out.size)
    exact⟨x1.cell 0,x1.cell 1,x1.cell 2,x1.cell 3,x1.cell 4,x1.cell 5,x1.cell 6,x1.cell 7,x2.cell 0,(hB.cell lb).trans hc0,(hB.cell lb).trans hc1,(hB.cell lb).trans hc2,(hB.cell lb).trans hc3,hW⟩)
   have yT:Hid (∀nx W,Below wr.heap.size wr W→(∀g,nx=some g→g<9223372036854775808)→Calls prog 72 #[.agg #[v1,v2,v3,.int .i64 m.first,.int .i64 m.most,v4,v5,v6],.slice At t.length ct,.agg #[.int .i64 f.f,.int .i64 f.pc,ul,us],.int .i64 (nxI nx)] W fun e w'=>Below W.heap.size W w'∧e= .returned (.bool (Kq m t f nx))):=AA (fun nx W hW hnx=>by
    have hB:=EP.out.trans (hW.mono EP.out.size)
    exact gq _ _ At ct hi m t f nx W (Rd.below HM.out hB Bw.out) (Rd.below uG.out hB Bw.out) (Rd.below HFR.out hB Bw.out) (Nat.le_trans Bw.out hB.size) HV.out hnx HFI.out.1 HFI.out.2)
   have hk0:(0:Int)≤k:=by omega
   have hk1:(k:Int)<s.frames.length:=by omega
   have qz:=AA hf
   clear hr' hc' hc0 hc1 hc2 hc3 hf hbb
   cases hn:s.frames[k+1]? with
   | none=>
    have hlast: ¬k+1<s.frames.length:=by have:=List.getElem?_eq_none_iff.1 hn;omega
    have n1:decide ((k:Int)+1<s.frames.length)=false:=decide_eq_false (by omega)
    have n1n:decide (k+1<s.frames.length)=false:=decide_eq_false hlast
    obtain⟨R,hR⟩: ∃R,Kq m t f none=R:=⟨_,rfl⟩
    have HC:Hid (∀W,Below wr.heap.size wr W→Calls prog 72 #[.agg #[v1,v2,v3,.int .i64 m.first,.int .i64 m.most,v4,v5,v6],.slice At t.length ct,.agg #[.int .i64 f.f,.int .i64 f.pc,ul,us],.int .i64 (-1)] W fun e w'=>Below W.heap.size W w'∧e= .returned (.bool R)):=AA (fun W hW=>hR▸yT.out none W hW (by simp))
    have EX:Hid (KZ m t s k=R):=AA (by rw [←hR];exact(VB qz.out hn))
    clear hR hn hlast
    cases R
    case false=>
     have HX:Hid (JD m t s=9+(k:Int)):=AA (RX H8.out Pv.out hlt EX.out)
     go_wp2_with fail
     go_region_held3 (fun W=>W.cell? ⟨w.heap.size,0,none⟩=some v1∧W.cell? ⟨w.heap.size,1,none⟩=some v2∧W.cell? ⟨w.heap.size,2,none⟩=some v3∧W.cell? ⟨w.heap.size,3,none⟩=some (.int .i64 m.first)∧W.cell? ⟨w.heap.size,4,none⟩=some (.int .i64 m.most)∧W.cell? ⟨w.heap.size,5,none⟩=some v4∧W.cell? ⟨w.heap.size,6,none⟩=some v5∧W.cell? ⟨w.heap.size,7,none⟩=some v6∧W.cell? ⟨w.heap.size+1,0,none⟩=some (.slice (some ⟨bf,of,none⟩) s.frames.length d0)∧W.cell? ⟨bf,of+k*4,none⟩=some (.int .i64 f.f)∧W.cell? ⟨bf,of+k*4+1,none⟩=some (.int .i64 f.pc)∧W.cell? ⟨bf,of+k*4+2,none⟩=some ul∧W.cell? ⟨bf,of+k*4+3,none⟩=some us∧Below wr.heap.size wr W)
      (first | exact HS.out _ (Below.refl _ _) | exact HS.out _ (Below.refl _ _).drew | exact HS.out _ S1)
      (first
      | (go_at_call 72;refine(HC.out _ (Below.refl _ _).drew).mono ?_;rintro e W1 ⟨hb,rfl⟩;have S1:=Ce hb;clear hb))
     go_wp2_with fail
     go_ret
     exact⟨EP.out.trans (S1.mono EP.out.size),by rw [HX.out];rfl⟩
    case true=>
     have HN:Hid (Aa (k+1) (MP m t s)=0):=AA (Cc Pv.out (by unfold MP;rw [EX.out];rfl))
     go_wp2_with fail
     go_region_held3 (fun W=>W.cell? ⟨w.heap.size,0,none⟩=some v1∧W.cell? ⟨w.heap.size,1,none⟩=some v2∧W.cell? ⟨w.heap.size,2,none⟩=some v3∧W.cell? ⟨w.heap.size,3,none⟩=some (.int .i64 m.first)∧W.cell? ⟨w.heap.size,4,none⟩=some (.int .i64 m.most)∧W.cell? ⟨w.heap.size,5,none⟩=some v4∧W.cell? ⟨w.heap.size,6,none⟩=some v5∧W.cell? ⟨w.heap.size,7,none⟩=some v6∧W.cell? ⟨w.heap.size+1,0,none⟩=some (.slice (some ⟨bf,of,none⟩) s.frames.length d0)∧W.cell? ⟨bf,of+k*4,none⟩=some (.int .i64 f.f)∧W.cell? ⟨bf,of+k*4+1,none⟩=some (.int .i64 f.pc)∧W.cell? ⟨bf,of+k*4+2,none⟩=some ul∧W.cell? ⟨bf,of+k*4+3,none⟩=some us∧Below wr.heap.size wr W)
      (first | exact HS.out _ (Below.refl _ _) | exact HS.out _ (Below.refl _ _).drew | exact HS.out _ S1)
      (first
      | (go_at_call 72;refine(HC.out _ (Below.refl _ _).drew).mono ?_;rintro e W1 ⟨hb,rfl⟩;have S1:=Ce hb;clear hb))
     go_wp2_with fail
     exact⟨⟨k+1,by omega,by go_num,HN.out,JG.out.trans (S1.mono JG.out.size)⟩,by simp [intOf];omega⟩
   | some g=>
    have hnl:=(List.getElem?_eq_some_iff.1 hn).1
    have n1:decide ((k:Int)+1<s.frames.length)=true:=decide_eq_true (by omega)
    have n1n:decide (k+1<s.frames.length)=true:=decide_eq_true hnl
    obtain⟨b2,o2,_,_,_,_,eB,_,hb2,y0,_,_,_,g63,_⟩:=JR S0.out hn
    injection eB with eB;injection eB with tX tY _
    subst tX tY
    have y0':wr.cell? ⟨bf,of+(k+1)*4,none⟩=some (.int .i64 g.f):=(EP.out.cell lb).trans y0
    have hk2:(k:Int)+1<s.frames.length:=by omega
    have HNK:=AA hn
    unfold Rd.G8 at g63
    clear y0 hb2 hn
    by_cases hg:g.f<0
    case pos=>
     have n2:decide (g.f<0)=true:=decide_eq_true hg
     have HX:Hid (JD m t s=9+(k:Int)):=AA (RX H8.out Pv.out hlt (YP qz.out HNK.out hg))
     clear hg
     go_wp2_with fail
     go_ret
     exact⟨EP.out,by rw [HX.out];rfl⟩
    obtain⟨n,hgn⟩: ∃n:Nat,g.f=(n:Int):=⟨g.f.toNat,by omega⟩
    have n2:decide (g.f<0)=false:=decide_eq_false hg
    have HGN:=AA hgn
    rw [hgn] at y0' n2 g63
    clear hgn hg
    obtain⟨R,hR⟩: ∃R,Kq m t f (some n)=R:=⟨_,rfl⟩
    have HC:Hid (∀W,Below wr.heap.size wr W→Calls prog 72 #[.agg #[v1,v2,v3,.int .i64 m.first,.int .i64 m.most,v4,v5,v6],.slice At t.length ct,.agg #[.int .i64 f.f,.int .i64 f.pc,ul,us],.int .i64 (n:Int)] W fun e w'=>Below W.heap.size W w'∧e= .returned (.bool R)):=AA (fun W hW=>hR▸yT.out (some n) W hW (fun g' e=>by injection e with e;omega))
    have EX:Hid (KZ m t s k=R):=AA (by rw [←hR];exact(dB qz.out HNK.out HGN.out))
    clear hR
    cases R
    case false=>
     have HX:Hid (JD m t s=9+(k:Int)):=AA (RX H8.out Pv.out hlt EX.out)
     go_wp2_with fail
     go_region_held3 (fun W=>W.cell? ⟨w.heap.size,0,none⟩=some v1∧W.cell? ⟨w.heap.size,1,none⟩=some v2∧W.cell? ⟨w.heap.size,2,none⟩=some v3∧W.cell? ⟨w.heap.size,3,none⟩=some (.int .i64 m.first)∧W.cell? ⟨w.heap.size,4,none⟩=some (.int .i64 m.most)∧W.cell? ⟨w.heap.size,5,none⟩=some v4∧W.cell? ⟨w.heap.size,6,none⟩=some v5∧W.cell? ⟨w.heap.size,7,none⟩=some v6∧W.cell? ⟨w.heap.size+1,0,none⟩=some (.slice (some ⟨bf,of,none⟩) s.frames.length d0)∧W.cell? ⟨bf,of+k*4,none⟩=some (.int .i64 f.f)∧W.cell? ⟨bf,of+k*4+1,none⟩=some (.int .i64 f.pc)∧W.cell? ⟨bf,of+k*4+2,none⟩=some ul∧W.cell? ⟨bf,of+k*4+3,none⟩=some us∧Below wr.heap.size wr W)
      (first | exact HS.out _ (Below.refl _ _) | exact HS.out _ (Below.refl _ _).drew | exact HS.out _ S1)
      (first
      | (go_at_call 72;refine(HC.out _ (Below.refl _ _).drew).mono ?_;rintro e W1 ⟨hb,rfl⟩;have S1:=Ce hb;clear hb))
     go_wp2_with fail
     go_ret
     exact⟨EP.out.trans (S1.mono EP.out.size),by rw [HX.out];rfl⟩
    case true=>
     have HN:Hid (Aa (k+1) (MP m t s)=0):=AA (Cc Pv.out (by unfold MP;rw [EX.out];rfl))
     go_wp2_with fail
     go_region_held3 (fun W=>W.cell? ⟨w.heap.size,0,none⟩=some v1∧W.cell? ⟨w.heap.size,1,none⟩=some v2∧W.cell? ⟨w.heap.size,2,none⟩=some v3∧W.cell? ⟨w.heap.size,3,none⟩=some (.int .i64 m.first)∧W.cell? ⟨w.heap.size,4,none⟩=some (.int .i64 m.most)∧W.cell? ⟨w.heap.size,5,none⟩=some v4∧W.cell? ⟨w.heap.size,6,none⟩=some v5∧W.cell? ⟨w.heap.size,7,none⟩=some v6∧W.cell? ⟨w.heap.size+1,0,none⟩=some (.slice (some ⟨bf,of,none⟩) s.frames.length d0)∧W.cell? ⟨bf,of+k*4,none⟩=some (.int .i64 f.f)∧W.cell? ⟨bf,of+k*4+1,none⟩=some (.int .i64 f.pc)∧W.cell? ⟨bf,of+k*4+2,none⟩=some ul∧W.cell? ⟨bf,of+k*4+3,none⟩=some us∧Below wr.heap.size wr W)
      (first | exact HS.out _ (Below.refl _ _) | exact HS.out _ (Below.refl _ _).drew | exact HS.out _ S1)
      (first
      | (go_at_call 72;refine(HC.out _ (Below.refl _ _).drew).mono ?_;rintro e W1 ⟨hb,rfl⟩;have S1:=Ce hb;clear hb))
     go_wp2_with fail
     exact⟨⟨k+1,by omega,by go_num,HN.out,JG.out.trans (S1.mono JG.out.size)⟩,by simp [intOf];omega⟩
  ·have HX:Hid (JD m t s=0):=AA (by
    unfold JD;rw [AY H8.out,show s.frames.length=k by omega,Pv.out])
   have n1:decide ((k:Int)<s.frames.length)=false:=decide_eq_false (by omega)
   go_wp2_with fail
   go_ret
   exact⟨EP.out,by rw [HX.out];rfl⟩
theorem uK (b B n c:Nat) (A:Option Addr) (vs:List Nat) (i ch:Nat) (w:World) (hc:w.cell? ⟨b,0,none⟩=some (.slice A n c)) (hn:n=vs.length) (hr:Row w B A (vs.map uv)) (hi:i<n) (hch:ch<256):
 Calls prog 123 #[.int .i64 i,.int .u8 ch,.pointer (some ⟨b,0,none⟩)] w fun e w'=>w=w'∧e= .returned (.bool (Dr (vs[i]?.getD 0) ch)):=by
 obtain⟨g,o,rfl,_,hcell⟩:=hr.word (j:=i) (by rw [←hn];exact hi)
 have HF:=AA (fun W=>OI (vs[i]?.getD 0) ch hch W)
 generalize vs[i]?.getD 0=v at*
 have hi0:(0:Int)≤i:=by omega
 clear hr hn
 go_enter func123,ntmps123
 go_wp2_with fail
 refine(HF.out _).mono ?_
 rintro e w' ⟨rfl,rfl⟩
 go_wp2_with fail
 go_ret
 exact⟨rfl,rfl⟩
theorem VD (A:Option Addr) (n c B:Nat) (vs:List Nat) (s:ByteArray) (w:World) (hn:n=vs.length) (hr:Row w B A (vs.map uv)) (hB:B≤w.heap.size) (h47:s.size≤140737488351232):
 Calls prog 101 #[.slice A n c,.string s] w fun e w'=>Below w.heap.size w w'∧e= .returned (.bool (EY vs s.data.toList)):=by
 have hsz:s.data.toList.length=s.size:=by simp
 by_cases h:n=s.size
 ·have HE:Hid (Fz (fun i c=>Rs (vs[i]?.getD 0) c) 0 s.data.toList=EY vs s.data.toList):=AA (by
   rw [Um vs 0 s.data.toList (by rw [hsz];omega)];rfl)
  have hone: ∀(w1:World),w1.cell? ⟨w.heap.size,0,none⟩=some (.slice A n c)→Row w1 B A (vs.map uv)→w.heap.size+1=w1.heap.size→Calls prog 122 #[.string s,.func (.func 123) #[] #[.pointer (some ⟨w.heap.size,0,none⟩)]] w1 fun e w'=>Below w1.heap.size w1 w'∧e= .returned (.bool (EY vs s.data.toList)):=fun w1 hc1 hr1 hs1=>by
   rw [←HE.out]
   refine kR s h47 [.pointer (some ⟨w.heap.size,0,none⟩)] w1 (fun i c=>Rs (vs[i]?.getD 0) c) (fun i W hi _ hW=> ?_)
   have hc2:W.cell? ⟨w.heap.size,0,none⟩=some (.slice A n c):=by rw [hW.cell (show w.heap.size<w1.heap.size by omega)];exact hc1
   exact uK w.heap.size B n c A vs i _ W hc2 hn (hr1.below (hW.mono (show B≤w1.heap.size by omega))) (by omega) (UInt8.toNat_lt _)
  have Ir:=AA hone;clear hone HE
  have Hr:=AA hr;clear hr
  have Hn:=AA hn;clear hn hsz
  go_enter func101,ntmps101
  go_wp2_with fail
  rw [show s.size=n from h.symm]
  refine(Ir.out _ (by exact(AQ.new w 31 [_]).cell 0) (Hr.out.below' ((Below.refl _ _).alloc (Nat.le_refl _) _) hB) (by simp)).mono ?_
  rintro e w1 ⟨h1,rfl⟩
  go_wp2_with fail
  go_ret
  exact⟨(Below.refl _ _).trans (((Below.refl _ _).alloc (Nat.le_refl _) _).trans (h1.mono (by simp))),rfl⟩
 ·have HF:Hid (EY vs s.data.toList=false):=AA (bI _ _ (by rw [hsz];omega))
  have hne:((n:Int)==s.size)=false:=by simp;omega
  clear hr hn hsz
  go_enter func101,ntmps101
  go_wp2_with fail
  go_ret
  exact⟨(Below.refl _ _).alloc (Nat.le_refl _) _,by rw [HF.out];rfl⟩
end Go.Proofs.YtlagonfamllgjaaGreatDoor
