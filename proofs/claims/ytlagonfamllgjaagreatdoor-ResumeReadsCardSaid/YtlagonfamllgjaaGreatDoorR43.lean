/- Part 43 of the proof: ResG -/
import Derived.Test.YtlagonfamllgjaaGreatDoorR29
import Derived.Test.YtlagonfamllgjaaGreatDoorR42
namespace Go.Proofs.YtlagonfamllgjaaGreatDoor
set_option linter.unusedVariables false
set_option linter.unusedSimpArgs false
set_option maxRecDepth 100000
set_option maxHeartbeats 4000000
open Go.RowKit Tryz
def zeroV:FU:=⟨[],[],[],0,0,[],0,0⟩
def o8:List Value:= [.slice none 0 0,.slice none 0 0,.slice none 0 0,.int .i64 0,.int .i8 0,.slice none 0 0,.int .i8 0,.int .i64 0]
theorem VH (W:World) (lo hi:Nat):K8.R W lo hi o8 zeroV:=
 DR.2 ⟨_,_,_,_,rfl,Fp,Fp,Fp,⟨by decide,by decide⟩,⟨by decide,by decide⟩,Fp,⟨by decide,by decide⟩,⟨by decide,by decide⟩⟩
theorem QF:aL zeroV:=⟨Nat.zero_le _,fun f h=>(by cases h),Nat.zero_le _,Nat.zero_le _,fun p h=>(by cases h),Nat.zero_le _⟩
def o9 (m:AP) (l:List UInt8):FU×Int×Int:=match FE m with
 | .inl q=>(zeroV,q.1,0)
 | .inr _=>match Dr l with
  | .inl x=>(zeroV,x.1,x.2)
  | .inr s=>if(DT m s).1=0 then(s,0,0) else(zeroV,(DT m s).1,(DT m s).2)
theorem AAq (m:AP) (l:List UInt8):aL (o9 m l).1:=by
 unfold o9
 split
 ·exact QF
 ·split
  ·exact QF
  ·rename_i s hs
   split
   ·exact TM hs
   ·exact QF
theorem vD {m:AP} {l:List UInt8} {w w':World} {e:Ending} (h:nM m l w e w'):Below w.heap.size w w'∧ ∃ds:List Value,e= .returned (.tuple #[.agg ds.toArray,.int .i64 (o9 m l).2.1,.int .i64 (o9 m l).2.2])∧K8.R w' w.heap.size w'.heap.size ds (o9 m l).1:=by
 obtain⟨hb,h⟩:=h
 refine⟨hb,?_⟩
 unfold o9
 split at h
 ·rename_i q hq
  rw [hq]
  exact⟨o8,h,VH _ _ _⟩
 ·rename_i t ht
  rw [ht]
  dsimp only
  split at h
  ·rename_i x hx
   rw [hx]
   exact⟨o8,h,VH _ _ _⟩
  ·rename_i s hs
   rw [hs]
   dsimp only
   split at h
   ·rename_i h0
    rw [if_pos h0]
    exact h
   ·rename_i h0
    rw [if_neg h0]
    exact⟨o8,h,VH _ _ _⟩
set_option maxHeartbeats 16000000 in
theorem iN (cs:List Value) (hi:Nat) (m:AP) (A:Option Addr) (c:Nat) (l:List UInt8) (w:World) (hm:Db.R w 0 hi cs m) (hb:(Rd.u8.sl false).R w 0 hi [.slice A l.length c] l) (hhi:hi≤w.heap.size) (hin:je m) (hl:l.length≤140737488351232)
 (htab: ∀w',Below w.heap.size w w'→Lib.TabIs prog w' "strings.asciiSpace" .u8 Lib.asciiSpaceTab):
 Calls prog 4 #[.agg cs.toArray,.slice A l.length c] w fun e w'=>Below w.heap.size w w'∧e= .returned (.bool true):=by
 have HM:=AA hm;have bC:=AA hb;have CJ:=AA hhi;have HIM:=AA hin;have HT:=AA htab;have tN:=AA (iM hm)
 obtain⟨v1,v2,v3,v4,v5,v6,rfl,_⟩:=Av.1 hm
 have HWK:Hid (∀W,Below w.heap.size w W→Calls prog 6 #[] W fun e w'=>Below w.heap.size w w'∧e= .returned (.bool true)):=AA (fun W hW=>(iI W (fun w' hw'=>htab w' (hW.trans (hw'.mono hW.size)))).mono (fun e w' h=>⟨hW.trans (h.1.mono hW.size),h.2⟩))
 clear hm hb hhi hin htab
 go_enter func4,ntmps4
 go_upto_region 1 with fail
 generalize hw1:w.alloc (.cells #[v1,v2,v3,.int .i64 m.first,.int .i64 m.most,v4,v5,v6] 29)=w1
 obtain⟨hb1,hx1⟩:=EK hw1
 have Fz:=AA hx1;have HB1:=AA hb1
 clear hw1 hb1 hx1
 go_wp2_with (first | refine ou Fz.out rfl _ rfl rfl ?_)
 refine(Xa _ hi m w1 (Rd.below HM.out HB1.out CJ.out) (Nat.le_trans CJ.out HB1.out.size) HIM.out).mono ?_
 rintro e w2 ⟨hb2,n1,rfl,hc1⟩
 have Hc1:=AA hc1
 have Fz:=AA (Fz.out.below hb2 Fz.out.lt)
 have HB2:=AA (HB1.out.trans (hb2.mono HB1.out.size))
 clear hb2 hc1 HB1
 go_wp2_with fail
 refine(Xd _ _).mono ?_
 rintro e w' ⟨rfl,rfl⟩
 by_cases hn:n1≤2147483647
 case neg=>
  have hd:decide ((n1:Int)>2147483647)=true:=decide_eq_true (by omega)
  go_wp2_with fail
  refine(HWK.out w2 HB2.out).mono ?_
  rintro e w3 ⟨hb3,rfl⟩
  have HB3:=AA hb3
  clear hb3
  go_wp2_with fail
  go_ret
  exact⟨HB3.out,rfl⟩
 have gq:Hid (BU m≤2147483647):=AA (Hc1.out.iff.1 hn)
 have hd:decide ((n1:Int)>2147483647)=false:=decide_eq_false (by omega)
 clear Hc1 hn
 go_wp2_with fail
 refine(Xd _ _).mono ?_
 rintro e w' ⟨rfl,rfl⟩
 by_cases hlb:l.length≤2147483647
 case neg=>
  have hd2:decide ((l.length:Int)>2147483647)=true:=decide_eq_true (by omega)
  go_wp2_with fail
  refine(HWK.out w2 HB2.out).mono ?_
  rintro e w3 ⟨hb3,rfl⟩
  have HB3:=AA hb3
  clear hb3
  go_wp2_with fail
  go_ret
  exact⟨HB3.out,rfl⟩
 have hd2:decide ((l.length:Int)>2147483647)=false:=decide_eq_false (by omega)
 go_wp2_with fail
 clear hd hd2
 refine(XF A _ c hi l w2 (Rd.below bC.out HB2.out CJ.out) (Nat.le_trans CJ.out HB2.out.size) (by omega)).mono ?_
 rintro e w3 ⟨A3,c3,rfl,hr3,hb3⟩
 have dH:=AA hr3
 have Fz:=AA (Fz.out.below hb3 Fz.out.lt)
 have HB3:=AA (HB2.out.trans (hb3.mono HB2.out.size))
 clear hr3 hb3 HB2
 go_wp2_with (refine ou Fz.out rfl _ rfl rfl ?_)
 refine(eP _ hi m w3 (Rd.below HM.out HB3.out CJ.out) (Nat.le_trans CJ.out HB3.out.size) (jw gq.out)).mono ?_
 rintro e w4 ⟨cs',rfl,hr4,hb4⟩
 have uy:=AA (Rd.more _ (Nat.zero_le _) (Nat.le_refl _) hr4)
 have HI3:=AA (Rd.below dH.out hb4 (Nat.le_refl _))
 have AFm:=hb4.size
 have Fz:=AA (Fz.out.below hb4 Fz.out.lt)
 have Ct:=AA (HB3.out.trans (hb4.mono HB3.out.size))
 clear hr4 hb4 dH HB3
 have hrow3:=(Rd.Gj HI3.out).2
 have hc3:l.length≤c3:=by obtain⟨A',c',e,h,_⟩:=HI3.out;injection e with e;injection e with e1 e2 e3;omega
 have h_:=AA hrow3
 clear hrow3
 go_wp2_with fail
 refine(dD cs' w4.heap.size m A3 c3 w3.heap.size l w4 uy.out (Nat.le_refl _) gq.out tN.out h_.out AFm hc3 hl (fun w' hw'=>HT.out w' (Ct.out.trans (hw'.mono Ct.out.size))) (fun x hx=>TL hx) (fun s hs=>(TM hs).AFl)
  (fun g w5 hrd hrw hBg=>by
   have:=nX g w3.heap.size A3 c3 l (posR (Rm l)) w5 hrd hrw hBg hl hc3
   rw [show Ak (posR (Rm l)) (Cx l)=LG l from Cc _ _] at this
   exact this)).mono ?_
 rintro e w5 iY
 obtain⟨hb5,ds,rfl,hs5⟩:=vD iY
 have HSM:=AA (AAq m l)
 obtain⟨sv,ev,av,hrr⟩: ∃sv ev av,o9 m l=(sv,ev,av):=⟨_,_,_,rfl⟩
 rw [hrr] at hs5 HSM
 have HRR:=AA hrr
 simp only [hrr]
 have Dv:=AA (Ct.out.trans (hb5.mono Ct.out.size))
 have Fz:=AA (Fz.out.below hb5 Fz.out.lt)
 have xH:=AA (Row.below' h_.out hb5 AFm)
 have HD5:=AA hs5
 obtain⟨p0,p1,p2,p5,rfl,s0,s1,s2,_,_,s5,_,_⟩:=DR.1 hs5
 obtain⟨B0,d0,rfl⟩:=AJ s0
 obtain⟨B1,d1,rfl⟩:=AJ s1
 obtain⟨B2,d2,rfl⟩:=AJ s2
 obtain⟨B5,d5,rfl⟩:=AJ s5
 have hz45:=hb5.size
 clear iY hrr hs5 hb5 s0 s1 s2 s5 h_ Ct
 go_upto_region 5 with(refine Ed rfl _ _ _ rfl _ _ rfl rfl ?_ ?_ ?_ ?_;(try focus kernel_rfl);(try focus rfl);(try focus kernel_rfl))
 generalize Xy:w5.alloc _=w6
 obtain⟨hb6,hx6⟩:=EK Xy
 obtain⟨qb,hqb⟩: ∃qb,qb=w5.heap.size:=⟨_,rfl⟩
 rw [←hqb] at hx6⊢
 have UE:=AA hx6
 have EL:Hid (Below w.heap.size w w6):=AA (Dv.out.trans (hb6.mono Dv.out.size))
 have Fz:=AA (Fz.out.below hb6 Fz.out.lt)
 have HD6:=AA (K8.more (Nat.zero_le _) hb6.size (Rd.below HD5.out hb6 (Nat.le_refl _)))
 have xI:=AA (Row.below' xH.out hb6 (by omega))
 have AFn:=AA ((Rd.Gj (Rd.below bC.out EL.out CJ.out)).2)
 clear Xy hb6 hx6 hqb HD5 xH Dv
 go_wp2_with fail
 refine(XQ A3 A _ _ c3 c _ _ w6 l l rfl rfl hl xI.out AFn.out).mono ?_
 rintro e w7 ⟨⟨k,rfl⟩,rfl⟩
 rw [decide_eq_true rfl]
 have TP:Hid (Below w.heap.size w (w6.drewN k)):=AA (below_drewN EL.out k)
 have Fz:Hid (AQ (w6.drewN k) _ _ _):=Fz
 have UE:Hid (AQ (w6.drewN k) _ _ _):=UE
 have HD7:Hid (K8.R (w6.drewN k) 0 (w6.drewN k).heap.size _ sv):=AA (Rd.below HD6.out (below_drewN (Below.refl _ _) k) (Nat.le_refl _))
 clear EL HD6 xI AFn
 generalize w6.drewN k=w7 at*
 go_wp2_with (refine ou Fz.out rfl _ rfl rfl ?_)
 refine(S9 _ hi m w7 (Rd.below HM.out TP.out CJ.out) (Nat.le_trans CJ.out TP.out.size) gq.out tN.out).mono ?_
 rintro e w8 ⟨PE,hv8⟩
 have Vq:Hid (Below w.heap.size w w8):=AA (TP.out.trans (PE.mono TP.out.size))
 have Fz:=AA (Fz.out.below PE Fz.out.lt);have UE:=AA (UE.out.below PE UE.out.lt)
 have yI:=AA (K8.more (Nat.zero_le _) PE.size (Rd.below HD7.out PE (Nat.le_refl _)))
 clear PE TP HD7
 cases hvv:FE m with
 | inl q=>
  rw [hvv] at hv8
  dsimp only at hv8
  obtain rfl:=hv8
  have hr0:(zeroV,q.1,(0:Int))=(sv,ev,av):=by rw [←HRR.out];unfold o9;rw [hvv]
  injection hr0 with h1 h2
  injection h2 with h2 h3
  subst h1 h2 h3
  have m1:(q.1 !=0)=true:=bne_iff_ne.2 (J8 hvv)
  have m2:(q.1==q.1)=true:=by simp
  clear hvv HRR
  have FQ:=Vq
  have dJ:Hid (Calls prog 12 _ w8 _):=AA (MP _ o8 w8.heap.size 0 zeroV zeroV w8 yI.out (VH _ _ _) (Nat.le_refl _) (Nat.zero_le _) QF.le)
  unfold o8 at dJ
  go_wp2_with (first | refine ny UE.out rfl _ rfl rfl ?_)
  refine dJ.out.mono ?_
  rintro e WA ⟨R7,b,rfl,hbt⟩
  obtain rfl:b=true:=hbt.2 rfl
  have LM:=AA (FQ.out.trans (R7.mono FQ.out.size))
  clear R7 hbt dJ
  go_wp2_with fail
  refine(HWK.out WA LM.out).mono ?_
  rintro e WB ⟨n_,rfl⟩
  have iw:=AA n_
  clear n_
  go_wp2_with fail
  go_ret
  exact⟨iw.out,rfl⟩
 | inr t=>
  rw [hvv] at hv8
  dsimp only at hv8
  obtain⟨At,ct,rfl,_⟩:=hv8
  have AFo:=AA ((Rd.Gj (Rd.below bC.out Vq.out CJ.out)).2)
  have hlc:l.length≤c:=by obtain⟨A',c',e,h,_⟩:=bC.out;injection e with e;injection e with e1 e2 e3;omega
  go_wp2_with fail
  refine(nZ A c hi l w8 AFo.out (Nat.le_trans CJ.out Vq.out.size) hlc hl).mono ?_
  rintro e w9 ⟨aC,hv9⟩
  have Zy:Hid (Below w.heap.size w w9):=AA (Vq.out.trans (aC.mono Vq.out.size))
  have Fz:=AA (Fz.out.below aC Fz.out.lt);have UE:=AA (UE.out.below aC UE.out.lt)
  have HD9:=AA (K8.more (Nat.zero_le _) aC.size (Rd.below yI.out aC (Nat.le_refl _)))
  clear Vq yI AFo
  cases W9:Dr l with
  | inl x=>
   rw [W9] at hv9
   dsimp only at hv9
   obtain rfl:=hv9
   have hr0:(zeroV,x.1,x.2)=(sv,ev,av):=by rw [←HRR.out];unfold o9;rw [hvv,W9]
   injection hr0 with h1 h2
   injection h2 with h2 h3
   subst h1 h2 h3
   have m0:(x.1==0)=false:=beq_eq_false_iff_ne.2 (TL W9)
   have m1:(x.1 !=0)=true:=bne_iff_ne.2 (TL W9)
   have m2:(x.1==x.1)=true:=by simp
   have m3:(x.2==x.2)=true:=by simp
   unfold Qe
   clear hvv W9 HRR aC
   go_upto_region 11 with(refine Ed rfl _ _ _ rfl _ _ rfl rfl ?_ ?_ ?_ ?_;(try focus kernel_rfl);(try focus rfl);(try focus kernel_rfl))
   generalize hwa:w9.alloc _=wa
   obtain⟨hba,hxa⟩:=EK hwa
   have tq:Hid (Below w.heap.size w wa):=AA (Zy.out.trans (hba.mono Zy.out.size))
   have UE:=AA (UE.out.below hba UE.out.lt)
   have HDa:=AA (K8.more (Nat.zero_le _) hba.size (Rd.below HD9.out hba (Nat.le_refl _)))
   clear hwa hba hxa Zy HD9
   have FQ:=tq
   have dJ:Hid (Calls prog 12 _ wa _):=AA (MP _ o8 wa.heap.size 0 zeroV zeroV wa HDa.out (VH _ _ _) (Nat.le_refl _) (Nat.zero_le _) QF.le)
   unfold o8 at dJ
   go_wp2_with (first | refine ny UE.out rfl _ rfl rfl ?_)
   refine dJ.out.mono ?_
   rintro e WA ⟨R7,b,rfl,hbt⟩
   obtain rfl:b=true:=hbt.2 rfl
   have LM:=AA (FQ.out.trans (R7.mono FQ.out.size))
   clear R7 hbt dJ
   go_wp2_with fail
   refine(HWK.out WA LM.out).mono ?_
   rintro e WB ⟨n_,rfl⟩
   have iw:=AA n_
   clear n_
   go_wp2_with fail
   go_ret
   exact⟨iw.out,rfl⟩
  | inr s=>
   rw [W9] at hv9
   dsimp only at hv9
   obtain⟨es,rfl,hs9⟩:=hv9
   have HSI:=AA (TM W9)
   have oz:=AA hs9
   obtain⟨q0,q1,q2,q5,rfl,s0,s1,s2,_,_,s5,_,_⟩:=DR.1 hs9
   obtain⟨C0,f0,rfl⟩:=AJ s0
   obtain⟨C1,f1,rfl⟩:=AJ s1
   obtain⟨C2,f2,rfl⟩:=AJ s2
   obtain⟨C5,f5,rfl⟩:=AJ s5
   clear hs9 s0 s1 s2 s5 aC
   go_upto_region 11 with(refine Ed rfl _ _ _ rfl _ _ rfl rfl ?_ ?_ ?_ ?_;(try focus kernel_rfl);(try focus rfl);(try focus kernel_rfl))
   generalize hwa:w9.alloc _=wa
   obtain⟨hba,hxa⟩:=EK hwa
   obtain⟨tb,htb⟩: ∃tb,tb=w9.heap.size:=⟨_,rfl⟩
   rw [←htb] at hxa⊢
   have xC:=AA hxa
   have tq:Hid (Below w.heap.size w wa):=AA (Zy.out.trans (hba.mono Zy.out.size))
   have Fz:=AA (Fz.out.below hba Fz.out.lt);have UE:=AA (UE.out.below hba UE.out.lt)
   have HDa:=AA (K8.more (Nat.zero_le _) hba.size (Rd.below HD9.out hba (Nat.le_refl _)))
   have Ia:=AA (K8.more (Nat.zero_le _) hba.size (Rd.below oz.out hba (Nat.le_refl _)))
   clear hwa hba hxa htb Zy HD9 oz
   go_wp2_with (first | refine ou Fz.out rfl _ rfl rfl ?_ | refine xB xC.out rfl _ rfl rfl ?_)
   refine(g_ _ _ wa.heap.size m s wa (Db.more (Nat.le_refl _) (Nat.le_trans CJ.out tq.out.size) (Rd.below HM.out tq.out CJ.out)) Ia.out (Nat.le_refl _) gq.out tN.out HSI.out.AFl).mono ?_
   rintro e wb ⟨hbb,rfl⟩
   have HBb:Hid (Below w.heap.size w wb):=AA (tq.out.trans (hbb.mono tq.out.size))
   have UE:=AA (UE.out.below hbb UE.out.lt);have xC:=AA (xC.out.below hbb xC.out.lt)
   have HDb:=AA (K8.more (Nat.zero_le _) hbb.size (Rd.below HDa.out hbb (Nat.le_refl _)))
   have HSb:=AA (K8.more (Nat.zero_le _) hbb.size (Rd.below Ia.out hbb (Nat.le_refl _)))
   clear hbb tq HDa Ia
   have hr0:(if(DT m s).1=0 then(s,(0:Int),(0:Int)) else(zeroV,(DT m s).1,(DT m s).2))=(sv,ev,av):=by rw [←HRR.out];unfold o9;rw [hvv,W9]
   clear hvv W9 HRR
   generalize DT m s=fr at*
   by_cases h0:fr.1=0
   ·rw [if_pos h0] at hr0
    injection hr0 with h1 h2
    injection h2 with h2 h3
    subst h1 h2 h3
    have m0:(fr.1 !=0)=false:=by rw [bne_eq_false_iff_eq];exact h0
    clear h0
    have FQ:=HBb
    have dJ:Hid (Calls prog 12 _ wb _):=AA (MP _ _ wb.heap.size wb.heap.size s s wb HDb.out HSb.out (Nat.le_refl _) (Nat.le_refl _) HSI.out.le)
    go_wp2_with (first | refine ny UE.out rfl _ rfl rfl ?_ | refine ny xC.out rfl _ rfl rfl ?_)
    refine dJ.out.mono ?_
    rintro e WA ⟨R7,b,rfl,hbt⟩
    obtain rfl:b=true:=hbt.2 rfl
    have LM:=AA (FQ.out.trans (R7.mono FQ.out.size))
    clear R7 hbt dJ
    go_wp2_with fail
    refine(HWK.out WA LM.out).mono ?_
    rintro e WB ⟨n_,rfl⟩
    have iw:=AA n_
    clear n_
    go_wp2_with fail
    go_ret
    exact⟨iw.out,rfl⟩
   ·rw [if_neg h0] at hr0
    injection hr0 with h1 h2
    injection h2 with h2 h3
    subst h1 h2 h3
    have m0:(fr.1 !=0)=true:=bne_iff_ne.2 h0
    have m2:(fr.1==fr.1)=true:=by simp
    have m3:(fr.2==fr.2)=true:=by simp
    clear h0
    have FQ:=HBb
    have dJ:Hid (Calls prog 12 _ wb _):=AA (MP _ o8 wb.heap.size 0 zeroV zeroV wb HDb.out (VH _ _ _) (Nat.le_refl _) (Nat.zero_le _) QF.le)
    unfold o8 at dJ
    go_wp2_with (first | refine ny UE.out rfl _ rfl rfl ?_)
    refine dJ.out.mono ?_
    rintro e WA ⟨R7,b,rfl,hbt⟩
    obtain rfl:b=true:=hbt.2 rfl
    have LM:=AA (FQ.out.trans (R7.mono FQ.out.size))
    clear R7 hbt dJ
    go_wp2_with fail
    refine(HWK.out WA LM.out).mono ?_
    rintro e WB ⟨n_,rfl⟩
    have iw:=AA n_
    clear n_
    go_wp2_with fail
    go_ret
    exact⟨iw.out,rfl⟩
end Go.Proofs.YtlagonfamllgjaaGreatDoor
