/- Part 22 of the proof: RefH RefI RefJ -/
import Derived.Lib.SlBytesConst
import Derived.Test.YtebgikflpgcnlaaGreatDoorP15
import Derived.Test.YtebgikflpgcnlaaGreatDoorP21
namespace Go.Proofs.YtebgikflpgcnlaaGreatDoor
set_option linter.unusedVariables false
set_option linter.unusedSimpArgs false
set_option maxRecDepth 100000
set_option maxHeartbeats 4000000
open Go.RowKit Tryz
theorem ACn {m:AQ} {k:Nat} {d:EZ} (hd:m.dat[k]?=some d) (h:Oz m k=0):(0≤d.at_∧d.at_≤m.first*4096)∧(d.b.length:Int)≤m.first*4096-d.at_:=by
 unfold Oz at h
 rw [hd] at h
 obtain⟨a,b⟩:=AL h
 obtain⟨_,c⟩:=AL b
 obtain⟨c,_⟩:=AL c
 have key: ∀ {b:Bool} {e:Int},e≠0→Ae b e=0→b=true:=fun {b e} he h=>by cases b with | true=>rfl | false=>exact absurd h he
 exact⟨of_decide_eq_true (key (by decide) a),of_decide_eq_true (key (by decide) c)⟩
def ahS (m:AQ) (k:Nat):ByteArray:=match k with
 | 0=>⟨#[]⟩
 | i+1=>match m.AO[i]? with
  | none=>⟨#[]⟩
  | some y=>y.n
theorem AAR {m:AQ} {k:Nat} {s:ByteArray} (hk:k<m.AO.length):aD s (ahS m k) (decide (k=0))=Ws m.AO k s:=by
 unfold aD Ws ahS
 cases k with
 | zero=>rfl
 | succ i=>
  have hi:m.AO[i]?=some m.AO[i]:=List.getElem?_eq_getElem (by omega)
  rw [if_neg (by simp),if_neg (by omega)]
  simp only [show i+1-1=i from rfl,hi]
theorem aF (cs:List Value) (hi:Nat) (m:AQ) (w:World) (h:IZ.R w 0 hi cs m) (hhi:hi≤w.heap.size) (hp0:0≤m.first) (hp1:m.first≤64) (hfn:m.fns.length≤128) (hbd: ∀d∈m.dat,d.b.length≤2147483647):
 Calls prog 176 #[.agg cs.toArray] w fun e w'=>Below w.heap.size w w'∧e= .returned (.int .i64 (EO (KW m) (NZ m))):=by
 obtain⟨v1,v2,v3,v4,v5,v6,rfl,_,_,_,_,_,h5,h6,h7⟩:=DF.1 h
 obtain⟨A5,c5,rfl⟩:=AU h5
 obtain⟨A6,c6,rfl⟩:=AU h6
 obtain⟨A7,c7,rfl⟩:=AU h7
 have pF:=AA hbd;have H6:=AA h6;have H7:=AA h7;have OG:=AA hhi
 clear h h5 h6 h7 hhi hbd
 go_enter func176,ntmps176
 go_upto_region 1 with fail
 generalize hw1:w.alloc (.cells #[v1,v2,v3,.int .i64 m.first,.int .i64 m.most,.slice A5 m.fns.length c5,.slice A6 m.dat.length c6,.slice A7 m.AO.length c7] 29)=w1
 obtain⟨hb1,hx1⟩:=eX hw1
 have HB1:=AA hb1;have Uk:=AA hx1
 clear hw1 hb1 hx1
 have q6:=Uk.out.q 6 rfl
 by_cases hn:m.dat.length≤64
 case neg=>
  have hd:decide (64<m.dat.length)=true:=decide_eq_true (by omega)
  have hdi:decide ((64:Int)<(m.dat.length:Int))=true:=decide_eq_true (by omega)
  have HE:Hid (EO (KW m) (NZ m)=20):=AA (by unfold KW;rw [ET (decide_eq_false hn)];rfl)
  clear hn
  go_wp2_with fail
  go_ret
  exact⟨HB1.out,by rw [HE.out];rfl⟩
 have hd:decide (64<m.dat.length)=false:=decide_eq_false (by omega)
 have hdi:decide ((64:Int)<(m.dat.length:Int))=false:=decide_eq_false (by omega)
 have ZK:Hid (KW m=Aq m.dat.length (Oz m)):=AA (by unfold KW;rw [D_ (decide_eq_true hn),AY rfl])
 go_wp2_with fail
 clear q6
 go_loopw [3,4] (fun i _ wr=> ∃k:Nat,i= .int .i64 k∧Qa m.dat.length (Oz m) k∧Below w1.heap.size w1 wr) (fun i _ _=>m.dat.length-(intOf i).toNat)
 case atStart=>exact⟨0,rfl,⟨Nat.zero_le _,rfl⟩,Below.refl _ _⟩
 case round=>
  obtain⟨k,rfl,hg,hbr⟩:=hrel
  have HG:=AA hg
  have xR:=AA hbr
  have Eo:Hid (Below w.heap.size w wr):=AA (HB1.out.trans (hbr.mono HB1.out.size))
  have Ye:=AA (Uk.out.below hbr Uk.out.lt)
  have q6:=Ye.out.q 6 rfl
  clear hg hbr
  by_cases hlt:k<m.dat.length
  ·obtain⟨x,hx⟩: ∃x,m.dat[k]?=some x:=⟨_,List.getElem?_eq_getElem hlt⟩
   obtain⟨b,o,Sb,Rl,eA,_,hbb,d0,d1,b63,_⟩:=Jd H6.out hx
   subst eA
   have lb:b<w.heap.size:=Nat.lt_of_lt_of_le hbb OG.out
   have e0:=(Eo.out.cell lb (p:=⟨b,o+k*2,none⟩)).trans d0
   have e1:=(Eo.out.cell lb (p:=⟨b,o+k*2+1,none⟩)).trans d1
   have hk0:(0:Int)≤k:=by omega
   have hk1:(k:Int)<m.dat.length:=by omega
   have HXX:=AA hx
   have HDE:Hid (Oz m k=EO (Ae (decide (0≤x.at_∧x.at_≤m.first*4096)) 17) (EO (if k=0 then 0 else match m.dat[k-1]? with | none=>0 | some y=>Ae (decide (y.at_+y.b.length<x.at_)) 18) (EO (Ae (decide ((x.b.length:Int)≤m.first*4096-x.at_)) 13) (Ae (decide (0<x.b.length)) 17)))):=AA (by unfold Oz;rw [hx];rfl)
   have jB:Hid (∀e:Int,e≠0→Oz m k=e→EO (KW m) (NZ m)=e):=AA (fun e he h=>by rw [ZK.out,HG.out.hit hlt (by rw [h];exact he),h,Dk he])
   unfold Rd.Ej at b63
   clear hx d0 d1 hbb
   go_upto_region 7 with fail
   generalize hw2:wr.alloc (.cells #[.int .i64 x.at_,.slice Sb x.b.length Rl] 59)=w2
   have hb2:Below wr.heap.size wr w2:=by rw [←hw2];exact(Below.refl _ _).alloc (Nat.le_refl _) _
   have ZC:Hid (AV w2 wr.heap.size 59 [.int .i64 x.at_,.slice Sb x.b.length Rl]):=AA (by rw [←hw2];exact AV.new wr 59 _)
   have RG:=AA (Ye.out.below hb2 Ye.out.lt)
   have HB2:Hid (Below w.heap.size w w2):=AA (Eo.out.trans (hb2.mono Eo.out.size))
   have vw:Hid (Below w1.heap.size w1 w2):=AA (xR.out.trans (hb2.mono xR.out.size))
   clear hw2 hb2 e0 e1 q6
   have r0:=ZC.out.q 0 rfl
   have r1:=ZC.out.q 1 rfl
   have q3:=RG.out.q 3 rfl
   have q6:=RG.out.q 6 rfl
   by_cases hin:0≤x.at_∧x.at_≤m.first*4096
   case neg=>
    have HE:=AA (jB.out 17 (by decide) (by rw [HDE.out,ET (decide_eq_false hin)];rfl))
    have key:decide (x.at_<0)=true∨(decide (x.at_<0)=false∧decide (m.first*4096<x.at_)=true):=by
     simp only [decide_eq_true_eq,decide_eq_false_iff_not];omega
    clear hin
    rcases key with k1 | ⟨k1,k2⟩
    all_goals
     go_wp2_with fail
     go_ret
     exact⟨HB2.out,by rw [HE.out];rfl⟩
   obtain⟨hin0,hin1⟩:=hin
   have AAS:=AA (HDE.out.trans ((congrArg (EO · _) (D_ (decide_eq_true ⟨hin0,hin1⟩))).trans (AY rfl)))
   clear HDE
   have k1:decide (x.at_<0)=false:=decide_eq_false (by omega)
   have k2:decide (m.first*4096<x.at_)=false:=decide_eq_false (by omega)
   have hbl:x.b.length≤2147483647:=pF.out x (List.mem_of_getElem? HXX.out)
   go_upto_region 9 with fail
   have key:(decide (0<k)=false∧decide ((0:Int)<k)=false∧k=0)∨(∃y,decide (0<k)=true∧decide ((0:Int)<k)=true∧0<k∧m.dat[k-1]?=some y∧Oz m (k-1)=0):=by
    by_cases h0:k=0
    ·exact .inl ⟨decide_eq_false (by omega),decide_eq_false (by omega),h0⟩
    ·exact .inr ⟨_,decide_eq_true (by omega),decide_eq_true (by omega),by omega,List.getElem?_eq_getElem (by omega),Aw HG.out.2 _ (by omega)⟩
   rcases key with⟨z0,z0i,AFA⟩ | ⟨y,z0,z0i,hkp,hy,hdy⟩
   case' inl=>
    have AAT:=AA (AAS.out.trans ((congrArg (EO · _) (if_pos AFA)).trans (AY rfl)))
    clear AFA AAS
    go_quiet (fail)
    generalize hw3:w2.drewN _=w3
    have HD3:Hid (∃nn,w3=w2.drewN nn):=AA ⟨_,hw3.symm⟩
    clear hw3 z0 z0i
   case' inr=>
    obtain⟨b',o',A_y,c_y,eB,_,_,f0,f1,y63,_⟩:=Jd H6.out hy
    injection eB with eB;injection eB with eB1 eB2 _
    subst eB1 eB2
    obtain⟨⟨y0,y1⟩,y2⟩:=ACn hy hdy
    have g0:=(HB2.out.cell lb (p:=⟨b,o+(k-1)*2,none⟩)).trans f0
    have g1:=(HB2.out.cell lb (p:=⟨b,o+(k-1)*2+1,none⟩)).trans f1
    have hwk:IntKind.i64.wrap ((k:Int)-1)=(k:Int)-1:=IntWalk.i64_in _ (by omega)
    have hk3:(0:Int)≤(k:Int)-1:=by omega
    have hk4:(k:Int)-1<m.dat.length:=by omega
    have hkn:((k:Int)-1).toNat=k-1:=by omega
    have hws:IntKind.i64.wrap (y.at_+(y.b.length:Int))=y.at_+(y.b.length:Int):=IntWalk.i64_in _ (by omega)
    have HDY:Hid (Oz m k=EO (Ae (decide (y.at_+y.b.length<x.at_)) 18) (EO (Ae (decide ((x.b.length:Int)≤m.first*4096-x.at_)) 13) (Ae (decide (0<x.b.length)) 17))):=AA (by rw [AAS.out,if_neg (by omega),hy])
    clear AAS f0 f1 hy hdy y63
    by_cases hov:y.at_+(y.b.length:Int)<x.at_
    case' neg=>
     have ho:decide (x.at_≤y.at_+(y.b.length:Int))=true:=decide_eq_true (by omega)
     have HE:=AA (jB.out 18 (by decide) (by rw [HDY.out,ET (decide_eq_false hov)];rfl))
     clear hov
     go_quiet (fail)
     clear hwk hws
     go_wp2_with fail
     go_ret
     exact⟨below_drewN HB2.out _,by rw [HE.out];rfl⟩
    case' pos=>
     have ho:decide (x.at_≤y.at_+(y.b.length:Int))=false:=decide_eq_false (by omega)
     have AAT:=AA (HDY.out.trans ((congrArg (EO · _) (D_ (decide_eq_true hov))).trans (AY rfl)))
     clear hov HDY
     go_quiet (fail)
     clear hwk hws
     generalize hw3:w2.drewN _=w3
     have HD3:Hid (∃nn,w3=w2.drewN nn):=AA ⟨_,hw3.symm⟩
     clear hw3 z0 z0i ho g0 g1 hk3 hk4 hkn y0 y1 y2
   all_goals
    obtain⟨nn,hnn⟩:=HD3.out
    have HB3:Hid (Below w.heap.size w w3):=AA (by rw [hnn];exact below_drewN HB2.out _)
    have AAO:Hid (Below w1.heap.size w1 w3):=AA (by rw [hnn];exact below_drewN vw.out _)
    have r0:w3.cell? ⟨wr.heap.size,0,none⟩=some (.int .i64 x.at_):=by rw [hnn];exact r0
    have r1:w3.cell? ⟨wr.heap.size,1,none⟩=some (.slice Sb x.b.length Rl):=by rw [hnn];exact r1
    have q3:w3.cell? ⟨w.heap.size,3,none⟩=some (.int .i64 m.first):=by rw [hnn];exact q3
    clear hnn q6
    by_cases hb1:(x.b.length:Int)≤m.first*4096-x.at_
    case neg=>
     have ho:decide (m.first*4096-x.at_<(x.b.length:Int))=true:=decide_eq_true (by omega)
     have HE:=AA (jB.out 13 (by decide) (by rw [AAT.out,ET (decide_eq_false hb1)];rfl))
     clear hb1
     go_wp2_with fail
     go_ret
     exact⟨HB3.out,by rw [HE.out];rfl⟩
    have ho:decide (m.first*4096-x.at_<(x.b.length:Int))=false:=decide_eq_false (by omega)
    by_cases hb0:0<x.b.length
    case neg=>
     have hz0:((x.b.length:Int)==0)=true:=by rw [beq_iff_eq];omega
     have hz0n:(x.b.length==0)=true:=by rw [beq_iff_eq];omega
     have HE:=AA (jB.out 17 (by decide) (by rw [AAT.out,D_ (decide_eq_true hb1),AY rfl,ET (decide_eq_false hb0)]))
     clear hb1 hb0
     go_wp2_with fail
     go_ret
     exact⟨HB3.out,by rw [HE.out];rfl⟩
    have hz0:((x.b.length:Int)==0)=false:=by rw [beq_eq_false_iff_ne];omega
    have hz0n:(x.b.length==0)=false:=by rw [beq_eq_false_iff_ne];omega
    have HD0:Hid (Oz m k=0):=AA (by rw [AAT.out,D_ (decide_eq_true hb1),AY rfl,D_ (decide_eq_true hb0)])
    clear hb1 hb0
    go_wp2_with fail
    exact⟨⟨k+1,by go_num,HG.out.step hlt HD0.out,AAO.out⟩,by simp [intOf];omega⟩
  ·have HT0:Hid (KW m=0):=AA (by
    have:k=m.dat.length:=by have:=HG.out.1;omega
    rw [ZK.out,←this];exact HG.out.2)
   have q7:=Ye.out.q 7 rfl
   by_cases hnx:m.AO.length≤64
   case neg=>
    have hdx:decide (64<m.AO.length)=true:=decide_eq_true (by omega)
    have hdxi:decide ((64:Int)<(m.AO.length:Int))=true:=decide_eq_true (by omega)
    have HE:Hid (EO (KW m) (NZ m)=20):=AA (by rw [HT0.out,AY rfl];unfold NZ;rw [ET (decide_eq_false hnx)];rfl)
    clear hnx
    go_wp2_with fail
    go_ret
    exact⟨Eo.out,by rw [HE.out];rfl⟩
   have hdx:decide (64<m.AO.length)=false:=decide_eq_false (by omega)
   have hdxi:decide ((64:Int)<(m.AO.length:Int))=false:=decide_eq_false (by omega)
   have HXE:Hid (EO (KW m) (NZ m)=Aq m.AO.length (Rx m)):=AA (by rw [HT0.out,AY rfl];unfold NZ;rw [D_ (decide_eq_true hnx),AY rfl])
   go_wp2_with fail
   clear q6 q7
   obtain⟨wo,rfl⟩: ∃wo:World,wo=wr:=⟨_,rfl⟩
   go_loopw [5,6,7] (fun a i _ wv=> ∃j:Nat,i= .int .i64 j∧a= .string (ahS m j)∧Qa m.AO.length (Rx m) j∧Below wo.heap.size wo wv) (fun _ i _ _=>m.AO.length-(intOf i).toNat)
   case atStart=>exact⟨0,rfl,rfl,⟨Nat.zero_le _,rfl⟩,Below.refl _ _⟩
   case round=>
    obtain⟨j,rfl,rfl,hgj,hbv⟩:=hrel
    have HGJ:=AA hgj
    have xS:=AA hbv
    have Uz:Hid (Below w.heap.size w wr):=AA (Eo.out.trans (hbv.mono Eo.out.size))
    have j4:=AA (Ye.out.below hbv Ye.out.lt)
    have q5:=j4.out.q 5 rfl
    have q7:=j4.out.q 7 rfl
    clear hgj hbv
    by_cases hjl:j<m.AO.length
    ·obtain⟨x,hx⟩: ∃x,m.AO[j]?=some x:=⟨_,List.getElem?_eq_getElem hjl⟩
     obtain⟨b,o,eA,_,hbb,d0,d1,sn,f63⟩:=LB H7.out hx
     subst eA
     have lb:b<w.heap.size:=Nat.lt_of_lt_of_le hbb OG.out
     have e0:=(Uz.out.cell lb (p:=⟨b,o+j*2,none⟩)).trans d0
     have e1:=(Uz.out.cell lb (p:=⟨b,o+j*2+1,none⟩)).trans d1
     have hj0:(0:Int)≤j:=by omega
     have hj1:(j:Int)<m.AO.length:=by omega
     have HEE:Hid (Rx m j=EO (EO (Qo x.n) (aD x.n (ahS m j) (decide (j=0)))) (Ae (decide (0≤x.f∧x.f<m.fns.length)) 30)):=AA (by
      rw [AAR hjl,I6];unfold Rx;rw [hx])
     have HAS:Hid (x.n=ahS m (j+1)):=AA (by unfold ahS;simp only [hx])
     have jB:Hid (∀e:Int,e≠0→Rx m j=e→EO (KW m) (NZ m)=e):=AA (fun e he h=>by rw [HXE.out,HGJ.out.hit hjl (by rw [h];exact he),h])
     obtain⟨fb,hfb⟩: ∃fb,decide (j=0)=fb:=⟨_,rfl⟩
     have hfi:((j:Int)==0)=fb:=by rw [←hfb,Bool.eq_iff_iff];simp
     have hfn':(j==0)=fb:=by rw [←hfb,Bool.eq_iff_iff];simp
     obtain⟨ne,hne⟩: ∃ne,EO (Qo x.n) (aD x.n (ahS m j) fb)=ne:=⟨_,rfl⟩
     have HNM:Hid (∀W,Calls prog 208 #[.string x.n,.string (ahS m j),.bool fb] W fun e w'=>W=w'∧e= .returned (.int .i64 ne)):=AA (fun W=>hne▸pE x.n (ahS m j) fb sn W)
     rw [hfb,hne] at HEE
     unfold Rd.Ej at f63
     clear hx d0 d1 sn hbb hfb hne
     go_wp2_with fail
     refine(HNM.out wr).mono ?_
     rintro e w' ⟨rfl,rfl⟩
     clear hfi hfn'
     by_cases hne0:ne=0
     case neg=>
      have qn:(ne !=0)=true:=by simpa using hne0
      have HE:=AA (jB.out ne hne0 (by rw [HEE.out,Dk hne0]))
      clear hne0
      go_wp2_with fail
      go_ret
      exact⟨Uz.out,by rw [HE.out];rfl⟩
     subst hne0
     by_cases hin:0≤x.f∧x.f<m.fns.length
     case neg=>
      have HE:=AA (jB.out 30 (by decide) (by rw [HEE.out,AY rfl,ET (decide_eq_false hin)]))
      have key:decide (x.f<0)=true∨(decide (x.f<0)=false∧decide ((m.fns.length:Int)≤x.f)=true):=by
       simp only [decide_eq_true_eq,decide_eq_false_iff_not];omega
      clear hin
      rcases key with k1 | ⟨k1,k2⟩
      all_goals
       go_wp2_with fail
       go_quiet (fail)
       go_wp2_with fail
       go_ret
       exact⟨below_drewN Uz.out _,by rw [HE.out];rfl⟩
     have k1:decide (x.f<0)=false:=decide_eq_false (by omega)
     have k2:decide ((m.fns.length:Int)≤x.f)=false:=decide_eq_false (by omega)
     have dn:Hid (Rx m j=0):=AA (by rw [HEE.out,AY rfl,D_ (decide_eq_true hin)])
     clear hin
     go_wp2_with fail
     go_quiet (fail)
     go_wp2_with fail
     exact⟨⟨j+1,by go_num,by rw [HAS.out],HGJ.out.step hjl dn.out,below_drewN xS.out _⟩,by simp [intOf];omega⟩
    ·have HE:Hid (EO (KW m) (NZ m)=0):=AA (by
      have:j=m.AO.length:=by have:=HGJ.out.1;omega
      rw [HXE.out,←this];exact HGJ.out.2)
     go_wp2_with fail
     go_ret
     exact⟨Uz.out,by rw [HE.out];rfl⟩
def OB (W:World) (base:Nat) (A:Option Addr) (n c:Nat):Prop:= ∃xs,O9 W base 5 (.slice A n c) n xs
theorem OB.below {W W':World} {base:Nat} {A:Option Addr} {n c:Nat} (h:OB W base A n c) (hb:Below W.heap.size W W'):OB W' base A n c:=by
 obtain⟨xs,h⟩:=h
 exact⟨xs,h.uH hb⟩
def jH (w w':World):Prop:= ∀(g:Nat) (t:TypeId) (xs:List Value),t≠5→AV w g t xs→AV w' g t xs
theorem jH.Am {w w':World} (h:Below w.heap.size w w'):jH w w':=fun g t xs _ hb=>hb.below h hb.lt
theorem jH.trans {w w' w'':World} (h:jH w w') (h':jH w' w''):jH w w'':=fun g t xs ht hb=>h' g t xs ht (h g t xs ht hb)
theorem O9.ne {w:World} {base:Nat} {v:Value} {n:Nat} {xs ys:List Value} {g:Nat} {t:TypeId} (h:O9 w base 5 v n xs) (hb:AV w g t ys) (ht:t≠5):v.ownBlock≠some g:=by
 rcases h with h | ⟨k,fz,rfl,_,hh,_⟩
 ·exact wC h hb (Ne.symm ht)
 ·intro e
  injection e with e
  have e:k=g:=e
  subst e
  unfold AV at hb
  rw [hh] at hb
  injection hb with hb
  injection hb with _ h2
  exact ht h2.symm
theorem OO {w:World} {ops:Array Oper} {rest:List Oper} {o:Oper} {a:Act} {Q:Exit→Act→World→Prop} (hgd:o.guard=none) (s x:Operand)
 (ho:o.op= .call {callee:= .builtin .append,args:= #[s,x],argTypes:= #[41,41]}) (base:Nat) (A:Option Addr) (n c:Nat) (hs:a.eval s= .slice A n c) (hown:OB w base A n c)
 (B:Nat) (A2:Option Addr) (m c2:Nat) (news:List UInt8) (hx:a.eval x= .slice A2 m c2) (hm0:0<m) (hm:m=news.length) (hr:Row w B A2 (news.map bv)) (h47:n+m≤140000000000000) (hbase:base≤w.heap.size)
 (h: ∀A' c' w',OB w' base A' (n+m) c'→Below base w w'→jH w w'→wpList prog ops Q rest (a.put o.dst (.slice A' (n+m) c')) w'):wpList prog ops Q (o::rest) a w:=by
 obtain⟨xs,hown⟩:=hown
 obtain⟨i0,hi,hz,hs',hb⟩:=info_parts G8
 refine VJ w hgd s x 41 ho base 5 i0 _ 1 underlying41 hi hz hs' hb rfl _ n xs hs hown B A2 m c2 (news.map bv) hm0 hx (by rw [List.length_map,Nat.mul_one];exact hm.symm) hr (LC news) (by unfold maxLen;omega) (by omega) hbase ?_
 intro A' c' w' h2 h3 _
 refine h A' c' w' ⟨_,.inl h2⟩ ⟨h3.os,h3.tape,h3.output,h3.size,fun k hk=>h3.block k (by omega) (fun e=> ?_)⟩ ?_
 ·have:=(hown.lt k e.symm).1
  omega
 ·exact fun g t ys ht hb=>EB h3 hb (hown.ne hb ht)
theorem Ov (base:Nat) (A:Option Addr) (n c v:Nat) (w:World) (hown:OB w base A n c) (hbase:base≤w.heap.size) (hv:v<9223372036854775808) (hn:n≤100000000000000):
 Calls prog 177 #[.slice A n c,.int .i64 v] w fun e w'=> ∃A' c',e= .returned (.slice A' (n+(enc v).length) c')∧OB w' base A' (n+(enc v).length) c'∧Below base w w'∧jH w w':=by
 have HO:=AA hown
 have hl:=Ag v (by omega)
 have hpos:=Dv v
 clear hown
 go_enter func177,ntmps177
 go_wp2_with fail
 refine(Pg v (by omega) w).mono ?_
 rintro e w1 ⟨A1,c1,rfl,ho1,hb1⟩
 have HO1:=AA (Row.own ho1)
 have HB1:=AA hb1
 have hz:=hb1.size
 clear ho1 hb1
 go_wp2_with (at_builtin;refine OO rfl (.tmp 5) (.tmp 8) rfl base A n c rfl (HO.out.below HB1.out) _ A1 (enc v).length c1 (enc v) rfl hpos rfl HO1.out (by omega) (by omega) ?_;intro A2 c2 w2 h2 h3 h4;have H2:=AA h2;have H3:=AA h3;have H4:=AA h4;clear h2 h3 h4)
 go_ret
 exact⟨A2,c2,rfl,H2.out,(HB1.out.mono hbase).trans H3.out,(jH.Am HB1.out).trans H4.out⟩
theorem Pn (base:Nat) (A:Option Addr) (n c:Nat) (v:Int) (w:World) (hown:OB w base A n c) (hbase:base≤w.heap.size) (h0:0≤v∧v<9223372036854775808) (hn:n≤100000000000000):
 Calls prog 177 #[.slice A n c,.int .i64 v] w fun e w'=> ∃A' c',e= .returned (.slice A' (n+(enc v.toNat).length) c')∧OB w' base A' (n+(enc v.toNat).length) c'∧Below base w w'∧jH w w':=by
 obtain⟨k,rfl⟩:=Int.eq_ofNat_of_zero_le h0.1
 exact Ov base A n c k w hown hbase (by omega) hn
theorem Po (s:ByteArray):(enc s.size).length+s.size=(enc s.size++s.data.toList).length:=by rw [List.length_append];simp
theorem ZM (x:Ep) (w:World) (hl:Qh x.l.toNat=true) (hf:JL x.v x.l.toNat=true) (hv:x.v<18446744073709551616):
 Calls prog 41 #[.agg #[.int .u8 (x.l.toNat:Int),.bool x.m,.int .u64 (x.v:Int)]] w fun e w'=>Below w.heap.size w w'∧e= .returned (.int .i64 (Au x)):=by
 have box: ∀w1,w.alloc (.cells #[.int .u8 (x.l.toNat:Int),.bool x.m,.int .u64 (x.v:Int)] 82)=w1→Below w.heap.size w w1∧w1.cell? ⟨w.heap.size,0,none⟩=some (.int .u8 (x.l.toNat:Int))∧w1.cell? ⟨w.heap.size,2,none⟩=some (.int .u64 (x.v:Int)):=fun w1 h=>by
  have hb:=AV.new w 82 [.int .u8 (x.l.toNat:Int),.bool x.m,.int .u64 (x.v:Int)]
  change AV (w.alloc (.cells #[.int .u8 (x.l.toNat:Int),.bool x.m,.int .u64 (x.v:Int)] 82)) _ _ _ at hb
  rw [h] at hb
  exact⟨by rw [←h];exact(Below.refl _ _).alloc (Nat.le_refl _) _,hb.cell 0,hb.cell 2⟩
 have zl:=AA box
 clear box
 by_cases h1:x.l.toNat=119
 ·have hv32:x.v<4294967296:=by
   unfold JL at hf;rw [h1] at hf;simpa using hf
  have q1:((x.l.toNat:Int)==119)=true:=by rw [beq_iff_eq];omega
  by_cases h2:2147483648≤x.v
  ·have q2:decide ((2147483648:Int)≤(x.v:Int))=true:=decide_eq_true (by omega)
   have HS:Hid (Au x=(x.v:Int)-4294967296):=AA (by unfold Au;rw [if_pos ⟨h1,h2⟩])
   clear hl hf h1
   go_enter func41,ntmps41
   go_upto_region 1 with fail
   generalize hw1:w.alloc (.cells #[.int .u8 (x.l.toNat:Int),.bool x.m,.int .u64 (x.v:Int)] 82)=w1
   obtain⟨hb1,c0,c2⟩:=zl.out w1 hw1
   have HB1:=AA hb1
   clear hw1 hb1
   go_wp2_with fail
   go_ret
   exact⟨HB1.out,by rw [HS.out];rfl⟩
  ·have q2:decide ((2147483648:Int)≤(x.v:Int))=false:=decide_eq_false (by omega)
   have HS:Hid (Au x=(x.v:Int)):=AA (by unfold Au;rw [if_neg (fun h=>h2 h.2),if_pos (by omega)])
   clear hl hf h1
   go_enter func41,ntmps41
   go_upto_region 1 with fail
   generalize hw1:w.alloc (.cells #[.int .u8 (x.l.toNat:Int),.bool x.m,.int .u64 (x.v:Int)] 82)=w1
   obtain⟨hb1,c0,c2⟩:=zl.out w1 hw1
   have HB1:=AA hb1
   clear hw1 hb1
   go_wp2_with fail
   go_ret
   exact⟨HB1.out,by rw [HS.out];rfl⟩
 ·have q1:((x.l.toNat:Int)==119)=false:=by rw [beq_eq_false_iff_ne];omega
  have AFC:x.l.toNat=108:=by
   unfold Qh at hl;simp at hl;omega
  have HS:=AA (uQ AFC hv)
  clear hl hf h1 AFC
  go_enter func41,ntmps41
  go_upto_region 1 with fail
  generalize hw1:w.alloc (.cells #[.int .u8 (x.l.toNat:Int),.bool x.m,.int .u64 (x.v:Int)] 82)=w1
  obtain⟨hb1,c0,c2⟩:=zl.out w1 hw1
  have HB1:=AA hb1
  clear hw1 hb1
  go_wp2_with fail
  go_ret
  exact⟨HB1.out,by rw [←HS.out];rfl⟩
def LaC (w1:World) (N:Nat) (v:Value) (wx:World):Prop:= ∃(n:Nat) (A:Option Addr) (c:Nat),n=N∧v= .slice A n c∧OB wx w1.heap.size A n c∧Below w1.heap.size w1 wx
def LaR {α:Type} (w1:World) (N:Nat) (f:α→List UInt8) (l:List α) (v i:Value) (wr:World):Prop:= ∃(k n:Nat) (A:Option Addr) (c:Nat),k≤l.length∧i= .int .i64 k∧v= .slice A n c∧n=N+((l.take k).flatMap f).length∧OB wr w1.heap.size A n c∧Below w1.heap.size w1 wr
theorem QT {α:Type} {f:α→List UInt8} {l:List α} {k:Nat} {x:α} (h:l[k]?=some x):((l.take (k+1)).flatMap f).length=((l.take k).flatMap f).length+(f x).length∧((l.take k).flatMap f).length+(f x).length≤(l.flatMap f).length:=by
 have h1:=congrArg List.length (FK (f:=f) h)
 rw [List.length_append] at h1
 refine⟨h1,?_⟩
 have h2:(l.flatMap f).length=((l.take (k+1)).flatMap f).length+((l.drop (k+1)).flatMap f).length:=by
  rw [←List.length_append,←List.flatMap_append,List.take_append_drop]
 omega
theorem SV {α:Type} {f:α→List UInt8} {l:List α} {k:Nat} (h:k=l.length):((l.take k).flatMap f).length=(l.flatMap f).length:=by rw [qx h]
theorem Tc (s:ByteArray):(JH s).length=(enc s.size).length+s.size:=by
 unfold JH;rw [List.length_append];simp
structure AFF (m:AQ):Prop where
 types: ∀t∈m.types,t.p.size≤8∧t.r.size≤8
 hosts: ∀t∈m.hosts,0≤t∧t<9223372036854775808
 globs: ∀x∈m.globs,Qh x.l.toNat=true∧JL x.v x.l.toNat=true∧x.v<18446744073709551616
 f0:0≤m.first∧m.first≤64
 m0:0≤m.most∧m.most≤64
 fns: ∀f∈m.fns,(0≤f.t∧f.t<9223372036854775808)∧f.loc.size≤300000∧f.code.length≤2048∧ ∀x∈f.code,Aa x=0
 dat: ∀d∈m.dat,(0≤d.at_∧d.at_<9223372036854775808)∧d.b.length≤300000
 AO: ∀x∈m.AO,(0≤x.f∧x.f<9223372036854775808)∧x.n.size≤300000
 few:m.types.length≤1000000∧m.hosts.length≤1000000∧m.globs.length≤1000000∧m.fns.length≤1000000∧m.dat.length≤1000000∧m.AO.length≤1000000
 tot:(OW m).length≤10000000000000
set_option maxHeartbeats 8000000 in
theorem AAW (cs:List Value) (hi:Nat) (m:AQ) (w:World) (h:IZ.R w 0 hi cs m) (hhi:hi≤w.heap.size) (hin:AFF m):
 Calls prog 134 #[.agg cs.toArray] w fun e w'=>Below w.heap.size w w'∧ ∃A c,e= .returned (.slice A (OW m).length c):=by
 obtain⟨v1,v2,v3,v4,v5,v6,rfl,h0,h1,h2,_,_,h5,h6,h7⟩:=DF.1 h
 obtain⟨A0,c0,rfl⟩:=AU h0
 obtain⟨A1,c1,rfl⟩:=AU h1
 obtain⟨A2,c2,rfl⟩:=AU h2
 obtain⟨A5,c5,rfl⟩:=AU h5
 obtain⟨A6,c6,rfl⟩:=AU h6
 obtain⟨A7,c7,rfl⟩:=AU h7
 have H0:=AA h0;have H1:=AA h1;have H2:=AA h2;have H5:=AA h5;have H6:=AA h6;have H7:=AA h7;have OG:=AA hhi;have OJ:=AA hin
 obtain⟨w0',w1',w2',w5',w6',w7'⟩:=hin.few
 have HT:Hid (5+((enc m.types.length).length+(m.types.flatMap O4).length+((enc m.hosts.length).length+(m.hosts.flatMap (fun t=>enc t.toNat)).length+((enc m.globs.length).length+(m.globs.flatMap JI).length+((enc m.first.toNat).length+(enc m.most.toNat).length))))+((enc m.fns.length).length+(m.fns.flatMap Wt).length+((enc m.dat.length).length+(m.dat.flatMap Mv).length+((enc m.AO.length).length+(m.AO.flatMap Ni).length)))=(OW m).length):=AA (by
  unfold OW Qs U9 Qp Qq Qr
  simp only [List.length_append]
  have:Py.length=5:=rfl
  omega)
 have htot:=hin.tot
 rw [←HT.out] at htot
 clear h h0 h1 h2 h5 h6 h7 hhi hin
 go_enter func134,ntmps134
 go_upto_region 1 with fail
 generalize hw1:w.alloc (.cells #[.slice A0 m.types.length c0,.slice A1 m.hosts.length c1,.slice A2 m.globs.length c2,.int .i64 m.first,.int .i64 m.most,.slice A5 m.fns.length c5,.slice A6 m.dat.length c6,.slice A7 m.AO.length c7] 29)=w1
 obtain⟨hb1,hx1⟩:=eX hw1
 have hz1:w1.heap.size=w.heap.size+1:=by rw [←hw1];simp
 have HZ:Hid (w.heap.size<w1.heap.size):=AA (by omega)
 have C8:Hid (∀W,Below w1.heap.size w1 W→AV W w.heap.size 29 [.slice A0 m.types.length c0,.slice A1 m.hosts.length c1,.slice A2 m.globs.length c2,.int .i64 m.first,.int .i64 m.most,.slice A5 m.fns.length c5,.slice A6 m.dat.length c6,.slice A7 m.AO.length c7]):=AA (fun W hW=>hx1.below hW hx1.lt)
 have Pp:Hid (∀W,Below w1.heap.size w1 W→Below w.heap.size w W):=AA (fun W hW=>hb1.trans (hW.mono hb1.size))
 clear hw1 hb1 hx1 hz1
 have kc:=Lib.run_convert_bytes_const (P:=prog) w1 41 5 #[.int .u8 70,.int .u8 76,.int .u8 71,.int .u8 78,.int .u8 1] 5 5 underlying41 underlying5
 go_upto_region 2 with fail
 generalize hw2:World.alloc w1 _=wc
 have hb2:Below w1.heap.size w1 wc:=by rw [←hw2];exact(Below.refl _ _).alloc (Nat.le_refl _) _
 have ho2:OB wc w1.heap.size (some ⟨w1.heap.size,0,none⟩) 5 5:=⟨[.int .u8 70,.int .u8 76,.int .u8 71,.int .u8 78,.int .u8 1],.inr ⟨w1.heap.size,(5,6),rfl,Nat.le_refl _,by rw [←hw2];exact heap_alloc_new w1 _,rfl⟩⟩
 have HO:=AA ho2;have HQ:=AA hb2
 clear kc hw2 ho2 hb2
 have q0:=(C8.out wc HQ.out).q 0 rfl
 go_wp2_with fail
 refine(Ov w1.heap.size _ _ _ m.types.length wc HO.out HQ.out.size (by omega) (by omega)).mono ?_
 rintro e yp0 ⟨Cp0,Kp0,rfl,ho,hb,hkt⟩
 have HTp0:=AA hkt
 have AFG:=AA ho
 have ACs:Hid (Below w1.heap.size w1 yp0):=AA (HQ.out.trans hb)
 clear ho hb hkt
 clear q0 HO HQ
 go_upto_block 0 with fail
 obtain⟨N0,hN⟩: ∃N,N=5+(enc m.types.length).length:=⟨_,rfl⟩
 have dn:=AA hN
 have hbd:N0+(m.types.flatMap (O4)).length≤10000000000000:=by have:=dn.out;omega
 clear hN
 go_cut [3] from 22 to 46 (fun v wx=>LaC w1 (N0+(m.types.flatMap (O4)).length) v wx)
 case first=>
  have q0:=(C8.out yp0 ACs.out).q 0 rfl
  go_wp2_with fail
  go_loopw [3,4] (fun v i wr=>LaR w1 N0 (O4) m.types v i wr) (fun _ i _=>m.types.length-(intOf i).toNat)
  case atStart=>exact⟨0,_,_,_,Nat.zero_le _,rfl,rfl,by simp [dn.out],AFG.out,ACs.out⟩
  case round=>
   obtain⟨k,n,A,c,hk,rfl,rfl,hn,ho,hb⟩:=hrel
   have HO:=AA ho;have HQ:=AA hb;have hsz:=hb.size;have HN:=AA hn
   clear ho hb q0 hn
   have q0:=(C8.out wr HQ.out).q 0 rfl
   by_cases hlt:k<m.types.length
   ·obtain⟨x,hx⟩: ∃x,m.types[k]?=some x:=⟨_,List.getElem?_eq_getElem hlt⟩
    obtain⟨b,o,rfl,_,hbb,d0,d1,_,_⟩:=Ii H0.out hx
    have lb:b<w.heap.size:=Nat.lt_of_lt_of_le hbb OG.out
    have hk0:(0:Int)≤k:=by omega
    have hk1:(k:Int)<m.types.length:=by omega
    obtain⟨hfl,hfm⟩:=QT (f:=O4) hx
    have VL:=AA hfl
    have hnb:n+(O4 x).length≤10000000000000:=by have:=HN.out;omega
    clear hfl hfm
    have xU:=OJ.out.types x (List.mem_of_getElem? hx)
    have hln:(O4 x).length=((enc x.p.size).length+x.p.size)+((enc x.r.size).length+x.r.size):=by unfold O4;rw [List.length_append,Tc,Tc]
    rw [hln] at hnb
    have HLN:=AA hln;clear hln
    have pp:=Dv x.p.size;have pr:=Dv x.r.size
    have e0:wr.cell? ⟨b,o+k*2,none⟩=some (.string x.p):=((Pp.out wr HQ.out).cell lb (p:=⟨b,o+k*2,none⟩)).trans d0
    clear hx hbb
    go_wp2_with fail
    refine(Qx x.p (by omega) wr).mono ?_
    rintro e xa ⟨Ba,da,rfl,ho,hb⟩
    have HNa:=AA (Row.own ho)
    have HOa:=AA (HO.out.below hb)
    have HQa:Hid (Below w1.heap.size w1 xa):=AA (HQ.out.trans (hb.mono HQ.out.size))
    have HXa:=AA (jH.Am hb)
    have hsz:=HQa.out.size
    clear ho hb
    go_upto_region 7 with(at_builtin;refine OO rfl (.tmp 29) (.tmp 36) rfl w1.heap.size _ _ _ rfl HOa.out _ Ba _ _ (enc (x.p).size++(x.p).data.toList) rfl (by omega) (Po _) HNa.out (by omega) hsz ?_;intro Ca Ka ya h2 h3 h4;have jJ:=AA h2;have WG:=AA (HQa.out.trans h3);have HTa:=AA h4;clear h2 h3 h4)
    clear q0 e0
    have q0:=(C8.out ya WG.out).q 0 rfl
    have e1:ya.cell? ⟨b,o+k*2+1,none⟩=some (.string x.r):=((Pp.out ya WG.out).cell lb (p:=⟨b,o+k*2+1,none⟩)).trans d1
    go_wp2_with fail
    refine(Qx x.r (by omega) ya).mono ?_
    rintro e xb ⟨Bb,db,rfl,ho,hb⟩
    have HNb:=AA (Row.own ho)
    have HOb:=AA (jJ.out.below hb)
    have HQb:Hid (Below w1.heap.size w1 xb):=AA (WG.out.trans (hb.mono WG.out.size))
    have HXb:=AA (jH.Am hb)
    have hsz:=HQb.out.size
    clear ho hb
    go_wp2_with (at_builtin;refine OO rfl (.tmp 38) (.tmp 45) rfl w1.heap.size _ _ _ rfl HOb.out _ Bb _ _ (enc (x.r).size++(x.r).data.toList) rfl (by omega) (Po _) HNb.out (by omega) hsz ?_;intro Cb Kb yb h2 h3 h4;have fU:=AA h2;have qW:=AA (HQb.out.trans h3);have xV:=AA h4;clear h2 h3 h4)
    exact⟨⟨k+1,_,_,_,by omega,by go_num,rfl,by have:=HN.out;have:=VL.out;have:=HLN.out;omega,fU.out,qW.out⟩,by simp [intOf];omega⟩
   ·go_wp2_with fail
    go_meet
    exact⟨_,_,_,by have:=SV (f:=O4) (show k=m.types.length by omega);have:=HN.out;omega,rfl,HO.out,HQ.out⟩
 case rest=>
  obtain⟨n,A,c,hn,rfl,ho,hb⟩:=hcut
  have HO:=AA ho;have HQ:=AA hb;have hsz:=hb.size
  have HF0:=AA hn
  have hnb:n≤10000000000000:=by omega
  clear ho hb hn hbd AFG ACs
  have q0:=(C8.out wc HQ.out).q 1 rfl
  go_wp2_with fail
  refine(Ov w1.heap.size _ _ _ m.hosts.length wc HO.out HQ.out.size (by omega) (by omega)).mono ?_
  rintro e yp1 ⟨Cp1,Kp1,rfl,ho,hb,hkt⟩
  have HTp1:=AA hkt
  have AFI:=AA ho
  have ACu:Hid (Below w1.heap.size w1 yp1):=AA (HQ.out.trans hb)
  clear ho hb hkt
  clear q0 HO HQ
  go_upto_block 2 with fail
  obtain⟨N1,hN⟩: ∃N,N=n+(enc m.hosts.length).length:=⟨_,rfl⟩
  have kP:=AA hN
  have hbd:N1+(m.hosts.flatMap (fun t:Int=>enc t.toNat)).length≤10000000000000:=by have:=dn.out;have:=HF0.out;have:=kP.out;omega
  clear hN
  go_cut [3] from 52 to 65 (fun v wx=>LaC w1 (N1+(m.hosts.flatMap (fun t:Int=>enc t.toNat)).length) v wx)
  case first=>
   have q0:=(C8.out yp1 ACu.out).q 1 rfl
   go_wp2_with fail
   go_loopw [3,5] (fun v i wr=>LaR w1 N1 (fun t:Int=>enc t.toNat) m.hosts v i wr) (fun _ i _=>m.hosts.length-(intOf i).toNat)
   case atStart=>exact⟨0,_,_,_,Nat.zero_le _,rfl,rfl,by simp [kP.out],AFI.out,ACu.out⟩
   case round=>
    obtain⟨k,n,A,c,hk,rfl,rfl,hn,ho,hb⟩:=hrel
    have HO:=AA ho;have HQ:=AA hb;have hsz:=hb.size;have HN:=AA hn
    clear ho hb q0 hn
    have q0:=(C8.out wr HQ.out).q 1 rfl
    by_cases hlt:k<m.hosts.length
    ·obtain⟨x,hx⟩: ∃x,m.hosts[k]?=some x:=⟨_,List.getElem?_eq_getElem hlt⟩
     obtain⟨b,o,rfl,hbb,d0,_⟩:=ABK H1.out hx
     have lb:b<w.heap.size:=Nat.lt_of_lt_of_le hbb OG.out
     have hk0:(0:Int)≤k:=by omega
     have hk1:(k:Int)<m.hosts.length:=by omega
     obtain⟨hfl,hfm⟩:=QT (f:=fun t:Int=>enc t.toNat) hx
     have VL:=AA hfl
     have hnb:n+(enc x.toNat).length≤10000000000000:=by have:=HN.out;omega
     clear hfl hfm
     have xU:=OJ.out.hosts x (List.mem_of_getElem? hx)
     have e0:wr.cell? ⟨b,o+k,none⟩=some (.int .i64 x):=((Pp.out wr HQ.out).cell lb (p:=⟨b,o+k,none⟩)).trans d0
     clear hx hbb
     go_wp2_with fail
     refine(Pn w1.heap.size _ _ _ x wr HO.out HQ.out.size xU (by omega)).mono ?_
     rintro e ya ⟨Ca,Ka,rfl,ho,hb,hkt⟩
     have HTa:=AA hkt
     have jJ:=AA ho
     have WG:Hid (Below w1.heap.size w1 ya):=AA (HQ.out.trans hb)
     clear ho hb hkt
     go_wp2_with fail
     exact⟨⟨k+1,_,_,_,by omega,by go_num,rfl,by have:=HN.out;have:=VL.out;omega,jJ.out,WG.out⟩,by simp [intOf];omega⟩
    ·go_wp2_with fail
     go_meet
     exact⟨_,_,_,by have:=SV (f:=fun t:Int=>enc t.toNat) (show k=m.hosts.length by omega);have:=HN.out;omega,rfl,HO.out,HQ.out⟩
  case rest=>
   obtain⟨n,A,c,hn,rfl,ho,hb⟩:=hcut
   have HO:=AA ho;have HQ:=AA hb;have hsz:=hb.size
   have HF1:=AA hn
   have hnb:n≤10000000000000:=by omega
   clear ho hb hn hbd AFI ACu
   have q0:=(C8.out wc HQ.out).q 2 rfl
   go_wp2_with fail
   refine(Ov w1.heap.size _ _ _ m.globs.length wc HO.out HQ.out.size (by omega) (by omega)).mono ?_
   rintro e yp2 ⟨Cp2,Kp2,rfl,ho,hb,hkt⟩
   have HTp2:=AA hkt
   have AFJ:=AA ho
   have ACv:Hid (Below w1.heap.size w1 yp2):=AA (HQ.out.trans hb)
   clear ho hb hkt
   clear q0 HO HQ
   go_upto_block 4 with fail
   obtain⟨N2,hN⟩: ∃N,N=n+(enc m.globs.length).length:=⟨_,rfl⟩
   have HE2:=AA hN
   have hbd:N2+(m.globs.flatMap (JI)).length≤10000000000000:=by have:=dn.out;have:=HF0.out;have:=kP.out;have:=HF1.out;have:=HE2.out;omega
   clear hN
   go_cut [3] from 71 to 100 (fun v wx=>LaC w1 (N2+(m.globs.flatMap (JI)).length) v wx)
   case first=>
    have q0:=(C8.out yp2 ACv.out).q 2 rfl
    go_wp2_with fail
    go_loopw [3,6,7] (fun v i _ wr=>LaR w1 N2 (JI) m.globs v i wr) (fun _ i _ _=>m.globs.length-(intOf i).toNat)
    case atStart=>exact⟨0,_,_,_,Nat.zero_le _,rfl,rfl,by simp [HE2.out],AFJ.out,ACv.out⟩
    case round=>
     obtain⟨k,n,A,c,hk,rfl,rfl,hn,ho,hb⟩:=hrel
     have HO:=AA ho;have HQ:=AA hb;have hsz:=hb.size;have HN:=AA hn
     clear ho hb q0 hn
     have q0:=(C8.out wr HQ.out).q 2 rfl
     by_cases hlt:k<m.globs.length
     ·obtain⟨x,hx⟩: ∃x,m.globs[k]?=some x:=⟨_,List.getElem?_eq_getElem hlt⟩
      obtain⟨b,o,rfl,_,hbb,d0,d1,d2,_⟩:=K_ H2.out hx
      have lb:b<w.heap.size:=Nat.lt_of_lt_of_le hbb OG.out
      have hk0:(0:Int)≤k:=by omega
      have hk1:(k:Int)<m.globs.length:=by omega
      obtain⟨hfl,hfm⟩:=QT (f:=JI) hx
      have VL:=AA hfl
      have hnb:n+(JI x).length≤10000000000000:=by have:=HN.out;omega
      clear hfl hfm
      have xU:=OJ.out.globs x (List.mem_of_getElem? hx)
      have HS8:=AA xU
      have hsb:=OC xU.2.2 xU.2.1
      have hln:(JI x).length=2+(enc (folded (Au x))).length:=by unfold JI;rw [List.length_append];rfl
      rw [hln] at hnb
      have HLN:=AA hln;clear hln
      have pp:=Dv (folded (Au x))
      have e0:wr.cell? ⟨b,o+k*3,none⟩=some (.int .u8 (x.l.toNat:Int)):=((Pp.out wr HQ.out).cell lb (p:=⟨b,o+k*3,none⟩)).trans d0
      have e1:wr.cell? ⟨b,o+k*3+1,none⟩=some (.bool x.m):=((Pp.out wr HQ.out).cell lb (p:=⟨b,o+k*3+1,none⟩)).trans d1
      have e2:wr.cell? ⟨b,o+k*3+2,none⟩=some (.int .u64 (x.v:Int)):=((Pp.out wr HQ.out).cell lb (p:=⟨b,o+k*3+2,none⟩)).trans d2
      clear hx hbb xU
      go_upto_region 18 with fail
      generalize hwg:wr.alloc (.cells #[.int .u8 (x.l.toNat:Int),.bool x.m,.int .u64 (x.v:Int)] 82)=wg
      have hbg:Below wr.heap.size wr wg:=by rw [←hwg];exact(Below.refl _ _).alloc (Nat.le_refl _) _
      have HGX:Hid (AV wg wr.heap.size 82 [.int .u8 (x.l.toNat:Int),.bool x.m,.int .u64 (x.v:Int)]):=AA (by rw [←hwg];exact AV.new wr 82 _)
      have HOg:=AA (HO.out.below hbg)
      have HQg:Hid (Below w1.heap.size w1 wg):=AA (HQ.out.trans (hbg.mono HQ.out.size))
      clear hwg hbg e0 e1 e2 q0 hsz
      have hc0:=HGX.out.q 0 rfl
      have ACw:Hid (Below wg.heap.size wg (wg.alloc (.cells #[.int .u8 (x.l.toNat:Int)] 5))):=AA ((Below.refl _ _).alloc (Nat.le_refl _) _)
      have HOAa:=AA (HOg.out.below ACw.out)
      have AFL:Hid (Below w1.heap.size w1 (wg.alloc (.cells #[.int .u8 (x.l.toNat:Int)] 5))):=AA (HQg.out.trans (ACw.out.mono HQg.out.size))
      have HRWa:Hid (Row (wg.alloc (.cells #[.int .u8 (x.l.toNat:Int)] 5)) (wg.heap.size+1) (some ⟨wg.heap.size,0,none⟩) ([x.l].map bv)):=AA (row_one wg (.int .u8 (x.l.toNat:Int)) 5)
      have hsz:=AFL.out.size
      go_upto_region 19 with(at_builtin;refine OO rfl (.tmp 83) (.tmp 86) rfl w1.heap.size _ _ _ rfl HOAa.out _ _ _ _ ([x.l]) rfl (by decide) rfl HRWa.out (by omega) hsz ?_;intro Ca Ka ya h2 h3 h4;have jJ:=AA h2;have WG:=AA (AFL.out.trans h3);have HTa:=AA h4;clear h2 h3 h4)
      have HGa:=AA (HTa.out _ _ _ (by decide) (HGX.out.below ACw.out HGX.out.lt))
      clear hc0
      have hc1:=HGa.out.q 1 rfl
      cases hxm:x.m
      case' false=>
       rw [hxm] at hc1
       have aH:Hid (Below ya.heap.size ya (ya.alloc (.cells #[.int .u8 0] 5))):=AA ((Below.refl _ _).alloc (Nat.le_refl _) _)
       have wK:=AA (jJ.out.below aH.out)
       have jK:Hid (Below w1.heap.size w1 (ya.alloc (.cells #[.int .u8 0] 5))):=AA (WG.out.trans (aH.out.mono WG.out.size))
       have wL:Hid (Row (ya.alloc (.cells #[.int .u8 0] 5)) (ya.heap.size+1) (some ⟨ya.heap.size,0,none⟩) ([0].map bv)):=AA (row_one ya (.int .u8 0) 5)
       have hsz:=jK.out.size
       go_upto_region 22 with(at_builtin;refine OO rfl (.tmp 93) (.tmp 94) rfl w1.heap.size _ _ _ rfl wK.out _ _ _ _ ([0]) rfl (by decide) rfl wL.out (by omega) hsz ?_;intro Cb Kb yb h2 h3 h4;have fU:=AA h2;have qW:=AA (jK.out.trans h3);have xV:=AA h4;clear h2 h3 h4)
       have AFM:=AA (xV.out _ _ _ (by decide) (HGa.out.below aH.out HGa.out.lt))
       clear hxm hc1 aH wK jK wL xV
      case' true=>
       rw [hxm] at hc1
       have aH:Hid (Below ya.heap.size ya (ya.alloc (.cells #[.int .u8 1] 5))):=AA ((Below.refl _ _).alloc (Nat.le_refl _) _)
       have wK:=AA (jJ.out.below aH.out)
       have jK:Hid (Below w1.heap.size w1 (ya.alloc (.cells #[.int .u8 1] 5))):=AA (WG.out.trans (aH.out.mono WG.out.size))
       have wL:Hid (Row (ya.alloc (.cells #[.int .u8 1] 5)) (ya.heap.size+1) (some ⟨ya.heap.size,0,none⟩) ([1].map bv)):=AA (row_one ya (.int .u8 1) 5)
       have hsz:=jK.out.size
       go_upto_region 22 with(at_builtin;refine OO rfl (.tmp 90) (.tmp 91) rfl w1.heap.size _ _ _ rfl wK.out _ _ _ _ ([1]) rfl (by decide) rfl wL.out (by omega) hsz ?_;intro Cb Kb yb h2 h3 h4;have fU:=AA h2;have qW:=AA (jK.out.trans h3);have xV:=AA h4;clear h2 h3 h4)
       have AFM:=AA (xV.out _ _ _ (by decide) (HGa.out.below aH.out HGa.out.lt))
       clear hxm hc1 aH wK jK wL xV
      all_goals
       have HGb:Hid (AV yb wr.heap.size 82 [.int .u8 (x.l.toNat:Int),.bool x.m,.int .u64 (x.v:Int)]):=AFM
       have hc0:=HGb.out.q 0 rfl
       have hc1:=HGb.out.q 1 rfl
       have hc2:=HGb.out.q 2 rfl
       go_wp2_with fail
       refine(ZM x yb HS8.out.1 HS8.out.2.1 HS8.out.2.2).mono ?_
       rintro e xs ⟨hbs,rfl⟩
       have HOs:=AA (fU.out.below hbs)
       have HQs:Hid (Below w1.heap.size w1 xs):=AA (qW.out.trans (hbs.mono qW.out.size))
       clear hbs hc0 hc1 hc2
       go_wp2_with fail
       refine(dS (Au x) hsb.1 hsb.2 xs).mono ?_
       rintro e xc ⟨Bc,dc,rfl,ho,hb⟩
       have HNc:=AA (Row.own ho)
       have HOc:=AA (HOs.out.below hb)
       have HQc:Hid (Below w1.heap.size w1 xc):=AA (HQs.out.trans (hb.mono HQs.out.size))
       have hsz:=HQc.out.size
       clear ho hb
       go_wp2_with (at_builtin;refine OO rfl (.tmp 96) (.tmp 99) rfl w1.heap.size _ _ _ rfl HOc.out _ Bc _ _ (enc (folded (Au x))) rfl pp rfl HNc.out (by omega) hsz ?_;intro Cd Kd yd h2 h3 h4;have HPd:=AA h2;have HRd:=AA (HQc.out.trans h3);have HTd:=AA h4;clear h2 h3 h4)
       exact⟨⟨k+1,_,_,_,by omega,by go_num,rfl,by have:=HN.out;have:=VL.out;have:=HLN.out;omega,HPd.out,HRd.out⟩,by simp [intOf];omega⟩
     ·go_wp2_with fail
      go_meet
      exact⟨_,_,_,by have:=SV (f:=JI) (show k=m.globs.length by omega);have:=HN.out;omega,rfl,HO.out,HQ.out⟩
   case rest=>
    obtain⟨n,A,c,hn,rfl,ho,hb⟩:=hcut
    have HO:=AA ho;have HQ:=AA hb;have hsz:=hb.size
    have ZC:=AA hn
    have hnb:n≤10000000000000:=by omega
    clear ho hb hn hbd AFJ ACv
    have q3:=(C8.out wc HQ.out).q 3 rfl
    go_wp2_with fail
    refine(Pn w1.heap.size _ _ _ m.first wc HO.out HQ.out.size ⟨OJ.out.f0.1,by have:=OJ.out.f0.2;omega⟩ (by omega)).mono ?_
    rintro e yu ⟨Cu,Ku,rfl,ho,hb,hkt⟩
    have HTu:=AA hkt
    have HPu:=AA ho
    have HRu:Hid (Below w1.heap.size w1 yu):=AA (HQ.out.trans hb)
    clear ho hb hkt
    have q4:=(C8.out yu HRu.out).q 4 rfl
    go_wp2_with fail
    refine(Pn w1.heap.size _ _ _ m.most yu HPu.out HRu.out.size ⟨OJ.out.m0.1,by have:=OJ.out.m0.2;omega⟩ (by omega)).mono ?_
    rintro e yv ⟨Cv,Kv,rfl,ho,hb,hkt⟩
    have HTv:=AA hkt
    have HPv:=AA ho
    have HRv:Hid (Below w1.heap.size w1 yv):=AA (HRu.out.trans hb)
    clear ho hb hkt
    have q5:=(C8.out yv HRv.out).q 5 rfl
    go_wp2_with fail
    refine(Ov w1.heap.size _ _ _ m.fns.length yv HPv.out HRv.out.size (by omega) (by omega)).mono ?_
    rintro e yp3 ⟨Cp3,Kp3,rfl,ho,hb,hkt⟩
    have HTp3:=AA hkt
    have AFN:=AA ho
    have ACx:Hid (Below w1.heap.size w1 yp3):=AA (HRv.out.trans hb)
    clear ho hb hkt
    clear q3 q4 q5 HO HQ HPu HRu HPv HRv
    go_upto_block 6 with fail
    obtain⟨N3,hN⟩: ∃N,N=n+(enc m.first.toNat).length+(enc m.most.toNat).length+(enc m.fns.length).length:=⟨_,rfl⟩
    have HE3:=AA hN
    have hbd:N3+(m.fns.flatMap (Wt)).length≤10000000000000:=by have:=dn.out;have:=HF0.out;have:=kP.out;have:=HF1.out;have:=HE2.out;have:=ZC.out;have:=HE3.out;omega
    clear hN
    go_cut [3] from 114 to 158 (fun v wx=>LaC w1 (N3+(m.fns.flatMap (Wt)).length) v wx)
    case first=>
     have q0:=(C8.out yp3 ACx.out).q 5 rfl
     go_wp2_with fail
     go_loopw [3,8,9,10,11,12] (fun v i _ _ _ _ wr=>LaR w1 N3 (Wt) m.fns v i wr) (fun _ i _ _ _ _ _=>m.fns.length-(intOf i).toNat)
     case atStart=>exact⟨0,_,_,_,Nat.zero_le _,rfl,rfl,by simp [HE3.out],AFN.out,ACx.out⟩
     case round=>
      obtain⟨k,n,A,c,hk,rfl,rfl,hn,ho,hb⟩:=hrel
      have HO:=AA ho;have HQ:=AA hb;have hsz:=hb.size;have HN:=AA hn
      clear ho hb q0 hn
      have q0:=(C8.out wr HQ.out).q 5 rfl
      by_cases hlt:k<m.fns.length
      ·obtain⟨x,hx⟩: ∃x,m.fns[k]?=some x:=⟨_,List.getElem?_eq_getElem hlt⟩
       obtain⟨b,o,iR,oI,rfl,_,hbb,d0,d1,d2,_,_,hcd⟩:=Oy H5.out hx
       have lb:b<w.heap.size:=Nat.lt_of_lt_of_le hbb OG.out
       have hk0:(0:Int)≤k:=by omega
       have hk1:(k:Int)<m.fns.length:=by omega
       obtain⟨hfl,hfm⟩:=QT (f:=Wt) hx
       have VL:=AA hfl
       have hnb:n+(Wt x).length≤10000000000000:=by have:=HN.out;omega
       clear hfl hfm
       obtain⟨⟨ft0,ft1⟩,flz,fcl,fck⟩:=OJ.out.fns x (List.mem_of_getElem? hx)
       have HCK:=AA fck;have HCD:=AA hcd
       have hln:(Wt x).length=(enc x.t.toNat).length+((enc x.loc.size).length+x.loc.size)+(enc x.code.length).length+(x.code.flatMap Kl).length:=by unfold Wt;simp only [List.length_append,Tc]
       rw [hln] at hnb
       have HLN:=AA hln
       have pp:=Dv x.loc.size
       have e0:wr.cell? ⟨b,o+k*3,none⟩=some (.int .i64 x.t):=((Pp.out wr HQ.out).cell lb (p:=⟨b,o+k*3,none⟩)).trans d0
       have e1:wr.cell? ⟨b,o+k*3+1,none⟩=some (.string x.loc):=((Pp.out wr HQ.out).cell lb (p:=⟨b,o+k*3+1,none⟩)).trans d1
       have e2:wr.cell? ⟨b,o+k*3+2,none⟩=some (.slice iR x.code.length oI):=((Pp.out wr HQ.out).cell lb (p:=⟨b,o+k*3+2,none⟩)).trans d2
       clear hx hbb hln fck hcd
       go_upto_region 30 with fail
       generalize hwg:wr.alloc (.cells #[.int .i64 x.t,.string x.loc,.slice iR x.code.length oI] 56)=wg
       have hbg:Below wr.heap.size wr wg:=by rw [←hwg];exact(Below.refl _ _).alloc (Nat.le_refl _) _
       have HGX:Hid (AV wg wr.heap.size 56 [.int .i64 x.t,.string x.loc,.slice iR x.code.length oI]):=AA (by rw [←hwg];exact AV.new wr 56 _)
       have HOg:=AA (HO.out.below hbg)
       have HQg:Hid (Below w1.heap.size w1 wg):=AA (HQ.out.trans (hbg.mono HQ.out.size))
       clear hwg hbg e0 e1 e2 q0 hsz
       have hc0:=HGX.out.q 0 rfl
       go_wp2_with fail
       refine(Pn w1.heap.size _ _ _ x.t wg HOg.out HQg.out.size ⟨ft0,ft1⟩ (by omega)).mono ?_
       rintro e ya ⟨Ca,Ka,rfl,ho,hb,hkt⟩
       have HTa:=AA hkt
       have jJ:=AA ho
       have WG:Hid (Below w1.heap.size w1 ya):=AA (HQg.out.trans hb)
       clear ho hb hkt
       have HGa:=AA (HTa.out _ _ _ (by decide) HGX.out)
       clear hc0
       have hc1:=HGa.out.q 1 rfl
       go_wp2_with fail
       refine(Qx x.loc (by omega) ya).mono ?_
       rintro e xb ⟨Bb,db,rfl,ho,hb⟩
       have HNb:=AA (Row.own ho)
       have HOb:=AA (jJ.out.below hb)
       have HQb:Hid (Below w1.heap.size w1 xb):=AA (WG.out.trans (hb.mono WG.out.size))
       have HXb:=AA (jH.Am hb)
       have hsz:=HQb.out.size
       clear ho hb
       go_upto_region 32 with(at_builtin;refine OO rfl (.tmp 130) (.tmp 133) rfl w1.heap.size _ _ _ rfl HOb.out _ Bb _ _ (enc (x.loc).size++(x.loc).data.toList) rfl (by omega) (Po _) HNb.out (by omega) hsz ?_;intro Cb Kb yb h2 h3 h4;have fU:=AA h2;have qW:=AA (HQb.out.trans h3);have xV:=AA h4;clear h2 h3 h4)
       have HGb:=AA (xV.out _ _ _ (by decide) (HXb.out _ _ _ (by decide) HGa.out))
       clear hc1
       have hc2:=HGb.out.q 2 rfl
       go_wp2_with fail
       refine(Ov w1.heap.size _ _ _ x.code.length yb fU.out qW.out.size (by omega) (by omega)).mono ?_
       rintro e yd ⟨Cd,Kd,rfl,ho,hb,hkt⟩
       have HTd:=AA hkt
       have HPd:=AA ho
       have HRd:Hid (Below w1.heap.size w1 yd):=AA (qW.out.trans hb)
       clear ho hb hkt
       have HGd:=AA (HTd.out _ _ _ (by decide) HGb.out)
       clear hc2 hsz HNb HOb HQb
       have hc2:=HGd.out.q 2 rfl
       go_wp2_with fail
       clear hc2
       obtain⟨M,hM⟩: ∃M,M=n+(enc x.t.toNat).length+((enc x.loc.size).length+x.loc.size)+(enc x.code.length).length:=⟨_,rfl⟩
       have hMb:M+(x.code.flatMap Kl).length≤10000000000000:=by omega
       have HM:=AA hM
       clear hM
       obtain⟨wo,rfl⟩: ∃wo:World,wo=wr:=⟨_,rfl⟩
       go_loopw [3,10,11,12] (fun v i _ _ wr=>LaR w1 M Kl x.code v i wr∧AV wr wo.heap.size 56 [.int .i64 x.t,.string x.loc,.slice iR x.code.length oI]) (fun _ i _ _ _=>x.code.length-(intOf i).toNat)
       case atStart=>exact⟨⟨0,_,_,_,Nat.zero_le _,rfl,rfl,by simp [HM.out],HPd.out,HRd.out⟩,HGd.out⟩
       case round=>
        obtain⟨⟨j,nj,Aj,cj,hj,rfl,rfl,hnj,hoj,hbj⟩,hgj⟩:=hrel
        have HOj:=AA hoj;have HQj:=AA hbj;have HNj:=AA hnj;have HGj:=AA hgj
        have hc2:=hgj.q 2 rfl
        clear hoj hbj hnj hgj
        by_cases hjl:j<x.code.length
        ·obtain⟨z,hz⟩: ∃z,x.code[j]?=some z:=⟨_,List.getElem?_eq_getElem hjl⟩
         obtain⟨b2,o2,cs2,eC,hb2,i0,i1,i2,hrz⟩: ∃b2 o2 cs2,iR=some ⟨b2,o2,none⟩∧b2<hi∧w.cell? ⟨b2,o2+j*3,none⟩=some (.int .u8 (z.op.toNat:Int))∧w.cell? ⟨b2,o2+j*3+1,none⟩=some (.int .i64 z.a)∧w.cell? ⟨b2,o2+j*3+2,none⟩=some cs2∧I_.R w 0 hi [.int .u8 (z.op.toNat:Int),.int .i64 z.a,cs2] z:=by
          obtain⟨b2,o2,Al,cl,e1,_,h2,h3,h4,h5,h6,h7⟩:=Nf HCD.out hz
          exact⟨b2,o2,_,e1,h2,h3,h4,h5,D9.2 ⟨_,rfl,h6,h7⟩⟩
         subst eC
         have lb2:b2<w.heap.size:=Nat.lt_of_lt_of_le hb2 OG.out
         have hj0:(0:Int)≤j:=by omega
         have hj1:(j:Int)<x.code.length:=by omega
         have e0:=((Pp.out wr HQj.out).cell lb2 (p:=⟨b2,o2+j*3,none⟩)).trans i0
         have e1:=((Pp.out wr HQj.out).cell lb2 (p:=⟨b2,o2+j*3+1,none⟩)).trans i1
         have e2:=((Pp.out wr HQj.out).cell lb2 (p:=⟨b2,o2+j*3+2,none⟩)).trans i2
         have hck:=HCK.out z (List.mem_of_getElem? hz)
         have hpz:=dZ hck
         have HEN:=eU [.int .u8 (z.op.toNat:Int),.int .i64 z.a,cs2] hi z wr (Rd.below hrz (Pp.out wr HQj.out) OG.out) (Nat.le_trans OG.out (Pp.out wr HQj.out).size)
         rw [show Dm z=Kl z from if_pos hck,hck] at HEN
         have HEN:=AA HEN
         obtain⟨AFQ,hfm2⟩:=QT (f:=Kl) hz
         have HFL2:=AA AFQ
         have hnb2:nj+(Kl z).length≤10000000000000:=by have:=HNj.out;omega
         clear hz hb2 i0 i1 i2 hrz hck AFQ hfm2
         go_wp2_with fail
         refine HEN.out.mono ?_
         rintro e xe ⟨hbe,Be,de,rfl,hoe⟩
         have HNe:=AA (Row.own hoe)
         have HOe:=AA (HOj.out.below hbe)
         have HQe:Hid (Below w1.heap.size w1 xe):=AA (HQj.out.trans (hbe.mono HQj.out.size))
         have HGe:=AA (HGj.out.below hbe HGj.out.lt)
         have hsz:=HQe.out.size
         clear hbe hoe e0 e1 e2 hc2
         go_wp2_with (at_builtin;refine OO rfl (.tmp 156) (.tmp 157) rfl w1.heap.size _ _ _ rfl HOe.out _ Be _ _ (Kl z) rfl hpz rfl HNe.out (by omega) hsz ?_;intro Cf Kf yf h2 h3 h4;have HPf:=AA h2;have HRf:=AA (HQe.out.trans h3);have HTf:=AA h4;clear h2 h3 h4)
         exact⟨⟨⟨j+1,_,_,_,by omega,by go_num,rfl,by have:=HNj.out;have:=HFL2.out;omega,HPf.out,HRf.out⟩,HTf.out _ _ _ (by decide) HGe.out⟩,by simp [intOf];omega⟩
        ·go_wp2_with fail
         exact⟨⟨k+1,_,_,_,by omega,by go_num,rfl,by have:=SV (f:=Kl) (show j=x.code.length by omega);have:=HN.out;have:=VL.out;have:=HLN.out;have:=HM.out;have:=HNj.out;omega,HOj.out,HQj.out⟩,by simp [intOf];omega⟩
      ·go_wp2_with fail
       go_meet
       exact⟨_,_,_,by have:=SV (f:=Wt) (show k=m.fns.length by omega);have:=HN.out;omega,rfl,HO.out,HQ.out⟩
    case rest=>
     obtain⟨n,A,c,hn,rfl,ho,hb⟩:=hcut
     have HO:=AA ho;have HQ:=AA hb;have hsz:=hb.size
     have HF3:=AA hn
     have hnb:n≤10000000000000:=by omega
     clear ho hb hn hbd AFN ACx
     have q0:=(C8.out wc HQ.out).q 6 rfl
     go_wp2_with fail
     refine(Ov w1.heap.size _ _ _ m.dat.length wc HO.out HQ.out.size (by omega) (by omega)).mono ?_
     rintro e yp4 ⟨Cp4,Kp4,rfl,ho,hb,hkt⟩
     have HTp4:=AA hkt
     have AFR:=AA ho
     have ACy:Hid (Below w1.heap.size w1 yp4):=AA (HQ.out.trans hb)
     clear ho hb hkt
     clear q0 HO HQ
     go_upto_block 10 with fail
     obtain⟨N4,hN⟩: ∃N,N=n+(enc m.dat.length).length:=⟨_,rfl⟩
     have HE4:=AA hN
     have hbd:N4+(m.dat.flatMap (Mv)).length≤10000000000000:=by have:=dn.out;have:=HF0.out;have:=kP.out;have:=HF1.out;have:=HE2.out;have:=ZC.out;have:=HE3.out;have:=HF3.out;have:=HE4.out;omega
     clear hN
     go_cut [3] from 164 to 188 (fun v wx=>LaC w1 (N4+(m.dat.flatMap (Mv)).length) v wx)
     case first=>
      have q0:=(C8.out yp4 ACy.out).q 6 rfl
      go_wp2_with fail
      go_loopw [3,13] (fun v i wr=>LaR w1 N4 (Mv) m.dat v i wr) (fun _ i _=>m.dat.length-(intOf i).toNat)
      case atStart=>exact⟨0,_,_,_,Nat.zero_le _,rfl,rfl,by simp [HE4.out],AFR.out,ACy.out⟩
      case round=>
       obtain⟨k,n,A,c,hk,rfl,rfl,hn,ho,hb⟩:=hrel
       have HO:=AA ho;have HQ:=AA hb;have hsz:=hb.size;have HN:=AA hn
       clear ho hb q0 hn
       have q0:=(C8.out wr HQ.out).q 6 rfl
       by_cases hlt:k<m.dat.length
       ·obtain⟨x,hx⟩: ∃x,m.dat[k]?=some x:=⟨_,List.getElem?_eq_getElem hlt⟩
        obtain⟨b,o,Sb,Rl,rfl,_,hbb,d0,d1,_,hrb⟩:=Jd H6.out hx
        have lb:b<w.heap.size:=Nat.lt_of_lt_of_le hbb OG.out
        have hk0:(0:Int)≤k:=by omega
        have hk1:(k:Int)<m.dat.length:=by omega
        obtain⟨hfl,hfm⟩:=QT (f:=Mv) hx
        have VL:=AA hfl
        have hnb:n+(Mv x).length≤10000000000000:=by have:=HN.out;omega
        clear hfl hfm
        obtain⟨⟨ft0,ft1⟩,fbl⟩:=OJ.out.dat x (List.mem_of_getElem? hx)
        have hln:(Mv x).length=(enc x.at_.toNat).length+((enc x.b.length).length+x.b.length):=by unfold Mv;simp only [List.length_append]
        rw [hln] at hnb
        have HLN:=AA hln
        have pp:=Dv x.b.length
        have HRB:=AA (Rd.qd hrb).2
        have e0:wr.cell? ⟨b,o+k*2,none⟩=some (.int .i64 x.at_):=((Pp.out wr HQ.out).cell lb (p:=⟨b,o+k*2,none⟩)).trans d0
        clear hx hbb hln hrb
        go_wp2_with fail
        refine(Pn w1.heap.size _ _ _ x.at_ wr HO.out HQ.out.size ⟨ft0,ft1⟩ (by omega)).mono ?_
        rintro e ya ⟨Ca,Ka,rfl,ho,hb,hkt⟩
        have HTa:=AA hkt
        have jJ:=AA ho
        have WG:Hid (Below w1.heap.size w1 ya):=AA (HQ.out.trans hb)
        clear ho hb hkt
        go_upto_region 43 with fail
        clear q0 e0
        have q0:=(C8.out ya WG.out).q 6 rfl
        have e1:ya.cell? ⟨b,o+k*2+1,none⟩=some (.slice Sb x.b.length Rl):=((Pp.out ya WG.out).cell lb (p:=⟨b,o+k*2+1,none⟩)).trans d1
        have hcv:=Ki (P:=prog) 41 5 9 underlying41 underlying5 underlying9 ya hi Sb x.b.length Rl x.b rfl (HRB.out.below' (Pp.out ya WG.out) OG.out)
        obtain⟨sb,hsb⟩: ∃sb:ByteArray,sb=⟨x.b.toArray⟩:=⟨_,rfl⟩
        have hsl:sb.size=x.b.length:=by rw [hsb];simp [ByteArray.size]
        rw [←hsb] at hcv
        have pq:=Dv sb.size
        have HSL:=AA hsl
        have TI:sb.size≤300000:=by omega
        have hnb3:n+((enc x.at_.toNat).length+((enc sb.size).length+sb.size))≤10000000000000:=by rw [hsl];exact hnb
        clear hsb hsl
        go_wp2_with fail
        refine(Qx sb (by omega) ya).mono ?_
        rintro e xb ⟨Bb,db,rfl,ho,hb⟩
        have HNb:=AA (Row.own ho)
        have HOb:=AA (jJ.out.below hb)
        have HQb:Hid (Below w1.heap.size w1 xb):=AA (WG.out.trans (hb.mono WG.out.size))
        have HXb:=AA (jH.Am hb)
        have hsz:=HQb.out.size
        clear ho hb
        go_wp2_with (at_builtin;refine OO rfl (.tmp 179) (.tmp 187) rfl w1.heap.size _ _ _ rfl HOb.out _ Bb _ _ (enc (sb).size++(sb).data.toList) rfl (by omega) (Po _) HNb.out (by omega) hsz ?_;intro Cb Kb yb h2 h3 h4;have fU:=AA h2;have qW:=AA (HQb.out.trans h3);have xV:=AA h4;clear h2 h3 h4)
        exact⟨⟨k+1,_,_,_,by omega,by go_num,rfl,by have:=HN.out;have:=VL.out;have:=HLN.out;rw [HSL.out];omega,fU.out,qW.out⟩,by simp [intOf];omega⟩
       ·go_wp2_with fail
        go_meet
        exact⟨_,_,_,by have:=SV (f:=Mv) (show k=m.dat.length by omega);have:=HN.out;omega,rfl,HO.out,HQ.out⟩
     case rest=>
      obtain⟨n,A,c,hn,rfl,ho,hb⟩:=hcut
      have HO:=AA ho;have HQ:=AA hb;have hsz:=hb.size
      have zi:=AA hn
      have hnb:n≤10000000000000:=by omega
      clear ho hb hn hbd AFR ACy
      have q0:=(C8.out wc HQ.out).q 7 rfl
      go_wp2_with fail
      refine(Ov w1.heap.size _ _ _ m.AO.length wc HO.out HQ.out.size (by omega) (by omega)).mono ?_
      rintro e yp5 ⟨Cp5,Kp5,rfl,ho,hb,hkt⟩
      have HTp5:=AA hkt
      have AFS:=AA ho
      have ACz:Hid (Below w1.heap.size w1 yp5):=AA (HQ.out.trans hb)
      clear ho hb hkt
      clear q0 HO HQ
      go_upto_block 12 with fail
      obtain⟨N5,hN⟩: ∃N,N=n+(enc m.AO.length).length:=⟨_,rfl⟩
      have Zt:=AA hN
      have hbd:N5+(m.AO.flatMap (Ni)).length≤10000000000000:=by have:=dn.out;have:=HF0.out;have:=kP.out;have:=HF1.out;have:=HE2.out;have:=ZC.out;have:=HE3.out;have:=HF3.out;have:=HE4.out;have:=zi.out;have:=Zt.out;omega
      clear hN
      go_cut [3] from 194 to 217 (fun v wx=>LaC w1 (N5+(m.AO.flatMap (Ni)).length) v wx)
      case first=>
       have q0:=(C8.out yp5 ACz.out).q 7 rfl
       go_wp2_with fail
       go_loopw [3,14] (fun v i wr=>LaR w1 N5 (Ni) m.AO v i wr) (fun _ i _=>m.AO.length-(intOf i).toNat)
       case atStart=>exact⟨0,_,_,_,Nat.zero_le _,rfl,rfl,by simp [Zt.out],AFS.out,ACz.out⟩
       case round=>
        obtain⟨k,n,A,c,hk,rfl,rfl,hn,ho,hb⟩:=hrel
        have HO:=AA ho;have HQ:=AA hb;have hsz:=hb.size;have HN:=AA hn
        clear ho hb q0 hn
        have q0:=(C8.out wr HQ.out).q 7 rfl
        by_cases hlt:k<m.AO.length
        ·obtain⟨x,hx⟩: ∃x,m.AO[k]?=some x:=⟨_,List.getElem?_eq_getElem hlt⟩
         obtain⟨b,o,rfl,_,hbb,d0,d1,_,_⟩:=LB H7.out hx
         have lb:b<w.heap.size:=Nat.lt_of_lt_of_le hbb OG.out
         have hk0:(0:Int)≤k:=by omega
         have hk1:(k:Int)<m.AO.length:=by omega
         obtain⟨hfl,hfm⟩:=QT (f:=Ni) hx
         have VL:=AA hfl
         have hnb:n+(Ni x).length≤10000000000000:=by have:=HN.out;omega
         clear hfl hfm
         obtain⟨⟨ft0,ft1⟩,fnz⟩:=OJ.out.AO x (List.mem_of_getElem? hx)
         have hln:(Ni x).length=((enc x.n.size).length+x.n.size)+(enc x.f.toNat).length:=by unfold Ni;rw [List.length_append,Tc]
         rw [hln] at hnb
         have HLN:=AA hln
         have pp:=Dv x.n.size
         have e0:wr.cell? ⟨b,o+k*2,none⟩=some (.string x.n):=((Pp.out wr HQ.out).cell lb (p:=⟨b,o+k*2,none⟩)).trans d0
         clear hx hbb hln
         go_wp2_with fail
         refine(Qx x.n (by omega) wr).mono ?_
         rintro e xa ⟨Ba,da,rfl,ho,hb⟩
         have HNa:=AA (Row.own ho)
         have HOa:=AA (HO.out.below hb)
         have HQa:Hid (Below w1.heap.size w1 xa):=AA (HQ.out.trans (hb.mono HQ.out.size))
         have HXa:=AA (jH.Am hb)
         have hsz:=HQa.out.size
         clear ho hb
         go_upto_region 49 with(at_builtin;refine OO rfl (.tmp 201) (.tmp 208) rfl w1.heap.size _ _ _ rfl HOa.out _ Ba _ _ (enc (x.n).size++(x.n).data.toList) rfl (by omega) (Po _) HNa.out (by omega) hsz ?_;intro Ca Ka ya h2 h3 h4;have jJ:=AA h2;have WG:=AA (HQa.out.trans h3);have HTa:=AA h4;clear h2 h3 h4)
         clear q0 e0
         have q0:=(C8.out ya WG.out).q 7 rfl
         have e1:ya.cell? ⟨b,o+k*2+1,none⟩=some (.int .i64 x.f):=((Pp.out ya WG.out).cell lb (p:=⟨b,o+k*2+1,none⟩)).trans d1
         go_wp2_with fail
         refine(Pn w1.heap.size _ _ _ x.f ya jJ.out WG.out.size ⟨ft0,ft1⟩ (by omega)).mono ?_
         rintro e yb ⟨Cb,Kb,rfl,ho,hb,hkt⟩
         have xV:=AA hkt
         have fU:=AA ho
         have qW:Hid (Below w1.heap.size w1 yb):=AA (WG.out.trans hb)
         clear ho hb hkt
         go_wp2_with fail
         exact⟨⟨k+1,_,_,_,by omega,by go_num,rfl,by have:=HN.out;have:=VL.out;have:=HLN.out;omega,fU.out,qW.out⟩,by simp [intOf];omega⟩
        ·go_wp2_with fail
         go_meet
         exact⟨_,_,_,by have:=SV (f:=Ni) (show k=m.AO.length by omega);have:=HN.out;omega,rfl,HO.out,HQ.out⟩
      case rest=>
       obtain⟨n,A,c,hn,rfl,ho,hb⟩:=hcut
       have HO:=AA ho;have HQ:=AA hb;have hsz:=hb.size
       have HF5:=AA hn
       have hnb:n≤10000000000000:=by omega
       clear ho hb hn hbd AFS ACz
       go_wp2_with fail
       go_ret
       exact⟨Pp.out _ HQ.out,A,c,by have he:n=(OW m).length:=(by rw [←HT.out];have:=dn.out;have:=HF0.out;have:=kP.out;have:=HF1.out;have:=HE2.out;have:=ZC.out;have:=HE3.out;have:=HF3.out;have:=HE4.out;have:=zi.out;have:=Zt.out;have:=HF5.out;omega);rw [he];rfl⟩
end Go.Proofs.YtebgikflpgcnlaaGreatDoor
