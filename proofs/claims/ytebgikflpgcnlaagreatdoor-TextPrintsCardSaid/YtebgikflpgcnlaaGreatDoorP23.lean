/- Part 23 of the proof: RefK R6H R6J R6M -/
import Derived.Test.YtebgikflpgcnlaaGreatDoorP16
import Derived.Test.YtebgikflpgcnlaaGreatDoorP22
namespace Go.Proofs.YtebgikflpgcnlaaGreatDoor
set_option linter.unusedVariables false
set_option linter.unusedSimpArgs false
set_option maxRecDepth 100000
set_option maxHeartbeats 4000000
open Go.RowKit Tryz
theorem Gt {b:Bool} {e:Int} (he:e≠0) (h:Ae b e=0):b=true:=by
 cases b with
 | true=>rfl
 | false=>exact absurd h he
theorem AAb {m:AQ} (h:O1 m=0) (LU:LM m) (hle:Ad m≤2147483647):AFF m:=by
 obtain⟨hh,hb⟩:=AL h
 obtain⟨ht,hh⟩:=AL hh
 obtain⟨ho,hh⟩:=AL hh
 obtain⟨hg,hp⟩:=AL hh
 obtain⟨hf,hb⟩:=AL hb
 obtain⟨hd,hx⟩:=AL hb
 obtain⟨t1,t2⟩:=AL ht
 obtain⟨o1,o2⟩:=AL ho
 obtain⟨g1,g2⟩:=AL hg
 obtain⟨f1,f2⟩:=AL hf
 obtain⟨d1,d2⟩:=AL hd
 obtain⟨x1,x2⟩:=AL hx
 have t1:=of_decide_eq_true (Gt (by decide) t1)
 have o1:=of_decide_eq_true (Gt (by decide) o1)
 have g1:=of_decide_eq_true (Gt (by decide) g1)
 have f1:=of_decide_eq_true (Gt (by decide) f1)
 have d1:=of_decide_eq_true (Gt (by decide) d1)
 have x1:=of_decide_eq_true (Gt (by decide) x1)
 have hp:=of_decide_eq_true (Gt (by decide) hp)
 have hty: ∀t∈m.types,t.p.size≤8∧t.r.size≤8:=fun t hm=>by
  obtain⟨k,hk⟩:=List.getElem?_of_mem hm
  have h0:=Aw t2 k (List.getElem?_eq_some_iff.1 hk).1
  rw [Uq hk] at h0
  obtain⟨a,b⟩:=AL h0
  obtain⟨b,_⟩:=AL b
  have a:=(JX a).1
  have b:=(JX b).1
  omega
 have hgf:=PX (k:=m.globs.length) g2
 have hdk:=uh hp.1 hp.2.1 d2 (Nat.le_refl _)
 rw [List.take_length] at hdk
 refine⟨hty,fun t hm=> ?_,fun x hm=> ?_,⟨hp.1,hp.2.1⟩,⟨by omega,hp.2.2.2⟩,fun f hm=> ?_,fun d hm=> ?_,fun x hm=> ?_,⟨by omega,by omega,by omega,by omega,by omega,by omega⟩,?_⟩
 ·obtain⟨k,hk⟩:=List.getElem?_of_mem hm
  have h0:=Aw o2 k (List.getElem?_eq_some_iff.1 hk).1
  rw [dV hk] at h0
  have:=of_decide_eq_true (Gt (by decide) h0)
  omega
 ·obtain⟨k,hk⟩:=List.getElem?_of_mem hm
  obtain⟨a,b⟩:=hgf k x (List.getElem?_eq_some_iff.1 hk).1 hk
  exact⟨a,b,LU.globs x hm⟩
 ·obtain⟨k,hk⟩:=List.getElem?_of_mem hm
  have h0:=Aw f2 k (List.getElem?_eq_some_iff.1 hk).1
  rw [Ut hk] at h0
  obtain⟨a,b⟩:=AL h0
  obtain⟨b,c⟩:=AL b
  obtain⟨c,d⟩:=AL c
  obtain⟨d,e⟩:=AL d
  have a:=of_decide_eq_true (Gt (by decide) a)
  have b:=(JX b).1
  have c:=of_decide_eq_true (Gt (by decide) c)
  refine⟨by omega,by omega,c,fun x hxm=> ?_⟩
  obtain⟨j,hj⟩:=List.getElem?_of_mem hxm
  have:=Aw e j (List.getElem?_eq_some_iff.1 hj).1
  rwa [TS hj] at this
 ·have:=hdk d hm
  omega
 ·obtain⟨k,hk⟩:=List.getElem?_of_mem hm
  have h0:=Aw x2 k (List.getElem?_eq_some_iff.1 hk).1
  rw [WT hk] at h0
  obtain⟨a,b⟩:=AL h0
  obtain⟨a,_⟩:=AL a
  unfold Qo at a
  obtain⟨a,_⟩:=AL a
  have a:=of_decide_eq_true (Gt (by decide) a)
  have b:=of_decide_eq_true (Gt (by decide) b)
  exact⟨by omega,by omega⟩
 ·have h1:=Yw LU hle (fun j x hj hx=>(hgf j x hj hx).2)
  have h2:=Zc LU hle m.fns.length m.fns.length (by omega)
  have h3:=Zd LU hle m.dat.length m.dat.length (by omega)
  have h4:=bS LU hle m.AO.length m.AO.length (by omega)
  rw [List.take_length] at h2 h3 h4
  unfold OW U9
  simp only [List.length_append] at h1 h2 h3 h4⊢
  have:Py.length=5:=rfl
  omega
theorem AAc {m:AQ} (hle:Ad m≤2147483647): ∀d∈m.dat,d.b.length≤2147483647:=fun d hd=>by
 have:=Dy (fun d:EZ=>d.b.length) m.dat d hd
 unfold Ad at hle
 omega
theorem wQ (cs:List Value) (hi:Nat) (m:AQ) (w:World) (h:IZ.R w 0 hi cs m) (hhi:hi≤w.heap.size) (hle:Ad m≤2147483647):
 Calls prog 133 #[.agg cs.toArray] w fun e w'=>Below w.heap.size w w'∧e= .returned (.int .i64 (O1 m)):=by
 have H:=AA h;have OG:=AA hhi;have OY:=AA hle
 obtain⟨e1,he1⟩: ∃e,EO (El m) (FY m)=e:=⟨_,rfl⟩
 obtain⟨e2,he2⟩: ∃e,EO (JN m) (KR m)=e:=⟨_,rfl⟩
 obtain⟨e3,yw⟩: ∃e,N9 m=e:=⟨_,rfl⟩
 obtain⟨e4,he4⟩: ∃e,EO (KW m) (NZ m)=e:=⟨_,rfl⟩
 have HP:Hid (O1 m=EO e1 (EO e2 (EO e3 e4))):=AA (by
  rw [←he1,←he2,←yw,←he4];unfold O1 NY Mt
  simp only [I6])
 have kP:=AA he1;have HE2:=AA he2;have HE3:=AA yw;have HE4:=AA he4
 clear hhi hle he1 he2 yw he4
 obtain⟨v1,v2,v3,v4,v5,v6,rfl,_⟩:=DF.1 h
 go_enter func133,ntmps133
 go_upto_region 1 with fail
 generalize hw1:w.alloc (.cells #[v1,v2,v3,.int .i64 m.first,.int .i64 m.most,v4,v5,v6] 29)=w1
 obtain⟨hb1,hx1⟩:=eX hw1
 have HB1:=AA hb1
 have C8:Hid (∀W,Below w1.heap.size w1 W→AV W w.heap.size 29 [v1,v2,v3,.int .i64 m.first,.int .i64 m.most,v4,v5,v6]):=AA (fun W hW=>hx1.below hW hx1.lt)
 clear hw1 hb1 hx1
 clear h
 have q0:w1.cell? ⟨w.heap.size,0,none⟩=some (v1):=(C8.out w1 (Below.refl _ _)).cell 0
 have q1:w1.cell? ⟨w.heap.size,1,none⟩=some (v2):=(C8.out w1 (Below.refl _ _)).cell 1
 have q2:w1.cell? ⟨w.heap.size,2,none⟩=some (v3):=(C8.out w1 (Below.refl _ _)).cell 2
 have q3:w1.cell? ⟨w.heap.size,3,none⟩=some (.int .i64 m.first):=(C8.out w1 (Below.refl _ _)).cell 3
 have q4:w1.cell? ⟨w.heap.size,4,none⟩=some (.int .i64 m.most):=(C8.out w1 (Below.refl _ _)).cell 4
 have q5:w1.cell? ⟨w.heap.size,5,none⟩=some (v4):=(C8.out w1 (Below.refl _ _)).cell 5
 have q6:w1.cell? ⟨w.heap.size,6,none⟩=some (v5):=(C8.out w1 (Below.refl _ _)).cell 6
 have q7:w1.cell? ⟨w.heap.size,7,none⟩=some (v6):=(C8.out w1 (Below.refl _ _)).cell 7
 go_wp2_with fail
 refine(Yd _ hi m w1 (Rd.below H.out HB1.out OG.out) (Nat.le_trans OG.out HB1.out.size)).mono ?_
 rintro e w2 ⟨hb2,rfl⟩
 rw [kP.out]
 have HB2:=AA hb2
 clear hb2
 clear q0 q1 q2 q3 q4 q5 q6 q7
 by_cases h1:e1=0
 case neg=>
  have k1:(e1==0)=false:=by rw [beq_eq_false_iff_ne];exact h1
  have HX:=AA (HP.out.trans (Dk h1))
  clear h1
  go_wp2_with fail
  go_ret
  exact⟨HB1.out.trans (HB2.out.mono HB1.out.size),by rw [HX.out];rfl⟩
 subst h1
 have q0:=(C8.out w2 HB2.out).q 0 rfl
 have q1:=(C8.out w2 HB2.out).q 1 rfl
 have q2:=(C8.out w2 HB2.out).q 2 rfl
 have q3:=(C8.out w2 HB2.out).q 3 rfl
 have q4:=(C8.out w2 HB2.out).q 4 rfl
 have q5:=(C8.out w2 HB2.out).q 5 rfl
 have q6:=(C8.out w2 HB2.out).q 6 rfl
 have q7:=(C8.out w2 HB2.out).q 7 rfl
 go_wp2_with fail
 have uf:Hid (Below w.heap.size w w2):=AA (HB1.out.trans (HB2.out.mono HB1.out.size))
 refine(Vj _ hi m w2 (Rd.below H.out uf.out OG.out) (Nat.le_trans OG.out uf.out.size)).mono ?_
 rintro e w3 ⟨hb3,rfl⟩
 rw [HE2.out]
 have HB3:Hid (Below w1.heap.size w1 w3):=AA (HB2.out.trans (hb3.mono HB2.out.size))
 clear hb3
 clear q0 q1 q2 q3 q4 q5 q6 q7
 by_cases h2:e2=0
 case neg=>
  have k2:(e2==0)=false:=by rw [beq_eq_false_iff_ne];exact h2
  have HX:=AA (HP.out.trans ((AY rfl).trans (Dk h2)))
  clear h2
  go_wp2_with fail
  go_ret
  exact⟨HB1.out.trans (HB3.out.mono HB1.out.size),by rw [HX.out];rfl⟩
 subst h2
 have hty: ∀t∈m.types,t.p.size≤8:=fun t hm=>by
  obtain⟨ht,_⟩:=AL kP.out
  obtain⟨_,t2⟩:=AL ht
  obtain⟨k,hk⟩:=List.getElem?_of_mem hm
  have h0:=Aw t2 k (List.getElem?_eq_some_iff.1 hk).1
  rw [Uq hk] at h0
  have a:=(JX (AL h0).1).1
  omega
 have oD:=AA hty
 clear hty
 have q0:=(C8.out w3 HB3.out).q 0 rfl
 have q1:=(C8.out w3 HB3.out).q 1 rfl
 have q2:=(C8.out w3 HB3.out).q 2 rfl
 have q3:=(C8.out w3 HB3.out).q 3 rfl
 have q4:=(C8.out w3 HB3.out).q 4 rfl
 have q5:=(C8.out w3 HB3.out).q 5 rfl
 have q6:=(C8.out w3 HB3.out).q 6 rfl
 have q7:=(C8.out w3 HB3.out).q 7 rfl
 go_wp2_with fail
 have zW:Hid (Below w.heap.size w w3):=AA (HB1.out.trans (HB3.out.mono HB1.out.size))
 refine(TW _ hi m w3 (Rd.below H.out zW.out OG.out) (Nat.le_trans OG.out zW.out.size) oD.out).mono ?_
 rintro e w4 ⟨hb4,rfl⟩
 rw [HE3.out]
 have Ke:Hid (Below w1.heap.size w1 w4):=AA (HB3.out.trans (hb4.mono HB3.out.size))
 clear hb4
 clear q0 q1 q2 q3 q4 q5 q6 q7
 by_cases h3:e3=0
 case neg=>
  have k3:(e3==0)=false:=by rw [beq_eq_false_iff_ne];exact h3
  have HX:=AA (HP.out.trans ((AY rfl).trans ((AY rfl).trans (Dk h3))))
  clear h3
  go_wp2_with fail
  go_ret
  exact⟨HB1.out.trans (Ke.out.mono HB1.out.size),by rw [HX.out];rfl⟩
 subst h3
 have hpg:=of_decide_eq_true (Gt (by decide) (AL HE2.out).2)
 have hfn:=of_decide_eq_true (Gt (by decide) (AL HE3.out).1)
 have HPG:=AA hpg;have oV:=AA hfn
 clear hpg hfn
 have q0:=(C8.out w4 Ke.out).q 0 rfl
 have q1:=(C8.out w4 Ke.out).q 1 rfl
 have q2:=(C8.out w4 Ke.out).q 2 rfl
 have q3:=(C8.out w4 Ke.out).q 3 rfl
 have q4:=(C8.out w4 Ke.out).q 4 rfl
 have q5:=(C8.out w4 Ke.out).q 5 rfl
 have q6:=(C8.out w4 Ke.out).q 6 rfl
 have q7:=(C8.out w4 Ke.out).q 7 rfl
 go_wp2_with fail
 have HBC:Hid (Below w.heap.size w w4):=AA (HB1.out.trans (Ke.out.mono HB1.out.size))
 refine(aF _ hi m w4 (Rd.below H.out HBC.out OG.out) (Nat.le_trans OG.out HBC.out.size) HPG.out.1 HPG.out.2.1 oV.out (AAc OY.out)).mono ?_
 rintro e w5 ⟨hb5,rfl⟩
 rw [HE4.out]
 have I8:Hid (Below w.heap.size w w5):=AA (HBC.out.trans (hb5.mono HBC.out.size))
 clear hb5
 clear q0 q1 q2 q3 q4 q5 q6 q7
 have HX:=AA (HP.out.trans ((AY rfl).trans ((AY rfl).trans (AY rfl))))
 go_wp2_with fail
 go_ret
 exact⟨I8.out,by rw [HX.out];rfl⟩
theorem pO (cs:List Value) (hi:Nat) (m:AQ) (w:World) (h:IZ.R w 0 hi cs m) (hhi:hi≤w.heap.size) (hle:Ad m≤2147483647) (LU:LM m):
 Calls prog 79 #[.agg cs.toArray] w fun e w'=>Below w.heap.size w w'∧ ∃v,e= .returned (.tuple #[v,.int .i64 (FM m)]):=by
 have H:=AA h;have OG:=AA hhi;have OY:=AA hle;have HNM:=AA LU
 obtain⟨pe,hpe⟩: ∃e,O1 m=e:=⟨_,rfl⟩
 have HP:=AA hpe
 clear hhi hle LU hpe
 obtain⟨v1,v2,v3,v4,v5,v6,rfl,_⟩:=DF.1 h
 go_enter func79,ntmps79
 go_upto_region 1 with fail
 generalize hw1:w.alloc (.cells #[v1,v2,v3,.int .i64 m.first,.int .i64 m.most,v4,v5,v6] 29)=w1
 obtain⟨hb1,hx1⟩:=eX hw1
 have HB1:=AA hb1
 have C8:Hid (∀W,Below w1.heap.size w1 W→AV W w.heap.size 29 [v1,v2,v3,.int .i64 m.first,.int .i64 m.most,v4,v5,v6]):=AA (fun W hW=>hx1.below hW hx1.lt)
 clear hw1 hb1 hx1
 clear h
 have q0:w1.cell? ⟨w.heap.size,0,none⟩=some (v1):=(C8.out w1 (Below.refl _ _)).cell 0
 have q1:w1.cell? ⟨w.heap.size,1,none⟩=some (v2):=(C8.out w1 (Below.refl _ _)).cell 1
 have q2:w1.cell? ⟨w.heap.size,2,none⟩=some (v3):=(C8.out w1 (Below.refl _ _)).cell 2
 have q3:w1.cell? ⟨w.heap.size,3,none⟩=some (.int .i64 m.first):=(C8.out w1 (Below.refl _ _)).cell 3
 have q4:w1.cell? ⟨w.heap.size,4,none⟩=some (.int .i64 m.most):=(C8.out w1 (Below.refl _ _)).cell 4
 have q5:w1.cell? ⟨w.heap.size,5,none⟩=some (v4):=(C8.out w1 (Below.refl _ _)).cell 5
 have q6:w1.cell? ⟨w.heap.size,6,none⟩=some (v5):=(C8.out w1 (Below.refl _ _)).cell 6
 have q7:w1.cell? ⟨w.heap.size,7,none⟩=some (v6):=(C8.out w1 (Below.refl _ _)).cell 7
 go_wp2_with fail
 refine(wQ _ hi m w1 (Rd.below H.out HB1.out OG.out) (Nat.le_trans OG.out HB1.out.size) OY.out).mono ?_
 rintro e w2 ⟨hb2,rfl⟩
 rw [HP.out]
 have HB2:=AA hb2
 clear hb2
 clear q0 q1 q2 q3 q4 q5 q6 q7
 have uf:Hid (Below w.heap.size w w2):=AA (HB1.out.trans (HB2.out.mono HB1.out.size))
 by_cases h1:pe=0
 case neg=>
  have k1:(pe !=0)=true:=by rw [bne_iff_ne];exact h1
  have HX:Hid (FM m=pe):=AA (by unfold FM;rw [HP.out,Dk h1])
  clear h1
  go_wp2_with fail
  go_ret2
  exact⟨uf.out,_,by rw [HX.out];rfl⟩
 subst h1
 have q0:=(C8.out w2 HB2.out).q 0 rfl
 have q1:=(C8.out w2 HB2.out).q 1 rfl
 have q2:=(C8.out w2 HB2.out).q 2 rfl
 have q3:=(C8.out w2 HB2.out).q 3 rfl
 have q4:=(C8.out w2 HB2.out).q 4 rfl
 have q5:=(C8.out w2 HB2.out).q 5 rfl
 have q6:=(C8.out w2 HB2.out).q 6 rfl
 have q7:=(C8.out w2 HB2.out).q 7 rfl
 go_wp2_with fail
 refine(AAW _ hi m w2 (Rd.below H.out uf.out OG.out) (Nat.le_trans OG.out uf.out.size) (AAb HP.out HNM.out OY.out)).mono ?_
 rintro e w3 ⟨hb3,A,c,rfl⟩
 have HB3:Hid (Below w.heap.size w w3):=AA (uf.out.trans (hb3.mono uf.out.size))
 clear hb3
 clear q0 q1 q2 q3 q4 q5 q6 q7
 by_cases hl:(OW m).length≤65536
 ·have k1:decide (65536<(OW m).length)=false:=decide_eq_false (by omega)
  have k1i:decide ((65536:Int)<((OW m).length:Int))=false:=decide_eq_false (by omega)
  have HX:Hid (FM m=0):=AA (by unfold FM;rw [HP.out,AY rfl,D_ (decide_eq_true hl)])
  clear hl
  go_wp2_with fail
  go_ret2
  exact⟨HB3.out,_,by rw [HX.out];rfl⟩
 ·have k1:decide (65536<(OW m).length)=true:=decide_eq_true (by omega)
  have k1i:decide ((65536:Int)<((OW m).length:Int))=true:=decide_eq_true (by omega)
  have HX:Hid (FM m=13):=AA (by unfold FM;rw [HP.out,AY rfl,ET (decide_eq_false hl)])
  clear hl
  go_wp2_with fail
  go_ret2
  exact⟨HB3.out,_,by rw [HX.out];rfl⟩
theorem wR (cs:List Value) (hi:Nat) (m:AQ) (w:World) (h:IZ.R w 0 hi cs m) (hhi:hi≤w.heap.size) (hle:Ad m≤2147483647) (LU:LM m):
 Calls prog 38 #[.agg cs.toArray] w fun e w'=>Below w.heap.size w w'∧e= .returned (.int .i64 (FM m)):=by
 have H:=AA h;have OG:=AA hhi;have OY:=AA hle;have HNM:=AA LU
 clear hhi hle LU
 obtain⟨v1,v2,v3,v4,v5,v6,rfl,_⟩:=DF.1 h
 go_enter func38,ntmps38
 go_upto_region 1 with fail
 generalize hw1:w.alloc (.cells #[v1,v2,v3,.int .i64 m.first,.int .i64 m.most,v4,v5,v6] 29)=w1
 obtain⟨hb1,hx1⟩:=eX hw1
 have HB1:=AA hb1
 have C8:Hid (∀W,Below w1.heap.size w1 W→AV W w.heap.size 29 [v1,v2,v3,.int .i64 m.first,.int .i64 m.most,v4,v5,v6]):=AA (fun W hW=>hx1.below hW hx1.lt)
 clear hw1 hb1 hx1
 clear h
 have q0:w1.cell? ⟨w.heap.size,0,none⟩=some (v1):=(C8.out w1 (Below.refl _ _)).cell 0
 have q1:w1.cell? ⟨w.heap.size,1,none⟩=some (v2):=(C8.out w1 (Below.refl _ _)).cell 1
 have q2:w1.cell? ⟨w.heap.size,2,none⟩=some (v3):=(C8.out w1 (Below.refl _ _)).cell 2
 have q3:w1.cell? ⟨w.heap.size,3,none⟩=some (.int .i64 m.first):=(C8.out w1 (Below.refl _ _)).cell 3
 have q4:w1.cell? ⟨w.heap.size,4,none⟩=some (.int .i64 m.most):=(C8.out w1 (Below.refl _ _)).cell 4
 have q5:w1.cell? ⟨w.heap.size,5,none⟩=some (v4):=(C8.out w1 (Below.refl _ _)).cell 5
 have q6:w1.cell? ⟨w.heap.size,6,none⟩=some (v5):=(C8.out w1 (Below.refl _ _)).cell 6
 have q7:w1.cell? ⟨w.heap.size,7,none⟩=some (v6):=(C8.out w1 (Below.refl _ _)).cell 7
 go_wp2_with fail
 refine(pO _ hi m w1 (Rd.below H.out HB1.out OG.out) (Nat.le_trans OG.out HB1.out.size) OY.out HNM.out).mono ?_
 rintro e w2 ⟨hb2,v,rfl⟩
 have HB2:Hid (Below w.heap.size w w2):=AA (HB1.out.trans (hb2.mono HB1.out.size))
 clear hb2
 clear q0 q1 q2 q3 q4 q5 q6 q7
 go_wp2_with fail
 go_ret
 exact⟨HB2.out,rfl⟩
set_option maxRecDepth 1000000 in
theorem wG {w w2:World} {hi hj:Nat} {m:AQ} {A1 A2 A3 A6 A7 A8:Option Addr} {c1 c2 c3 c6 c7 c8:Nat} (C:Hid (M7 w w2 hi hj m A1 c1 A2 c2 A3 c3 A6 c6 A7 c7 A8 c8)) {x:FL} {P:List UInt8} {g:Nat} {Ac:Option Addr} {cc:Nat} {w3:World} {r3:Option Nat} (HF:Hid (vg w hi w3 r3 g x Ac cc)) (Ta:(P++x.code.flatMap JZ).length≤1048576) {A0:Option Addr} {n0 c0:Nat} {WV:World} (HP:Hid ((A_ w2 WV A0 n0 c0 (P)∧Aside w3 r3 WV (.slice A0 n0 c0))))
 (s0 s2 s3 s4 s6 s7 s8 s9 s10 s11 s12 s13 s15 G6 FW IY s20 FP Gx Ea s24 Eb FQ Eu Ev Ew Ey Ez E5 E8 E9 E_ FB GN GQ GR GU GV GX s43 s44 GY GZ Ga Gb s49 Gc Gd Gf s53 Fa Fb Fe Fg Fh Fj Fp Fq Fu Fv Fw Fx FC Fy s68 Fz F3 F4 s72 F5 F6 F7 F8 F9 GA GD GH GI s82 s83 GJ GK GL s87 FD FE FH FI FJ Ec Ed Ee Ef FR FT FU BF BG BH BI BJ BL BM BN BO BP BQ BR BS Ch Ci Cj Ck Cm Cn Co Cq Cr Ct Cw Cx BU Ay BX BZ Bf Bg Cy Cz Bh Bj Bl Bn Bo Bp Bq Br Bt Az Bu Bv Bw Bz B_ CB CS CU CV CW CX CY CZ Cc Ce BK LX LY LZ La Lb Lc Ld Le Lf Lg Lh Li Lj Js Jt Ju Jv Jw Jy Jz J2 J3 J4 J5 J6 J7 J8 J9 J_ KA KC KD KF KG KH KI KJ KL KM KN KO KP Ir Iu u131 Hz H_ IB IC IE ED u138 u139 EF EG EH EI EJ EK EL EM:Value) (Q:Exit→Act→World→Prop) (HX:Hid (∀(u131 Hz H_ IB IC IE ED u138 u139 EF EG EH EI EJ EK EL EM:Value) (A':Option Addr) (n' c':Nat) (wx:World),(A_ w2 wx A' n' c' (P++x.code.flatMap JZ)∧Aside w3 r3 wx (.slice A' n' c'))→Q (.exit 8) ⟨(List.toArray (s0::(.pointer (some ⟨w.heap.size,0,none⟩))::s2::s3::s4::(.slice A' n' c')::s6::s7::s8::s9::s10::s11::s12::s13::(.pointer (some ⟨g,0,none⟩))::s15::(.int .i64 x.code.length)::G6::FW::IY::s20::FP::Gx::Ea::s24::Eb::FQ::Eu::Ev::Ew::Ey::Ez::E5::E8::E9::E_::FB::GN::GQ::GR::GU::GV::GX::s43::s44::GY::GZ::Ga::Gb::s49::Gc::Gd::Gf::s53::Fa::Fb::Fe::Fg::Fh::Fj::Fp::Fq::Fu::Fv::Fw::Fx::FC::Fy::s68::Fz::F3::F4::s72::F5::F6::F7::F8::F9::GA::GD::GH::GI::s82::s83::GJ::GK::GL::s87::FD::FE::FH::FI::FJ::Ec::Ed::Ee::Ef::FR::FT::FU::BF::BG::BH::BI::BJ::BL::BM::BN::BO::BP::BQ::BR::BS::Ch::Ci::Cj::Ck::Cm::Cn::Co::Cq::Cr::Ct::Cw::Cx::BU::Ay::BX::BZ::Bf::Bg::u131::Hz::H_::IB::IC::IE::ED::u138::u139::EF::EG::EH::EI::EJ::EK::EL::EM::Cy::Cz::Bh::Bj::Bl::Bn::Bo::Bp::Bq::Br::Bt::Az::Bu::Bv::Bw::Bz::B_::CB::CS::CU::CV::CW::CX::CY::CZ::Cc::Ce::BK::LX::LY::LZ::La::Lb::Lc::Ld::Le::Lf::Lg::Lh::Li::Lj::Js::Jt::Ju::Jv::Jw::Jy::Jz::J2::J3::J4::J5::J6::J7::J8::J9::J_::KA::KC::KD::KF::KG::KH::KI::KJ::KL::KM::KN::KO::KP::Ir::Iu:: [])),[]⟩ wx)):
 Code.wp prog (Code.loop (kY 3)) Q ⟨(List.toArray (s0::(.pointer (some ⟨w.heap.size,0,none⟩))::s2::s3::s4::(.slice A0 n0 c0)::s6::s7::s8::s9::s10::s11::s12::s13::(.pointer (some ⟨g,0,none⟩))::s15::(.int .i64 0)::G6::FW::IY::s20::FP::Gx::Ea::s24::Eb::FQ::Eu::Ev::Ew::Ey::Ez::E5::E8::E9::E_::FB::GN::GQ::GR::GU::GV::GX::s43::s44::GY::GZ::Ga::Gb::s49::Gc::Gd::Gf::s53::Fa::Fb::Fe::Fg::Fh::Fj::Fp::Fq::Fu::Fv::Fw::Fx::FC::Fy::s68::Fz::F3::F4::s72::F5::F6::F7::F8::F9::GA::GD::GH::GI::s82::s83::GJ::GK::GL::s87::FD::FE::FH::FI::FJ::Ec::Ed::Ee::Ef::FR::FT::FU::BF::BG::BH::BI::BJ::BL::BM::BN::BO::BP::BQ::BR::BS::Ch::Ci::Cj::Ck::Cm::Cn::Co::Cq::Cr::Ct::Cw::Cx::BU::Ay::BX::BZ::Bf::Bg::u131::Hz::H_::IB::IC::IE::ED::u138::u139::EF::EG::EH::EI::EJ::EK::EL::EM::Cy::Cz::Bh::Bj::Bl::Bn::Bo::Bp::Bq::Br::Bt::Az::Bu::Bv::Bw::Bz::B_::CB::CS::CU::CV::CW::CX::CY::CZ::Cc::Ce::BK::LX::LY::LZ::La::Lb::Lc::Ld::Le::Lf::Lg::Lh::Li::Lj::Js::Jt::Ju::Jv::Jw::Jy::Jz::J2::J3::J4::J5::J6::J7::J8::J9::J_::KA::KC::KD::KF::KG::KH::KI::KJ::KL::KM::KN::KO::KP::Ir::Iu:: [])),[]⟩ WV:=by
 refine wp_loop (fun a wx=> ∃(u131 Hz H_ IB IC IE ED u138 u139 EF EG EH EI EJ EK EL EM:Value) (A':Option Addr) (n' c' k:Nat),k≤x.code.length∧(A_ w2 wx A' n' c' (P++(x.code.take k).flatMap JZ)∧Aside w3 r3 wx (.slice A' n' c'))∧a=⟨(List.toArray (s0::(.pointer (some ⟨w.heap.size,0,none⟩))::s2::s3::s4::(.slice A' n' c')::s6::s7::s8::s9::s10::s11::s12::s13::(.pointer (some ⟨g,0,none⟩))::s15::(.int .i64 k)::G6::FW::IY::s20::FP::Gx::Ea::s24::Eb::FQ::Eu::Ev::Ew::Ey::Ez::E5::E8::E9::E_::FB::GN::GQ::GR::GU::GV::GX::s43::s44::GY::GZ::Ga::Gb::s49::Gc::Gd::Gf::s53::Fa::Fb::Fe::Fg::Fh::Fj::Fp::Fq::Fu::Fv::Fw::Fx::FC::Fy::s68::Fz::F3::F4::s72::F5::F6::F7::F8::F9::GA::GD::GH::GI::s82::s83::GJ::GK::GL::s87::FD::FE::FH::FI::FJ::Ec::Ed::Ee::Ef::FR::FT::FU::BF::BG::BH::BI::BJ::BL::BM::BN::BO::BP::BQ::BR::BS::Ch::Ci::Cj::Ck::Cm::Cn::Co::Cq::Cr::Ct::Cw::Cx::BU::Ay::BX::BZ::Bf::Bg::u131::Hz::H_::IB::IC::IE::ED::u138::u139::EF::EG::EH::EI::EJ::EK::EL::EM::Cy::Cz::Bh::Bj::Bl::Bn::Bo::Bp::Bq::Br::Bt::Az::Bu::Bv::Bw::Bz::B_::CB::CS::CU::CV::CW::CX::CY::CZ::Cc::Ce::BK::LX::LY::LZ::La::Lb::Lc::Ld::Le::Lf::Lg::Lh::Li::Lj::Js::Jt::Ju::Jv::Jw::Jy::Jz::J2::J3::J4::J5::J6::J7::J8::J9::J_::KA::KC::KD::KF::KG::KH::KI::KJ::KL::KM::KN::KO::KP::Ir::Iu:: [])),[]⟩) (fun a _=>x.code.length-(intOf (a.tmps.getD 16 undef)).toNat) ?_ ?_
 ·exact⟨u131,Hz,H_,IB,IC,IE,ED,u138,u139,EF,EG,EH,EI,EJ,EK,EL,EM,A0,n0,c0,0,Nat.zero_le _,by rw [List.take_zero,List.flatMap_nil,List.append_nil];exact HP.out,rfl⟩
 intro a wr hI
 clear HP u131 Hz H_ IB IC IE ED u138 u139 EF EG EH EI EJ EK EL EM
 obtain⟨u131,Hz,H_,IB,IC,IE,ED,u138,u139,EF,EG,EH,EI,EJ,EK,EL,EM,A,n,c,k,hk,hp,rfl⟩:=hI
 have HP:=AA hp
 clear hp
 refine Iz (fun K=> ∀(u131 Hz H_ IB IC IE ED u138 u139 EF EG EH EI EJ EK EL EM:Value) (A':Option Addr) (n' c':Nat) (wx:World),k<x.code.length→(A_ w2 wx A' n' c' (P++(x.code.take (k+1)).flatMap JZ)∧Aside w3 r3 wx (.slice A' n' c'))→K ⟨(List.toArray (s0::(.pointer (some ⟨w.heap.size,0,none⟩))::s2::s3::s4::(.slice A' n' c')::s6::s7::s8::s9::s10::s11::s12::s13::(.pointer (some ⟨g,0,none⟩))::s15::(.int .i64 ((k:Int)+1))::G6::FW::IY::s20::FP::Gx::Ea::s24::Eb::FQ::Eu::Ev::Ew::Ey::Ez::E5::E8::E9::E_::FB::GN::GQ::GR::GU::GV::GX::s43::s44::GY::GZ::Ga::Gb::s49::Gc::Gd::Gf::s53::Fa::Fb::Fe::Fg::Fh::Fj::Fp::Fq::Fu::Fv::Fw::Fx::FC::Fy::s68::Fz::F3::F4::s72::F5::F6::F7::F8::F9::GA::GD::GH::GI::s82::s83::GJ::GK::GL::s87::FD::FE::FH::FI::FJ::Ec::Ed::Ee::Ef::FR::FT::FU::BF::BG::BH::BI::BJ::BL::BM::BN::BO::BP::BQ::BR::BS::Ch::Ci::Cj::Ck::Cm::Cn::Co::Cq::Cr::Ct::Cw::Cx::BU::Ay::BX::BZ::Bf::Bg::u131::Hz::H_::IB::IC::IE::ED::u138::u139::EF::EG::EH::EI::EJ::EK::EL::EM::Cy::Cz::Bh::Bj::Bl::Bn::Bo::Bp::Bq::Br::Bt::Az::Bu::Bv::Bw::Bz::B_::CB::CS::CU::CV::CW::CX::CY::CZ::Cc::Ce::BK::LX::LY::LZ::La::Lb::Lc::Ld::Le::Lf::Lg::Lh::Li::Lj::Js::Jt::Ju::Jv::Jw::Jy::Jz::J2::J3::J4::J5::J6::J7::J8::J9::J_::KA::KC::KD::KF::KG::KH::KI::KJ::KL::KM::KN::KO::KP::Ir::Iu:: [])),[]⟩ wx) ?_ ?_
 ·intro u131 Hz H_ IB IC IE ED u138 u139 EF EG EH EI EJ EK EL EM A2 n2 c2 wy hlt hp2
  refine⟨⟨u131,Hz,H_,IB,IC,IE,ED,u138,u139,EF,EG,EH,EI,EJ,EK,EL,EM,A2,n2,c2,k+1,hlt,hp2,rfl⟩,?_⟩
  show x.code.length-(intOf (.int .i64 ((k+1:Nat):Int))).toNat<x.code.length-(intOf (.int .i64 (k:Int))).toNat
  simp [intOf]
  omega
 intro K HK
 conv=>arg 2;whnf
 have Eo:=AA (C.out.Gg.trans (HP.out.1.2.mono C.out.Gg.size))
 have fT:=AA (C.out.blk.below HP.out.1.2 C.out.lt)
 have hsz:w2.heap.size≤wr.heap.size:=HP.out.1.2.size
 have hsw:w.heap.size<w2.heap.size:=C.out.lt
 have hhi:=C.out.hhi
 have hk0:(0:Int)≤k:=by omega
 have HG:Hid (AV wr g 56 [.int .i64 x.t,.string x.loc,.slice Ac x.code.length cc]):=AA (EB HP.out.2.1 HF.out.blk HF.out.ne)
 have q2:=HG.out.q 2 rfl
 by_cases hlt:k<x.code.length
 ·obtain⟨y,hx⟩: ∃y,x.code[k]?=some y:=⟨_,List.getElem?_eq_getElem hlt⟩
  have Lr:(k:Int)<x.code.length:=by omega
  have Ux:x.code.length≤2147483647:=HF.out.few1
  obtain⟨bk,ok,OT,Nt,rfl,_,Kg,hc0,hc1,hc2,Lp,hlab⟩:=Nf (Rd.below HF.out.rd Eo.out hhi) hx
  have Ls:=AA (Dz (P) JZ hx)
  have KZ:=AA (DC (P) JZ hx)
  have K8:=Ta
  have HL2:Hid ((P++(x.code.take k).flatMap JZ).length+(JZ y).length≤140737488351232):=AA (by have:=KZ.out;rw [List.length_append] at this;omega)
  have vk:Hid ((JZ y).length≤1048576):=AA (by have:=KZ.out;rw [List.length_append] at this;omega)
  have Xl:=AA (List.mem_of_getElem? hx)
  clear hx
  have hck:=HF.out.ok y (Xl.out)
  have hll:=HF.out.few2 y (Xl.out)
  have HI:=AA (X0 y OT Nt hi wr hck.1 hck.2.1 hck.2.2 hll hlab (Nat.le_trans hhi Eo.out.size))
  have hz:(BA (PO y)).size≤1048576:=by rw [JY];have:=vk.out;unfold JZ at this;rw [RD] at this;simp only [List.length_append,List.length_cons] at this;omega
  clear HX hlab hck hll
  go_wp2_with fail
  refine HI.out.mono ?_
  rintro e w5 ⟨hb5,rfl⟩
  have ow:=AA (HP.out.1.below hb5)
  have HA5:=AA (HP.out.2.below hb5)
  generalize hd:BA (PO y)=ds at hz⊢
  have X4:Hid ((⟨#[32,32]⟩++ds++⟨#[10]⟩:ByteArray).data.toList=JZ y):=AA (by rw [str3 _ _ _ (PO y) hd.symm];unfold JZ;rw [RD];try rfl)
  clear hb5 hd HI hc0 hc1 hc2 q2
  go_wp2_with (at_builtin;refine SN w2 (w7:=w3) (r7:=r3) _ rfl _ _ rfl A n c _ rfl ow.out HA5.out _ _ X4.out rfl HL2.out ?_;intro A6 n6 c6 w6 h6 Rf;have Oa:=AA h6;have HA6:=AA Rf;clear h6 Rf)
  apply HK.out
  ·exact hlt
  ·rw [←Ls.out];exact⟨Oa.out,HA6.out⟩
 ·obtain rfl:k=x.code.length:=by omega
  have Qf:Hid ((A_ w2 wr A n c (P++x.code.flatMap JZ)∧Aside w3 r3 wr (.slice A n c))):=AA (by have:=HP.out;rw [List.take_length] at this;exact this)
  clear HP HK
  go_wp2_with fail
  apply HX.out
  exact Qf.out
set_option maxRecDepth 1000000 in
theorem AAV {w w2:World} {hi hj:Nat} {m:AQ} {A1 A2 A3 A6 A7 A8:Option Addr} {c1 c2 c3 c6 c7 c8:Nat} (C:Hid (M7 w w2 hi hj m A1 c1 A2 c2 A3 c3 A6 c6 A7 c7 A8 c8)) {A0:Option Addr} {n0 c0:Nat} {WV:World} (HP:Hid (A_ w2 WV A0 n0 c0 (Tj m)))
 (s0 s2 s3 s4 s6 s7 s8 s9 s10 s11 s12 G6 FW IY s20 FP Gx Ea s24 Eb FQ Eu Ev Ew Ey Ez E5 E8 E9 E_ FB GN GQ GR GU GV GX s43 s44 GY GZ Ga Gb s49 Gc Gd Gf s53 Fa Fb Fe Fg Fh Fj Fp Fq Fu Fv Fw Fx FC Fy s68 Fz F3 F4 s72 F5 F6 F7 F8 F9 GA GD GH GI s82 s83 GJ GK GL s87 FD FE FH FI FJ Ec Ed Ee Ef FR FT FU BF BG BH BI BJ Cy Cz Bh Bj Bl Bn Bo Bp Bq Br Bt Az Bu Bv Bw Bz B_ CB CS CU CV CW CX CY CZ Cc Ce BK LX LY LZ La Lb Lc Ld Le Lf Lg Lh Li Lj Js Jt Ju Jv Jw Jy Jz J2 J3 J4 J5 J6 J7 J8 J9 J_ KA KC KD KF KG KH KI KJ KL KM KN KO KP Ir Iu T_ UA u16 u105 Lu Lv Lx L6 L8 L9 L_ MB MC ME Gh Gi Gj u119 Gl Gm Gn Gp u124 MF Vl u127 Vm Vn MG u131 Hz H_ IB IC IE ED u138 u139 EF EG EH EI EJ EK EL EM:Value) (Q:Exit→Act→World→Prop) (HX:Hid (∀(T_ UA u16 u105 Lu Lv Lx L6 L8 L9 L_ MB MC ME Gh Gi Gj u119 Gl Gm Gn Gp u124 MF Vl u127 Vm Vn MG u131 Hz H_ IB IC IE ED u138 u139 EF EG EH EI EJ EK EL EM:Value) (A':Option Addr) (n' c':Nat) (wx:World),A_ w2 wx A' n' c' (Sd m)→Q (.exit 6) ⟨(List.toArray (s0::(.pointer (some ⟨w.heap.size,0,none⟩))::s2::s3::s4::(.slice A' n' c')::s6::s7::s8::s9::s10::s11::s12::(.int .i64 m.fns.length)::T_::UA::u16::G6::FW::IY::s20::FP::Gx::Ea::s24::Eb::FQ::Eu::Ev::Ew::Ey::Ez::E5::E8::E9::E_::FB::GN::GQ::GR::GU::GV::GX::s43::s44::GY::GZ::Ga::Gb::s49::Gc::Gd::Gf::s53::Fa::Fb::Fe::Fg::Fh::Fj::Fp::Fq::Fu::Fv::Fw::Fx::FC::Fy::s68::Fz::F3::F4::s72::F5::F6::F7::F8::F9::GA::GD::GH::GI::s82::s83::GJ::GK::GL::s87::FD::FE::FH::FI::FJ::Ec::Ed::Ee::Ef::FR::FT::FU::BF::BG::BH::BI::BJ::u105::Lu::Lv::Lx::L6::L8::L9::L_::MB::MC::ME::Gh::Gi::Gj::u119::Gl::Gm::Gn::Gp::u124::MF::Vl::u127::Vm::Vn::MG::u131::Hz::H_::IB::IC::IE::ED::u138::u139::EF::EG::EH::EI::EJ::EK::EL::EM::Cy::Cz::Bh::Bj::Bl::Bn::Bo::Bp::Bq::Br::Bt::Az::Bu::Bv::Bw::Bz::B_::CB::CS::CU::CV::CW::CX::CY::CZ::Cc::Ce::BK::LX::LY::LZ::La::Lb::Lc::Ld::Le::Lf::Lg::Lh::Li::Lj::Js::Jt::Ju::Jv::Jw::Jy::Jz::J2::J3::J4::J5::J6::J7::J8::J9::J_::KA::KC::KD::KF::KG::KH::KI::KJ::KL::KM::KN::KO::KP::Ir::Iu:: [])),[]⟩ wx)):
 Code.wp prog (Code.loop (SQ 3)) Q ⟨(List.toArray (s0::(.pointer (some ⟨w.heap.size,0,none⟩))::s2::s3::s4::(.slice A0 n0 c0)::s6::s7::s8::s9::s10::s11::s12::(.int .i64 0)::T_::UA::u16::G6::FW::IY::s20::FP::Gx::Ea::s24::Eb::FQ::Eu::Ev::Ew::Ey::Ez::E5::E8::E9::E_::FB::GN::GQ::GR::GU::GV::GX::s43::s44::GY::GZ::Ga::Gb::s49::Gc::Gd::Gf::s53::Fa::Fb::Fe::Fg::Fh::Fj::Fp::Fq::Fu::Fv::Fw::Fx::FC::Fy::s68::Fz::F3::F4::s72::F5::F6::F7::F8::F9::GA::GD::GH::GI::s82::s83::GJ::GK::GL::s87::FD::FE::FH::FI::FJ::Ec::Ed::Ee::Ef::FR::FT::FU::BF::BG::BH::BI::BJ::u105::Lu::Lv::Lx::L6::L8::L9::L_::MB::MC::ME::Gh::Gi::Gj::u119::Gl::Gm::Gn::Gp::u124::MF::Vl::u127::Vm::Vn::MG::u131::Hz::H_::IB::IC::IE::ED::u138::u139::EF::EG::EH::EI::EJ::EK::EL::EM::Cy::Cz::Bh::Bj::Bl::Bn::Bo::Bp::Bq::Br::Bt::Az::Bu::Bv::Bw::Bz::B_::CB::CS::CU::CV::CW::CX::CY::CZ::Cc::Ce::BK::LX::LY::LZ::La::Lb::Lc::Ld::Le::Lf::Lg::Lh::Li::Lj::Js::Jt::Ju::Jv::Jw::Jy::Jz::J2::J3::J4::J5::J6::J7::J8::J9::J_::KA::KC::KD::KF::KG::KH::KI::KJ::KL::KM::KN::KO::KP::Ir::Iu:: [])),[]⟩ WV:=by
 refine wp_loop (fun a wx=> ∃(T_ UA u16 u105 Lu Lv Lx L6 L8 L9 L_ MB MC ME Gh Gi Gj u119 Gl Gm Gn Gp u124 MF Vl u127 Vm Vn MG u131 Hz H_ IB IC IE ED u138 u139 EF EG EH EI EJ EK EL EM:Value) (A':Option Addr) (n' c' k:Nat),k≤m.fns.length∧A_ w2 wx A' n' c' (Tj m++(m.fns.take k).flatMap Sc)∧a=⟨(List.toArray (s0::(.pointer (some ⟨w.heap.size,0,none⟩))::s2::s3::s4::(.slice A' n' c')::s6::s7::s8::s9::s10::s11::s12::(.int .i64 k)::T_::UA::u16::G6::FW::IY::s20::FP::Gx::Ea::s24::Eb::FQ::Eu::Ev::Ew::Ey::Ez::E5::E8::E9::E_::FB::GN::GQ::GR::GU::GV::GX::s43::s44::GY::GZ::Ga::Gb::s49::Gc::Gd::Gf::s53::Fa::Fb::Fe::Fg::Fh::Fj::Fp::Fq::Fu::Fv::Fw::Fx::FC::Fy::s68::Fz::F3::F4::s72::F5::F6::F7::F8::F9::GA::GD::GH::GI::s82::s83::GJ::GK::GL::s87::FD::FE::FH::FI::FJ::Ec::Ed::Ee::Ef::FR::FT::FU::BF::BG::BH::BI::BJ::u105::Lu::Lv::Lx::L6::L8::L9::L_::MB::MC::ME::Gh::Gi::Gj::u119::Gl::Gm::Gn::Gp::u124::MF::Vl::u127::Vm::Vn::MG::u131::Hz::H_::IB::IC::IE::ED::u138::u139::EF::EG::EH::EI::EJ::EK::EL::EM::Cy::Cz::Bh::Bj::Bl::Bn::Bo::Bp::Bq::Br::Bt::Az::Bu::Bv::Bw::Bz::B_::CB::CS::CU::CV::CW::CX::CY::CZ::Cc::Ce::BK::LX::LY::LZ::La::Lb::Lc::Ld::Le::Lf::Lg::Lh::Li::Lj::Js::Jt::Ju::Jv::Jw::Jy::Jz::J2::J3::J4::J5::J6::J7::J8::J9::J_::KA::KC::KD::KF::KG::KH::KI::KJ::KL::KM::KN::KO::KP::Ir::Iu:: [])),[]⟩) (fun a _=>m.fns.length-(intOf (a.tmps.getD 13 undef)).toNat) ?_ ?_
 ·exact⟨T_,UA,u16,u105,Lu,Lv,Lx,L6,L8,L9,L_,MB,MC,ME,Gh,Gi,Gj,u119,Gl,Gm,Gn,Gp,u124,MF,Vl,u127,Vm,Vn,MG,u131,Hz,H_,IB,IC,IE,ED,u138,u139,EF,EG,EH,EI,EJ,EK,EL,EM,A0,n0,c0,0,Nat.zero_le _,by rw [List.take_zero,List.flatMap_nil,List.append_nil];exact HP.out,rfl⟩
 intro a wr hI
 clear HP T_ UA u16 u105 Lu Lv Lx L6 L8 L9 L_ MB MC ME Gh Gi Gj u119 Gl Gm Gn Gp u124 MF Vl u127 Vm Vn MG u131 Hz H_ IB IC IE ED u138 u139 EF EG EH EI EJ EK EL EM
 obtain⟨T_,UA,u16,u105,Lu,Lv,Lx,L6,L8,L9,L_,MB,MC,ME,Gh,Gi,Gj,u119,Gl,Gm,Gn,Gp,u124,MF,Vl,u127,Vm,Vn,MG,u131,Hz,H_,IB,IC,IE,ED,u138,u139,EF,EG,EH,EI,EJ,EK,EL,EM,A,n,c,k,hk,hp,rfl⟩:=hI
 have HP:=AA hp
 clear hp
 refine Iz (fun K=> ∀(T_ UA u16 u105 Lu Lv Lx L6 L8 L9 L_ MB MC ME Gh Gi Gj u119 Gl Gm Gn Gp u124 MF Vl u127 Vm Vn MG u131 Hz H_ IB IC IE ED u138 u139 EF EG EH EI EJ EK EL EM:Value) (A':Option Addr) (n' c':Nat) (wx:World),k<m.fns.length→A_ w2 wx A' n' c' (Tj m++(m.fns.take (k+1)).flatMap Sc)→K ⟨(List.toArray (s0::(.pointer (some ⟨w.heap.size,0,none⟩))::s2::s3::s4::(.slice A' n' c')::s6::s7::s8::s9::s10::s11::s12::(.int .i64 ((k:Int)+1))::T_::UA::u16::G6::FW::IY::s20::FP::Gx::Ea::s24::Eb::FQ::Eu::Ev::Ew::Ey::Ez::E5::E8::E9::E_::FB::GN::GQ::GR::GU::GV::GX::s43::s44::GY::GZ::Ga::Gb::s49::Gc::Gd::Gf::s53::Fa::Fb::Fe::Fg::Fh::Fj::Fp::Fq::Fu::Fv::Fw::Fx::FC::Fy::s68::Fz::F3::F4::s72::F5::F6::F7::F8::F9::GA::GD::GH::GI::s82::s83::GJ::GK::GL::s87::FD::FE::FH::FI::FJ::Ec::Ed::Ee::Ef::FR::FT::FU::BF::BG::BH::BI::BJ::u105::Lu::Lv::Lx::L6::L8::L9::L_::MB::MC::ME::Gh::Gi::Gj::u119::Gl::Gm::Gn::Gp::u124::MF::Vl::u127::Vm::Vn::MG::u131::Hz::H_::IB::IC::IE::ED::u138::u139::EF::EG::EH::EI::EJ::EK::EL::EM::Cy::Cz::Bh::Bj::Bl::Bn::Bo::Bp::Bq::Br::Bt::Az::Bu::Bv::Bw::Bz::B_::CB::CS::CU::CV::CW::CX::CY::CZ::Cc::Ce::BK::LX::LY::LZ::La::Lb::Lc::Ld::Le::Lf::Lg::Lh::Li::Lj::Js::Jt::Ju::Jv::Jw::Jy::Jz::J2::J3::J4::J5::J6::J7::J8::J9::J_::KA::KC::KD::KF::KG::KH::KI::KJ::KL::KM::KN::KO::KP::Ir::Iu:: [])),[]⟩ wx) ?_ ?_
 ·intro T_ UA u16 u105 Lu Lv Lx L6 L8 L9 L_ MB MC ME Gh Gi Gj u119 Gl Gm Gn Gp u124 MF Vl u127 Vm Vn MG u131 Hz H_ IB IC IE ED u138 u139 EF EG EH EI EJ EK EL EM A2 n2 c2 wy hlt hp2
  refine⟨⟨T_,UA,u16,u105,Lu,Lv,Lx,L6,L8,L9,L_,MB,MC,ME,Gh,Gi,Gj,u119,Gl,Gm,Gn,Gp,u124,MF,Vl,u127,Vm,Vn,MG,u131,Hz,H_,IB,IC,IE,ED,u138,u139,EF,EG,EH,EI,EJ,EK,EL,EM,A2,n2,c2,k+1,hlt,hp2,rfl⟩,?_⟩
  show m.fns.length-(intOf (.int .i64 ((k+1:Nat):Int))).toNat<m.fns.length-(intOf (.int .i64 (k:Int))).toNat
  simp [intOf]
  omega
 intro K HK
 conv=>arg 2;whnf
 have Eo:=AA (C.out.Gg.trans (HP.out.2.mono C.out.Gg.size))
 have fT:=AA (C.out.blk.below HP.out.2 C.out.lt)
 have hsz:w2.heap.size≤wr.heap.size:=HP.out.2.size
 have hsw:w.heap.size<w2.heap.size:=C.out.lt
 have hhi:=C.out.hhi
 have hk0:(0:Int)≤k:=by omega
 have q0:=fT.out.q 5 rfl
 by_cases hlt:k<m.fns.length
 ·obtain⟨x,hx⟩: ∃x,m.fns[k]?=some x:=⟨_,List.getElem?_eq_getElem hlt⟩
  have Lr:(k:Int)<m.fns.length:=by omega
  have Ux:m.fns.length≤2147483647:=by have:=C.out.few;unfold Ad at this;omega
  obtain⟨bk,ok,G_,Gu,rfl,_,Kg,hc0,hc1,hc2,Lp,hsok,hcode⟩:=Oy C.out.h6 hx
  have Ls:=AA (Dz (Tj m) Sc hx)
  have KZ:=AA (DC (Tj m) Sc hx)
  have K8:(Tj m++m.fns.flatMap Sc).length≤1048576:=by have:=Ou m C.out.le;first | exact this.2.1 | exact this.2.2.1 | exact this.2.2.2.1 | exact this.2.2.2.2.1 | exact this.2.2.2.2.2.1 | exact this.2.2.2.2.2.2.1 | exact this.2.2.2.2.2.2.2
  have HL2:Hid ((Tj m++(m.fns.take k).flatMap Sc).length+(Sc x).length≤140737488351232):=AA (by have:=KZ.out;rw [List.length_append] at this;omega)
  have vk:Hid ((Sc x).length≤1048576):=AA (by have:=KZ.out;rw [List.length_append] at this;omega)
  have Xl:=AA (List.mem_of_getElem? hx)
  clear hx
  have hc0:=(Eo.out.cell (p:=⟨bk,ok+k*3,none⟩) (show bk<w.heap.size by omega)).trans hc0
  have hc1:=(Eo.out.cell (p:=⟨bk,ok+k*3+1,none⟩) (show bk<w.heap.size by omega)).trans hc1
  have hc2:=(Eo.out.cell (p:=⟨bk,ok+k*3+2,none⟩) (show bk<w.heap.size by omega)).trans hc2
  have hfl:=C.out.fine.fns x Xl.out
  have hfw:=vE Xl.out C.out.few
  have X3:Hid (∀W,Calls prog 40 #[.int .i64 x.t] W fun e w'=>Below W.heap.size W w'∧e= .returned (.string (BA (Lib.itoa x.t)))):=AA (fun W=>Iq x.t Lp W)
  have hz:(BA (Lib.itoa x.t)).size≤20:=by rw [JY];exact Dc _ Lp
  have oV:Hid (Sc x=Cg [QY,Lib.itoa x.t,EW x.loc]++x.code.flatMap JZ):=AA rfl
  have hzl:(BA (EW x.loc)).size≤1048576:=by rw [JY];have:=vk.out;rw [oV.out,List.length_append,Er] at this;simp only [List.length_append,List.length_cons] at this;omega
  have HLA:Hid ((Tj m++(m.fns.take k).flatMap Sc).length+(Cg [QY,Lib.itoa x.t,EW x.loc]).length≤140737488351232):=AA (by have:=HL2.out;rw [oV.out,List.length_append (bs:=x.code.flatMap JZ)] at this;omega)
  have Ta:((Tj m++(m.fns.take k).flatMap Sc++Cg [QY,Lib.itoa x.t,EW x.loc])++x.code.flatMap JZ).length≤1048576:=by have:=KZ.out;rw [oV.out,←List.append_assoc] at this;omega
  have HNF:Hid ((Tj m++(m.fns.take k).flatMap Sc++Cg [QY,Lib.itoa x.t,EW x.loc])++x.code.flatMap JZ=Tj m++(m.fns.take (k+1)).flatMap Sc):=AA (by rw [List.append_assoc,←oV.out];exact Ls.out)
  have AFE:=AA Ta
  clear HX K8 Ta
  go_upto_region 28 with fail
  generalize hw3:World.alloc _ _=w3
  have HB3:Hid (Below wr.heap.size wr w3):=AA (by rw [←hw3];exact(Below.refl _ _).alloc (Nat.le_refl _) _)
  have Gz:Hid (AV w3 wr.heap.size 56 [.int .i64 x.t,.string x.loc,.slice G_ x.code.length Gu]):=AA (by rw [←hw3];exact AV.new wr _ _)
  have xQ:=AA (HP.out.below HB3.out)
  have Zo:Hid ((Value.slice A n c).ownBlock≠some wr.heap.size):=AA (fun e=>by have:=(HP.out.1.lt _ e).2;omega)
  have HCC:Hid (vg w hi w3 (Value.slice A n c).ownBlock wr.heap.size x G_ Gu):=AA ⟨Gz.out,Zo.out,hcode,hfl.2.2,hfw.1,hfw.2⟩
  have c1':=Gz.out.q 1 rfl
  clear hw3 hc0 hc1 hc2 q0 hcode hfl hfw
  obtain⟨b,hbe⟩: ∃b:Bool,x.loc.toList.isEmpty=b:=⟨_,rfl⟩
  have HLB:Hid (if b=true then BA (EW x.loc)=⟨#[45]⟩ else BA (EW x.loc)=x.loc):=AA (by
   by_cases hl:x.loc=none_
   ·have:b=true:=by rw [←hbe,hl,ByteArray.toList_eq];rfl
    rw [if_pos this,hl]
    rfl
   ·have: ¬b=true:=fun e=>hl (by
     rw [←hbe,ByteArray.toList_eq] at e
     cases hx:x.loc with
     | mk d=>
      rw [hx] at e
      have:d= #[]:=Array.toList_eq_nil_iff.1 (List.isEmpty_iff.1 e)
      rw [this];rfl)
    rw [if_neg this,←dx]
    unfold DI
    rw [if_neg hl])
  go_upto_if 120 with fail
  clear hbe
  go_cut [15] from 105 to 147 (fun a wx=>a= .string (BA (EW x.loc))∧wx=w3)
  case first=>
   cases b with
   | true=>have HS:=HLB;go_wp2_with fail;go_meet;exact⟨congrArg _ (Eq.symm (by simpa using HS.out)),rfl⟩
   | false=>have HS:=HLB;go_wp2_with fail;go_meet;exact⟨congrArg _ (Eq.symm (by simpa using HS.out)),rfl⟩
  case rest=>
   obtain⟨rfl,rfl⟩:=hcut
   obtain⟨w3,rfl⟩: ∃w3:World,w3=wc:=⟨_,rfl⟩
   have c0':=Gz.out.q 0 rfl
   generalize hds:BA (EW x.loc)=ds at hzl⊢
   have HDS:=AA hds
   clear c1' hds
   go_wp2_with fail
   refine(X3.out w3).mono ?_
   rintro e w5 ⟨hb5,rfl⟩
   have ow:=AA (xQ.out.below hb5)
   have I8:=AA hb5
   generalize hda:BA (Lib.itoa x.t)=da at hz⊢
   have X4:Hid ((⟨#[102,117,110,99,32]⟩++da++⟨#[32]⟩++ds++⟨#[10]⟩:ByteArray).data.toList=Cg [QY,Lib.itoa x.t,EW x.loc]):=AA (by rw [←hda,←HDS.out,Er];simp [BA,QY])
   have HA5:Hid (Aside w3 (Value.slice A n c).ownBlock w5 (.slice A n c)):=AA ((Aside.refl w3 (.slice A n c)).below I8.out)
   clear hb5 hda c0'
   go_wp2_with (at_builtin;refine SN w2 (w7:=w3) (r7:=(Value.slice A n c).ownBlock) _ rfl _ _ rfl A n c _ rfl ow.out HA5.out _ _ X4.out rfl HLA.out ?_;intro A8' n6 c6' w6 h6 Rf;have Oa:=AA (And.intro h6 Rf);clear h6 Rf)
   refine wG C HCC AFE.out Oa _ _ _ _ _ _ _ _ _ _ _ _ _ _ _ _ _ _ _ _ _ _ _ _ _ _ _ _ _ _ _ _ _ _ _ _ _ _ _ _ _ _ _ _ _ _ _ _ _ _ _ _ _ _ _ _ _ _ _ _ _ _ _ _ _ _ _ _ _ _ _ _ _ _ _ _ _ _ _ _ _ _ _ _ _ _ _ _ _ _ _ _ _ _ _ _ _ _ _ _ _ _ _ _ _ _ _ _ _ _ _ _ _ _ _ _ _ _ _ _ _ _ _ _ _ _ _ _ _ _ _ _ _ _ _ _ _ _ _ _ _ _ _ _ _ _ _ _ _ _ _ _ _ _ _ _ _ _ _ _ _ _ _ _ _ _ _ _ _ _ _ _ _ _ _ _ _ _ _ _ _ _ _ _ _ _ _ _ _ _ _ _ _ _ _ _ _ _ _ _ _ _ _ _ _ _ _ _ _ _ _ _ _ _ _ _ _ (AA ?_)
   intro v0 v1 v2 v3 v4 v5 v6 v7 v8 v9 v10 v11 v12 v13 v14 v15 v16 A7 n7 c7 wx hpx
   have Qf:Hid (A_ w2 wx A7 n7 c7 (Tj m++(m.fns.take (k+1)).flatMap Sc)):=AA (by rw [←HNF.out];exact hpx.1)
   clear hpx
   go_wp2_with fail
   apply HK.out
   ·exact hlt
   ·exact Qf.out
 ·obtain rfl:k=m.fns.length:=by omega
  have Qf:Hid (A_ w2 wr A n c (Sd m)):=AA (by have:=HP.out;rw [List.take_length] at this;exact this)
  clear HP HK
  go_wp2_with fail
  apply HX.out
  exact Qf.out
set_option maxRecDepth 1000000 in
theorem wJ {w w2:World} {hi hj:Nat} {m:AQ} {A1 A2 A3 A6 A7 A8:Option Addr} {c1 c2 c3 c6 c7 c8:Nat} (C:Hid (M7 w w2 hi hj m A1 c1 A2 c2 A3 c3 A6 c6 A7 c7 A8 c8)) {A0:Option Addr} {n0 c0:Nat} {WV:World} (HP:Hid (A_ w2 WV A0 n0 c0 (VQ m)))
 (s0 s2 s3 s4 s6 s7 s8 s9 s10 s11 s12 s13 G5 s15 s16 G6 FW s20 FP Gx Ea s24 Eb FQ Eu Ev Ew Ey Ez E5 E8 E9 E_ FB GN GQ GR GU GV GX s43 s44 GY GZ Ga Gb s49 Gc Gd Gf s53 Fa Fb Fe Fg Fh Fj Fp Fq Fu Fv Fw Fx FC Fy s68 Fz F3 F4 s72 F5 F6 F7 F8 F9 GA GD GH GI s82 s83 GJ GK GL s87 FD FE FH FI FJ Ec Ed Ee Ef FR FT FU BF BG BH BI BJ BL BM BN BO BP BQ BR BS Ch Ci Cj Ck Cm Cn Co Cq Cr Ct Cw Cx BU Ay BX BZ Bf Bg CO CP CQ DJ DK DL DN DR DT DU DV DW DX DY DZ Da Db Cy Cz Bh Bj Bl Bn Bo Bp Bq Br Bt Az Bu Bv Bw Bz B_ CB CS CU CV CW CX CY CZ Cc Ce BK LX LY LZ La Lb Lc Ld Le Lf Lg Lh Li Lj Js Jt Ju Ir Iu Vu u193 u194 Vv u196 Vw u198 Vx Vy u201 Vz V3 V4 V5 u206 V6 u208 V7 u210 V8 V9 V_ WA WB WC WE:Value) (Q:Exit→Act→World→Prop) (HX:Hid (∀(Vu u193 u194 Vv u196 Vw u198 Vx Vy u201 Vz V3 V4 V5 u206 V6 u208 V7 u210 V8 V9 V_ WA WB WC WE:Value) (A':Option Addr) (n' c':Nat) (wx:World),A_ w2 wx A' n' c' (oN m)→Q (.exit 14) ⟨(List.toArray (s0::(.pointer (some ⟨w.heap.size,0,none⟩))::s2::s3::s4::(.slice A' n' c')::s6::s7::s8::s9::s10::s11::s12::s13::G5::s15::s16::G6::FW::(.int .i64 m.AO.length)::s20::FP::Gx::Ea::s24::Eb::FQ::Eu::Ev::Ew::Ey::Ez::E5::E8::E9::E_::FB::GN::GQ::GR::GU::GV::GX::s43::s44::GY::GZ::Ga::Gb::s49::Gc::Gd::Gf::s53::Fa::Fb::Fe::Fg::Fh::Fj::Fp::Fq::Fu::Fv::Fw::Fx::FC::Fy::s68::Fz::F3::F4::s72::F5::F6::F7::F8::F9::GA::GD::GH::GI::s82::s83::GJ::GK::GL::s87::FD::FE::FH::FI::FJ::Ec::Ed::Ee::Ef::FR::FT::FU::BF::BG::BH::BI::BJ::BL::BM::BN::BO::BP::BQ::BR::BS::Ch::Ci::Cj::Ck::Cm::Cn::Co::Cq::Cr::Ct::Cw::Cx::BU::Ay::BX::BZ::Bf::Bg::CO::CP::CQ::DJ::DK::DL::DN::DR::DT::DU::DV::DW::DX::DY::DZ::Da::Db::Cy::Cz::Bh::Bj::Bl::Bn::Bo::Bp::Bq::Br::Bt::Az::Bu::Bv::Bw::Bz::B_::CB::CS::CU::CV::CW::CX::CY::CZ::Cc::Ce::BK::LX::LY::LZ::La::Lb::Lc::Ld::Le::Lf::Lg::Lh::Li::Lj::Js::Jt::Ju::Vu::u193::u194::Vv::u196::Vw::u198::Vx::Vy::u201::Vz::V3::V4::V5::u206::V6::u208::V7::u210::V8::V9::V_::WA::WB::WC::WE::Ir::Iu:: [])),[]⟩ wx)):
 Code.wp prog (Code.loop (SQ 5)) Q ⟨(List.toArray (s0::(.pointer (some ⟨w.heap.size,0,none⟩))::s2::s3::s4::(.slice A0 n0 c0)::s6::s7::s8::s9::s10::s11::s12::s13::G5::s15::s16::G6::FW::(.int .i64 0)::s20::FP::Gx::Ea::s24::Eb::FQ::Eu::Ev::Ew::Ey::Ez::E5::E8::E9::E_::FB::GN::GQ::GR::GU::GV::GX::s43::s44::GY::GZ::Ga::Gb::s49::Gc::Gd::Gf::s53::Fa::Fb::Fe::Fg::Fh::Fj::Fp::Fq::Fu::Fv::Fw::Fx::FC::Fy::s68::Fz::F3::F4::s72::F5::F6::F7::F8::F9::GA::GD::GH::GI::s82::s83::GJ::GK::GL::s87::FD::FE::FH::FI::FJ::Ec::Ed::Ee::Ef::FR::FT::FU::BF::BG::BH::BI::BJ::BL::BM::BN::BO::BP::BQ::BR::BS::Ch::Ci::Cj::Ck::Cm::Cn::Co::Cq::Cr::Ct::Cw::Cx::BU::Ay::BX::BZ::Bf::Bg::CO::CP::CQ::DJ::DK::DL::DN::DR::DT::DU::DV::DW::DX::DY::DZ::Da::Db::Cy::Cz::Bh::Bj::Bl::Bn::Bo::Bp::Bq::Br::Bt::Az::Bu::Bv::Bw::Bz::B_::CB::CS::CU::CV::CW::CX::CY::CZ::Cc::Ce::BK::LX::LY::LZ::La::Lb::Lc::Ld::Le::Lf::Lg::Lh::Li::Lj::Js::Jt::Ju::Vu::u193::u194::Vv::u196::Vw::u198::Vx::Vy::u201::Vz::V3::V4::V5::u206::V6::u208::V7::u210::V8::V9::V_::WA::WB::WC::WE::Ir::Iu:: [])),[]⟩ WV:=by
 refine wp_loop (fun a wx=> ∃(Vu u193 u194 Vv u196 Vw u198 Vx Vy u201 Vz V3 V4 V5 u206 V6 u208 V7 u210 V8 V9 V_ WA WB WC WE:Value) (A':Option Addr) (n' c' k:Nat),k≤m.AO.length∧A_ w2 wx A' n' c' (VQ m++(m.AO.take k).flatMap NA)∧a=⟨(List.toArray (s0::(.pointer (some ⟨w.heap.size,0,none⟩))::s2::s3::s4::(.slice A' n' c')::s6::s7::s8::s9::s10::s11::s12::s13::G5::s15::s16::G6::FW::(.int .i64 k)::s20::FP::Gx::Ea::s24::Eb::FQ::Eu::Ev::Ew::Ey::Ez::E5::E8::E9::E_::FB::GN::GQ::GR::GU::GV::GX::s43::s44::GY::GZ::Ga::Gb::s49::Gc::Gd::Gf::s53::Fa::Fb::Fe::Fg::Fh::Fj::Fp::Fq::Fu::Fv::Fw::Fx::FC::Fy::s68::Fz::F3::F4::s72::F5::F6::F7::F8::F9::GA::GD::GH::GI::s82::s83::GJ::GK::GL::s87::FD::FE::FH::FI::FJ::Ec::Ed::Ee::Ef::FR::FT::FU::BF::BG::BH::BI::BJ::BL::BM::BN::BO::BP::BQ::BR::BS::Ch::Ci::Cj::Ck::Cm::Cn::Co::Cq::Cr::Ct::Cw::Cx::BU::Ay::BX::BZ::Bf::Bg::CO::CP::CQ::DJ::DK::DL::DN::DR::DT::DU::DV::DW::DX::DY::DZ::Da::Db::Cy::Cz::Bh::Bj::Bl::Bn::Bo::Bp::Bq::Br::Bt::Az::Bu::Bv::Bw::Bz::B_::CB::CS::CU::CV::CW::CX::CY::CZ::Cc::Ce::BK::LX::LY::LZ::La::Lb::Lc::Ld::Le::Lf::Lg::Lh::Li::Lj::Js::Jt::Ju::Vu::u193::u194::Vv::u196::Vw::u198::Vx::Vy::u201::Vz::V3::V4::V5::u206::V6::u208::V7::u210::V8::V9::V_::WA::WB::WC::WE::Ir::Iu:: [])),[]⟩) (fun a _=>m.AO.length-(intOf (a.tmps.getD 19 undef)).toNat) ?_ ?_
 ·exact⟨Vu,u193,u194,Vv,u196,Vw,u198,Vx,Vy,u201,Vz,V3,V4,V5,u206,V6,u208,V7,u210,V8,V9,V_,WA,WB,WC,WE,A0,n0,c0,0,Nat.zero_le _,by rw [List.take_zero,List.flatMap_nil,List.append_nil];exact HP.out,rfl⟩
 intro a wr hI
 clear HP Vu u193 u194 Vv u196 Vw u198 Vx Vy u201 Vz V3 V4 V5 u206 V6 u208 V7 u210 V8 V9 V_ WA WB WC WE
 obtain⟨Vu,u193,u194,Vv,u196,Vw,u198,Vx,Vy,u201,Vz,V3,V4,V5,u206,V6,u208,V7,u210,V8,V9,V_,WA,WB,WC,WE,A,n,c,k,hk,hp,rfl⟩:=hI
 have HP:=AA hp
 clear hp
 refine Iz (fun K=> ∀(Vu u193 u194 Vv u196 Vw u198 Vx Vy u201 Vz V3 V4 V5 u206 V6 u208 V7 u210 V8 V9 V_ WA WB WC WE:Value) (A':Option Addr) (n' c':Nat) (wx:World),k<m.AO.length→A_ w2 wx A' n' c' (VQ m++(m.AO.take (k+1)).flatMap NA)→K ⟨(List.toArray (s0::(.pointer (some ⟨w.heap.size,0,none⟩))::s2::s3::s4::(.slice A' n' c')::s6::s7::s8::s9::s10::s11::s12::s13::G5::s15::s16::G6::FW::(.int .i64 ((k:Int)+1))::s20::FP::Gx::Ea::s24::Eb::FQ::Eu::Ev::Ew::Ey::Ez::E5::E8::E9::E_::FB::GN::GQ::GR::GU::GV::GX::s43::s44::GY::GZ::Ga::Gb::s49::Gc::Gd::Gf::s53::Fa::Fb::Fe::Fg::Fh::Fj::Fp::Fq::Fu::Fv::Fw::Fx::FC::Fy::s68::Fz::F3::F4::s72::F5::F6::F7::F8::F9::GA::GD::GH::GI::s82::s83::GJ::GK::GL::s87::FD::FE::FH::FI::FJ::Ec::Ed::Ee::Ef::FR::FT::FU::BF::BG::BH::BI::BJ::BL::BM::BN::BO::BP::BQ::BR::BS::Ch::Ci::Cj::Ck::Cm::Cn::Co::Cq::Cr::Ct::Cw::Cx::BU::Ay::BX::BZ::Bf::Bg::CO::CP::CQ::DJ::DK::DL::DN::DR::DT::DU::DV::DW::DX::DY::DZ::Da::Db::Cy::Cz::Bh::Bj::Bl::Bn::Bo::Bp::Bq::Br::Bt::Az::Bu::Bv::Bw::Bz::B_::CB::CS::CU::CV::CW::CX::CY::CZ::Cc::Ce::BK::LX::LY::LZ::La::Lb::Lc::Ld::Le::Lf::Lg::Lh::Li::Lj::Js::Jt::Ju::Vu::u193::u194::Vv::u196::Vw::u198::Vx::Vy::u201::Vz::V3::V4::V5::u206::V6::u208::V7::u210::V8::V9::V_::WA::WB::WC::WE::Ir::Iu:: [])),[]⟩ wx) ?_ ?_
 ·intro Vu u193 u194 Vv u196 Vw u198 Vx Vy u201 Vz V3 V4 V5 u206 V6 u208 V7 u210 V8 V9 V_ WA WB WC WE A2 n2 c2 wy hlt hp2
  refine⟨⟨Vu,u193,u194,Vv,u196,Vw,u198,Vx,Vy,u201,Vz,V3,V4,V5,u206,V6,u208,V7,u210,V8,V9,V_,WA,WB,WC,WE,A2,n2,c2,k+1,hlt,hp2,rfl⟩,?_⟩
  show m.AO.length-(intOf (.int .i64 ((k+1:Nat):Int))).toNat<m.AO.length-(intOf (.int .i64 (k:Int))).toNat
  simp [intOf]
  omega
 intro K HK
 conv=>arg 2;whnf
 have Eo:=AA (C.out.Gg.trans (HP.out.2.mono C.out.Gg.size))
 have fT:=AA (C.out.blk.below HP.out.2 C.out.lt)
 have hsz:w2.heap.size≤wr.heap.size:=HP.out.2.size
 have hsw:w.heap.size<w2.heap.size:=C.out.lt
 have hhi:=C.out.hhi
 have hk0:(0:Int)≤k:=by omega
 have q0:=fT.out.q 7 rfl
 by_cases hlt:k<m.AO.length
 ·obtain⟨x,hx⟩: ∃x,m.AO[k]?=some x:=⟨_,List.getElem?_eq_getElem hlt⟩
  have Lr:(k:Int)<m.AO.length:=by omega
  have Ux:m.AO.length≤2147483647:=by have:=C.out.few;unfold Ad at this;omega
  obtain⟨bk,ok,rfl,_,Kg,hc0w,hc1w,hsn,n_⟩:=LB (Rd.below C.out.h8 C.out.Gg hhi) hx
  have Ls:=AA (Dz (VQ m) NA hx)
  have KZ:=AA (DC (VQ m) NA hx)
  have K8:(VQ m++m.AO.flatMap NA).length≤1048576:=by have:=Ou m C.out.le;first | exact this.2.1 | exact this.2.2.1 | exact this.2.2.2.1 | exact this.2.2.2.2.1 | exact this.2.2.2.2.2.1 | exact this.2.2.2.2.2.2.1 | exact this.2.2.2.2.2.2.2
  have HL2:Hid ((VQ m++(m.AO.take k).flatMap NA).length+(NA x).length≤140737488351232):=AA (by have:=KZ.out;rw [List.length_append] at this;omega)
  have vk:Hid ((NA x).length≤1048576):=AA (by have:=KZ.out;rw [List.length_append] at this;omega)
  have Xl:=AA (List.mem_of_getElem? hx)
  clear hx
  have X3:Hid (∀W,Calls prog 40 #[.int .i64 x.f] W fun e w'=>Below W.heap.size W w'∧e= .returned (.string (BA (Lib.itoa x.f)))):=AA (fun W=>Iq x.f n_ W)
  have hz:(BA (Lib.itoa x.f)).size≤20:=by rw [JY];exact Dc _ n_
  have hzn:x.n.size≤1048576:=by have:=vk.out;unfold NA at this;rw [Er] at this;simp only [List.length_append,List.length_cons,SL] at this;omega
  have hbk2:bk<w2.heap.size:=by have:=C.out.hhi;omega
  generalize hda:BA (Lib.itoa x.f)=da at hz X3
  have X4:Hid ((⟨#[101,120,112,111,114,116,32]⟩++x.n++⟨#[32]⟩++da++⟨#[10]⟩:ByteArray).data.toList=NA x):=AA (by rw [←hda];unfold NA;rw [Er];simp [BA,RB])
  have z1: ¬(9223372036854775807<7+x.n.size):=by omega
  have z2: ¬(9223372036854775807<7+x.n.size+1):=by omega
  have z3: ¬(9223372036854775807<7+x.n.size+1+da.size):=by omega
  have z4: ¬(9223372036854775807<7+x.n.size+1+da.size+1):=by omega
  clear HX hda
  have OV:Hid (∀W,Below w2.heap.size w2 W→W.cell? ⟨w.heap.size,7,none⟩=some (.slice (some ⟨bk,ok,none⟩) m.AO.length c8)∧W.cell? ⟨bk,ok+k*2,none⟩=some (.string x.n)∧W.cell? ⟨bk,ok+k*2+1,none⟩=some (.int .i64 x.f)):=AA (fun W hW=>⟨(C.out.blk.below hW C.out.lt).cell 7,(hW.cell (p:=⟨bk,ok+k*2,none⟩) hbk2).trans hc0w,(hW.cell (p:=⟨bk,ok+k*2+1,none⟩) hbk2).trans hc1w⟩)
  have Pq:Hid (Below w2.heap.size w2 wr.drew):=AA HP.out.2.drew
  have HP9:Hid (A_ w2 wr.drew A n c (VQ m++(m.AO.take k).flatMap NA)):=AA (HP.out.below (Below.refl _ _).drew)
  go_upto_region 48 with fail
  refine wp_region_noPanic ?_
  refine wp_region_held_drew (S:=fun W=>W.cell? ⟨w.heap.size,7,none⟩=some (.slice (some ⟨bk,ok,none⟩) m.AO.length c8)∧W.cell? ⟨bk,ok+k*2,none⟩=some (.string x.n)∧W.cell? ⟨bk,ok+k*2+1,none⟩=some (.int .i64 x.f)) (by kernel_rfl) (OV.out _ Pq.out) (fun hHeld=> ?_)
  generalize wr.drew=w9 at*
  refine AB (i:=0) (v:= ?_) rfl (by kernel_rfl) (fun _ _ _ h=>h) (by intro w hSw;(try dsimp only at hSw);go_simp;try with_reducible rfl) hHeld ?_
  refine AB (i:=1) (v:= ?_) rfl (by kernel_rfl) (fun _ _ _ h=>h) (by intro w hSw;(try dsimp only at hSw);go_simp;try with_reducible rfl) hHeld ?_
  refine AB (i:=2) (v:= ?_) rfl (by kernel_rfl) (fun _ _ _ h=>h) (by intro w hSw;(try dsimp only at hSw);go_simp;try with_reducible rfl) hHeld ?_
  refine AB (i:=3) (v:= ?_) rfl (by kernel_rfl) (fun _ _ _ h=>h) (by intro w hSw;(try dsimp only at hSw);go_simp;try with_reducible rfl) hHeld ?_
  refine AB (i:=4) (v:= ?_) rfl (by kernel_rfl) (fun _ _ _ h=>h) (by intro w hSw;(try dsimp only at hSw);go_simp;try with_reducible rfl) hHeld ?_
  refine AB (i:=5) (v:= ?_) rfl (by kernel_rfl) (fun _ _ _ h=>h) (by intro w hSw;(try dsimp only at hSw);go_simp;try with_reducible rfl) hHeld ?_
  refine AB (i:=6) (v:= ?_) rfl (by kernel_rfl) (fun _ _ _ h=>h) (by intro w hSw;(try dsimp only at hSw);go_simp;try with_reducible rfl) hHeld ?_
  refine AB (i:=7) (v:= ?_) rfl (by kernel_rfl) (fun _ _ _ h=>h) (by intro w hSw;(try dsimp only at hSw);go_simp;try with_reducible rfl) hHeld ?_
  refine AB (i:=8) (v:= ?_) rfl (by kernel_rfl) (fun _ _ _ h=>h) (by intro w hSw;(try dsimp only at hSw);go_simp;try with_reducible rfl) hHeld ?_
  refine AB (i:=9) (v:= ?_) rfl (by kernel_rfl) (fun _ _ _ h=>h) (by intro w hSw;(try dsimp only at hSw);go_simp;try with_reducible rfl) hHeld ?_
  refine AB (i:=10) (v:= ?_) rfl (by kernel_rfl) (fun _ _ _ h=>h) (by intro w hSw;(try dsimp only at hSw);go_simp;try with_reducible rfl) hHeld ?_
  refine AB (i:=11) (v:= ?_) rfl (by kernel_rfl) (fun _ _ _ h=>h) (by intro w hSw;(try dsimp only at hSw);go_simp;try with_reducible rfl) hHeld ?_
  refine AB (i:=12) (v:= ?_) rfl (by kernel_rfl) (fun _ _ _ h=>h) (by intro w hSw;(try dsimp only at hSw);go_simp;try with_reducible rfl) hHeld ?_
  refine AB (i:=13) (v:= ?_) rfl (by kernel_rfl) (fun _ _ _ h=>h) (by intro w hSw;(try dsimp only at hSw);go_simp;try with_reducible rfl) hHeld ?_
  refine AB (i:=14) (v:= ?_) rfl (by kernel_rfl) (fun _ _ _ h=>h) (by intro w hSw;(try dsimp only at hSw);go_simp;try with_reducible rfl) hHeld ?_
  refine wpAnyH_ready (rs:= [15]) (by kernel_rfl) (by simp) ?_
  refine AllReadyH.cons rfl (fun K hK=> ?_) AllReadyH.nil
  go_simp
  go_at_call 40
  refine(X3.out _).mono ?_
  rintro e wb ⟨hbb,rfl⟩
  have fU:=AA (HP9.out.below hbb)
  clear hbb
  refine hK.out _ _ (OV.out _ fU.out.2) (fun AX=> ?_)
  clear hK K
  refine AB (i:=16) (v:= ?_) rfl (by kernel_rfl) (fun _ _ _ h=>h) (by intro w hSw;(try dsimp only at hSw);go_simp;try with_reducible rfl) AX ?_
  refine AB (i:=17) (v:= ?_) rfl (by kernel_rfl) (fun _ _ _ h=>h) (by intro w hSw;(try dsimp only at hSw);go_simp;try with_reducible rfl) AX ?_
  refine wpAnyH_ready (rs:= [18]) (by kernel_rfl) (by simp) ?_
  refine AllReadyH.cons rfl (fun K hK=> ?_) AllReadyH.nil
  refine Ig w2 (w7:=wb) (r7:=(Value.slice A n c).ownBlock) rfl _ _ rfl A n c _ rfl fU.out (Aside.refl wb _) _ _ X4.out rfl HL2.out ?_
  intro A6 n6 c6 w6 h6 Rf
  refine hK.out _ _ (OV.out _ h6.2) (fun Kr=> ?_)
  have Oa:=AA h6
  clear hK K h6 Rf
  refine AB (i:=19) (v:= ?_) rfl (by kernel_rfl) (fun _ _ _ h=>h) (by intro w hSw;(try dsimp only at hSw);go_simp;try with_reducible rfl) Kr ?_
  refine wpAnyH_done (by kernel_rfl) ?_ _
  refine NoPanic.normal ?_
  go_simp
  go_wp2_with fail
  apply HK.out
  ·exact hlt
  ·rw [←Ls.out];exact Oa.out
 ·obtain rfl:k=m.AO.length:=by omega
  have Qf:Hid (A_ w2 wr A n c (oN m)):=AA (by have:=HP.out;rw [List.take_length] at this;exact this)
  clear HP HK
  go_wp2_with fail
  apply HX.out
  exact Qf.out
end Go.Proofs.YtebgikflpgcnlaaGreatDoor
