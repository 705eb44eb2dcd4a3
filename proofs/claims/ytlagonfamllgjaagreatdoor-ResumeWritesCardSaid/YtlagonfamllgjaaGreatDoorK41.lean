/- Part 41 of the proof: RefK SlT -/
import Derived.Test.YtlagonfamllgjaaGreatDoorK40
namespace Go.Proofs.YtlagonfamllgjaaGreatDoor
set_option linter.unusedVariables false
set_option linter.unusedSimpArgs false
set_option maxRecDepth 100000
set_option maxHeartbeats 4000000
open Go.RowKit Tryz
theorem D7 {b:Bool} {e:Int} (he:e≠0) (h:Ae b e=0):b=true:=by
 cases b with
 | true=>rfl
 | false=>exact absurd h he
theorem vv {m:AP} (h:KI m=0) (Df:FN m) (hle:Bg m≤2147483647):AEa m:=by
 obtain⟨hh,hb⟩:=AV h
 obtain⟨ht,hh⟩:=AV hh
 obtain⟨ho,hh⟩:=AV hh
 obtain⟨hg,hp⟩:=AV hh
 obtain⟨hf,hb⟩:=AV hb
 obtain⟨hd,hx⟩:=AV hb
 obtain⟨t1,t2⟩:=AV ht
 obtain⟨o1,o2⟩:=AV ho
 obtain⟨g1,g2⟩:=AV hg
 obtain⟨f1,f2⟩:=AV hf
 obtain⟨d1,d2⟩:=AV hd
 obtain⟨x1,x2⟩:=AV hx
 have t1:=of_decide_eq_true (D7 (by decide) t1)
 have o1:=of_decide_eq_true (D7 (by decide) o1)
 have g1:=of_decide_eq_true (D7 (by decide) g1)
 have f1:=of_decide_eq_true (D7 (by decide) f1)
 have d1:=of_decide_eq_true (D7 (by decide) d1)
 have x1:=of_decide_eq_true (D7 (by decide) x1)
 have hp:=of_decide_eq_true (D7 (by decide) hp)
 have hty: ∀t∈m.types,t.p.size≤8∧t.r.size≤8:=fun t hm=>by
  obtain⟨k,hk⟩:=List.getElem?_of_mem hm
  have h0:=BQ t2 k (List.getElem?_eq_some_iff.1 hk).1
  rw [QG hk] at h0
  obtain⟨a,b⟩:=AV h0
  obtain⟨b,_⟩:=AV b
  have a:=(FP a).1
  have b:=(FP b).1
  omega
 have hgf:=NK (k:=m.globs.length) g2
 have hdk:=oP hp.1 hp.2.1 d2 (Nat.le_refl _)
 rw [List.take_length] at hdk
 refine⟨hty,fun t hm=> ?_,fun x hm=> ?_,⟨hp.1,hp.2.1⟩,⟨by omega,hp.2.2.2⟩,fun f hm=> ?_,fun d hm=> ?_,fun x hm=> ?_,⟨by omega,by omega,by omega,by omega,by omega,by omega⟩,?_⟩
 ·obtain⟨k,hk⟩:=List.getElem?_of_mem hm
  have h0:=BQ o2 k (List.getElem?_eq_some_iff.1 hk).1
  rw [Xx hk] at h0
  have:=of_decide_eq_true (D7 (by decide) h0)
  omega
 ·obtain⟨k,hk⟩:=List.getElem?_of_mem hm
  obtain⟨a,b⟩:=hgf k x (List.getElem?_eq_some_iff.1 hk).1 hk
  exact⟨a,b,Df.globs x hm⟩
 ·obtain⟨k,hk⟩:=List.getElem?_of_mem hm
  have h0:=BQ f2 k (List.getElem?_eq_some_iff.1 hk).1
  rw [QV hk] at h0
  obtain⟨a,b⟩:=AV h0
  obtain⟨b,c⟩:=AV b
  obtain⟨c,d⟩:=AV c
  obtain⟨d,e⟩:=AV d
  have a:=of_decide_eq_true (D7 (by decide) a)
  have b:=(FP b).1
  have c:=of_decide_eq_true (D7 (by decide) c)
  refine⟨by omega,by omega,c,fun x hxm=> ?_⟩
  obtain⟨j,hj⟩:=List.getElem?_of_mem hxm
  have:=BQ e j (List.getElem?_eq_some_iff.1 hj).1
  rwa [Ph hj] at this
 ·have:=hdk d hm
  omega
 ·obtain⟨k,hk⟩:=List.getElem?_of_mem hm
  have h0:=BQ x2 k (List.getElem?_eq_some_iff.1 hk).1
  rw [Rm hk] at h0
  obtain⟨a,b⟩:=AV h0
  obtain⟨a,_⟩:=AV a
  unfold Np at a
  obtain⟨a,_⟩:=AV a
  have a:=of_decide_eq_true (D7 (by decide) a)
  have b:=of_decide_eq_true (D7 (by decide) b)
  exact⟨by omega,by omega⟩
 ·have h1:=U4 Df hle (fun j x hj hx=>(hgf j x hj hx).2)
  have h2:=V5 Df hle m.fns.length m.fns.length (by omega)
  have h3:=V6 Df hle m.dat.length m.dat.length (by omega)
  have h4:=Xw Df hle m.Au.length m.Au.length (by omega)
  rw [List.take_length] at h2 h3 h4
  unfold KY R4
  simp only [List.length_append] at h1 h2 h3 h4⊢
  have:MO.length=5:=rfl
  omega
theorem vw {m:AP} (hle:Bg m≤2147483647): ∀d∈m.dat,d.b.length≤2147483647:=fun d hd=>by
 have:=C_ (fun d:Gh=>d.b.length) m.dat d hd
 unfold Bg at hle
 omega
theorem oW (cs:List Value) (hi:Nat) (m:AP) (w:World) (h:DJ.R w 0 hi cs m) (hhi:hi≤w.heap.size) (hle:Bg m≤2147483647):
 Calls prog 111 #[.agg cs.toArray] w fun e w'=>Below w.heap.size w w'∧e= .returned (.int .i64 (KI m)):=by
 have H:=AA h;have Bw:=AA hhi;have I7:=AA hle
 obtain⟨e1,he1⟩: ∃e,Cq (Dl m) (Dv m)=e:=⟨_,rfl⟩
 obtain⟨e2,he2⟩: ∃e,Cq (FK m) (Fu m)=e:=⟨_,rfl⟩
 obtain⟨e3,yC⟩: ∃e,Ja m=e:=⟨_,rfl⟩
 obtain⟨e4,jV⟩: ∃e,Cq (F5 m) (I5 m)=e:=⟨_,rfl⟩
 have HP:Hid (KI m=Cq e1 (Cq e2 (Cq e3 e4))):=AA (by
  rw [←he1,←he2,←yC,←jV];unfold KI I4 Ii
  simp only [EM])
 have YC:=AA he1;have HE2:=AA he2;have oG:=AA yC;have mq:=AA jV
 clear hhi hle he1 he2 yC jV
 obtain⟨v1,v2,v3,v4,v5,v6,rfl,_⟩:=Am.1 h
 go_enter func111,ntmps111
 go_upto_region 1 with fail
 generalize hw1:w.alloc (.cells #[v1,v2,v3,.int .i64 m.first,.int .i64 m.most,v4,v5,v6] 29)=w1
 obtain⟨hb1,hx1⟩:=QK hw1
 have HB1:=AA hb1
 have Bp:Hid (∀W,Below w1.heap.size w1 W→AQ W w.heap.size 29 [v1,v2,v3,.int .i64 m.first,.int .i64 m.most,v4,v5,v6]):=AA (fun W hW=>hx1.below hW hx1.lt)
 clear hw1 hb1 hx1
 clear h
 have q0:w1.cell? ⟨w.heap.size,0,none⟩=some (v1):=(Bp.out w1 (Below.refl _ _)).cell 0
 have q1:w1.cell? ⟨w.heap.size,1,none⟩=some (v2):=(Bp.out w1 (Below.refl _ _)).cell 1
 have q2:w1.cell? ⟨w.heap.size,2,none⟩=some (v3):=(Bp.out w1 (Below.refl _ _)).cell 2
 have q3:w1.cell? ⟨w.heap.size,3,none⟩=some (.int .i64 m.first):=(Bp.out w1 (Below.refl _ _)).cell 3
 have q4:w1.cell? ⟨w.heap.size,4,none⟩=some (.int .i64 m.most):=(Bp.out w1 (Below.refl _ _)).cell 4
 have q5:w1.cell? ⟨w.heap.size,5,none⟩=some (v4):=(Bp.out w1 (Below.refl _ _)).cell 5
 have q6:w1.cell? ⟨w.heap.size,6,none⟩=some (v5):=(Bp.out w1 (Below.refl _ _)).cell 6
 have q7:w1.cell? ⟨w.heap.size,7,none⟩=some (v6):=(Bp.out w1 (Below.refl _ _)).cell 7
 go_wp2_with fail
 refine(UY _ hi m w1 (Rd.below H.out HB1.out Bw.out) (Nat.le_trans Bw.out HB1.out.size)).mono ?_
 rintro e w2 ⟨hb2,rfl⟩
 rw [YC.out]
 have HB2:=AA hb2
 clear hb2
 clear q0 q1 q2 q3 q4 q5 q6 q7
 by_cases h1:e1=0
 case neg=>
  have k1:(e1==0)=false:=by rw [beq_eq_false_iff_ne];exact h1
  have HX:=AA (HP.out.trans (Br h1))
  clear h1
  go_wp2_with fail
  go_ret
  exact⟨HB1.out.trans (HB2.out.mono HB1.out.size),by rw [HX.out];rfl⟩
 subst h1
 have q0:=(Bp.out w2 HB2.out).q 0 rfl
 have q1:=(Bp.out w2 HB2.out).q 1 rfl
 have q2:=(Bp.out w2 HB2.out).q 2 rfl
 have q3:=(Bp.out w2 HB2.out).q 3 rfl
 have q4:=(Bp.out w2 HB2.out).q 4 rfl
 have q5:=(Bp.out w2 HB2.out).q 5 rfl
 have q6:=(Bp.out w2 HB2.out).q 6 rfl
 have q7:=(Bp.out w2 HB2.out).q 7 rfl
 go_wp2_with fail
 have Nl:Hid (Below w.heap.size w w2):=AA (HB1.out.trans (HB2.out.mono HB1.out.size))
 refine(RO _ hi m w2 (Rd.below H.out Nl.out Bw.out) (Nat.le_trans Bw.out Nl.out.size)).mono ?_
 rintro e w3 ⟨hb3,rfl⟩
 rw [HE2.out]
 have HB3:Hid (Below w1.heap.size w1 w3):=AA (HB2.out.trans (hb3.mono HB2.out.size))
 clear hb3
 clear q0 q1 q2 q3 q4 q5 q6 q7
 by_cases h2:e2=0
 case neg=>
  have k2:(e2==0)=false:=by rw [beq_eq_false_iff_ne];exact h2
  have HX:=AA (HP.out.trans ((AY rfl).trans (Br h2)))
  clear h2
  go_wp2_with fail
  go_ret
  exact⟨HB1.out.trans (HB3.out.mono HB1.out.size),by rw [HX.out];rfl⟩
 subst h2
 have hty: ∀t∈m.types,t.p.size≤8:=fun t hm=>by
  obtain⟨ht,_⟩:=AV YC.out
  obtain⟨_,t2⟩:=AV ht
  obtain⟨k,hk⟩:=List.getElem?_of_mem hm
  have h0:=BQ t2 k (List.getElem?_eq_some_iff.1 hk).1
  rw [QG hk] at h0
  have a:=(FP (AV h0).1).1
  omega
 have L8:=AA hty
 clear hty
 have q0:=(Bp.out w3 HB3.out).q 0 rfl
 have q1:=(Bp.out w3 HB3.out).q 1 rfl
 have q2:=(Bp.out w3 HB3.out).q 2 rfl
 have q3:=(Bp.out w3 HB3.out).q 3 rfl
 have q4:=(Bp.out w3 HB3.out).q 4 rfl
 have q5:=(Bp.out w3 HB3.out).q 5 rfl
 have q6:=(Bp.out w3 HB3.out).q 6 rfl
 have q7:=(Bp.out w3 HB3.out).q 7 rfl
 go_wp2_with fail
 have HBB:Hid (Below w.heap.size w w3):=AA (HB1.out.trans (HB3.out.mono HB1.out.size))
 refine(Pb _ hi m w3 (Rd.below H.out HBB.out Bw.out) (Nat.le_trans Bw.out HBB.out.size) L8.out).mono ?_
 rintro e w4 ⟨hb4,rfl⟩
 rw [oG.out]
 have C9:Hid (Below w1.heap.size w1 w4):=AA (HB3.out.trans (hb4.mono HB3.out.size))
 clear hb4
 clear q0 q1 q2 q3 q4 q5 q6 q7
 by_cases h3:e3=0
 case neg=>
  have k3:(e3==0)=false:=by rw [beq_eq_false_iff_ne];exact h3
  have HX:=AA (HP.out.trans ((AY rfl).trans ((AY rfl).trans (Br h3))))
  clear h3
  go_wp2_with fail
  go_ret
  exact⟨HB1.out.trans (C9.out.mono HB1.out.size),by rw [HX.out];rfl⟩
 subst h3
 have hpg:=of_decide_eq_true (D7 (by decide) (AV HE2.out).2)
 have hfn:=of_decide_eq_true (D7 (by decide) (AV oG.out).1)
 have Zv:=AA hpg;have gu:=AA hfn
 clear hpg hfn
 have q0:=(Bp.out w4 C9.out).q 0 rfl
 have q1:=(Bp.out w4 C9.out).q 1 rfl
 have q2:=(Bp.out w4 C9.out).q 2 rfl
 have q3:=(Bp.out w4 C9.out).q 3 rfl
 have q4:=(Bp.out w4 C9.out).q 4 rfl
 have q5:=(Bp.out w4 C9.out).q 5 rfl
 have q6:=(Bp.out w4 C9.out).q 6 rfl
 have q7:=(Bp.out w4 C9.out).q 7 rfl
 go_wp2_with fail
 have HBC:Hid (Below w.heap.size w w4):=AA (HB1.out.trans (C9.out.mono HB1.out.size))
 refine(Wo _ hi m w4 (Rd.below H.out HBC.out Bw.out) (Nat.le_trans Bw.out HBC.out.size) Zv.out.1 Zv.out.2.1 gu.out (vw I7.out)).mono ?_
 rintro e w5 ⟨hb5,rfl⟩
 rw [mq.out]
 have D8:Hid (Below w.heap.size w w5):=AA (HBC.out.trans (hb5.mono HBC.out.size))
 clear hb5
 clear q0 q1 q2 q3 q4 q5 q6 q7
 have HX:=AA (HP.out.trans ((AY rfl).trans ((AY rfl).trans (AY rfl))))
 go_wp2_with fail
 go_ret
 exact⟨D8.out,by rw [HX.out];rfl⟩
theorem iW (cs:List Value) (hi:Nat) (m:AP) (w:World) (h:DJ.R w 0 hi cs m) (hhi:hi≤w.heap.size) (hle:Bg m≤2147483647) (Df:FN m):
 Calls prog 85 #[.agg cs.toArray] w fun e w'=>Below w.heap.size w w'∧ ∃v,e= .returned (.tuple #[v,.int .i64 (Gj m)]):=by
 have H:=AA h;have Bw:=AA hhi;have I7:=AA hle;have zB:=AA Df
 obtain⟨pe,hpe⟩: ∃e,KI m=e:=⟨_,rfl⟩
 have HP:=AA hpe
 clear hhi hle Df hpe
 obtain⟨v1,v2,v3,v4,v5,v6,rfl,_⟩:=Am.1 h
 go_enter func85,ntmps85
 go_upto_region 1 with fail
 generalize hw1:w.alloc (.cells #[v1,v2,v3,.int .i64 m.first,.int .i64 m.most,v4,v5,v6] 29)=w1
 obtain⟨hb1,hx1⟩:=QK hw1
 have HB1:=AA hb1
 have Bp:Hid (∀W,Below w1.heap.size w1 W→AQ W w.heap.size 29 [v1,v2,v3,.int .i64 m.first,.int .i64 m.most,v4,v5,v6]):=AA (fun W hW=>hx1.below hW hx1.lt)
 clear hw1 hb1 hx1
 clear h
 have q0:w1.cell? ⟨w.heap.size,0,none⟩=some (v1):=(Bp.out w1 (Below.refl _ _)).cell 0
 have q1:w1.cell? ⟨w.heap.size,1,none⟩=some (v2):=(Bp.out w1 (Below.refl _ _)).cell 1
 have q2:w1.cell? ⟨w.heap.size,2,none⟩=some (v3):=(Bp.out w1 (Below.refl _ _)).cell 2
 have q3:w1.cell? ⟨w.heap.size,3,none⟩=some (.int .i64 m.first):=(Bp.out w1 (Below.refl _ _)).cell 3
 have q4:w1.cell? ⟨w.heap.size,4,none⟩=some (.int .i64 m.most):=(Bp.out w1 (Below.refl _ _)).cell 4
 have q5:w1.cell? ⟨w.heap.size,5,none⟩=some (v4):=(Bp.out w1 (Below.refl _ _)).cell 5
 have q6:w1.cell? ⟨w.heap.size,6,none⟩=some (v5):=(Bp.out w1 (Below.refl _ _)).cell 6
 have q7:w1.cell? ⟨w.heap.size,7,none⟩=some (v6):=(Bp.out w1 (Below.refl _ _)).cell 7
 go_wp2_with fail
 refine(oW _ hi m w1 (Rd.below H.out HB1.out Bw.out) (Nat.le_trans Bw.out HB1.out.size) I7.out).mono ?_
 rintro e w2 ⟨hb2,rfl⟩
 rw [HP.out]
 have HB2:=AA hb2
 clear hb2
 clear q0 q1 q2 q3 q4 q5 q6 q7
 have Nl:Hid (Below w.heap.size w w2):=AA (HB1.out.trans (HB2.out.mono HB1.out.size))
 by_cases h1:pe=0
 case neg=>
  have k1:(pe !=0)=true:=by rw [bne_iff_ne];exact h1
  have HX:Hid (Gj m=pe):=AA (by unfold Gj;rw [HP.out,Br h1])
  clear h1
  go_wp2_with fail
  go_ret2
  exact⟨Nl.out,_,by rw [HX.out];rfl⟩
 subst h1
 have q0:=(Bp.out w2 HB2.out).q 0 rfl
 have q1:=(Bp.out w2 HB2.out).q 1 rfl
 have q2:=(Bp.out w2 HB2.out).q 2 rfl
 have q3:=(Bp.out w2 HB2.out).q 3 rfl
 have q4:=(Bp.out w2 HB2.out).q 4 rfl
 have q5:=(Bp.out w2 HB2.out).q 5 rfl
 have q6:=(Bp.out w2 HB2.out).q 6 rfl
 have q7:=(Bp.out w2 HB2.out).q 7 rfl
 go_wp2_with fail
 refine(vg _ hi m w2 (Rd.below H.out Nl.out Bw.out) (Nat.le_trans Bw.out Nl.out.size) (vv HP.out zB.out I7.out)).mono ?_
 rintro e w3 ⟨hb3,A,c,rfl⟩
 have HB3:Hid (Below w.heap.size w w3):=AA (Nl.out.trans (hb3.mono Nl.out.size))
 clear hb3
 clear q0 q1 q2 q3 q4 q5 q6 q7
 by_cases hl:(KY m).length≤65536
 ·have k1:decide (65536<(KY m).length)=false:=decide_eq_false (by omega)
  have k1i:decide ((65536:Int)<((KY m).length:Int))=false:=decide_eq_false (by omega)
  have HX:Hid (Gj m=0):=AA (by unfold Gj;rw [HP.out,AY rfl,BX (decide_eq_true hl)])
  clear hl
  go_wp2_with fail
  go_ret2
  exact⟨HB3.out,_,by rw [HX.out];rfl⟩
 ·have k1:decide (65536<(KY m).length)=true:=decide_eq_true (by omega)
  have k1i:decide ((65536:Int)<((KY m).length:Int))=true:=decide_eq_true (by omega)
  have HX:Hid (Gj m=13):=AA (by unfold Gj;rw [HP.out,AY rfl,CJ (decide_eq_false hl)])
  clear hl
  go_wp2_with fail
  go_ret2
  exact⟨HB3.out,_,by rw [HX.out];rfl⟩
theorem oZ (cs:List Value) (hi:Nat) (m:AP) (w:World) (h:DJ.R w 0 hi cs m) (hhi:hi≤w.heap.size) (hle:Bg m≤2147483647) (Df:FN m):
 Calls prog 54 #[.agg cs.toArray] w fun e w'=>Below w.heap.size w w'∧e= .returned (.int .i64 (Gj m)):=by
 have H:=AA h;have Bw:=AA hhi;have I7:=AA hle;have zB:=AA Df
 clear hhi hle Df
 obtain⟨v1,v2,v3,v4,v5,v6,rfl,_⟩:=Am.1 h
 go_enter func54,ntmps54
 go_upto_region 1 with fail
 generalize hw1:w.alloc (.cells #[v1,v2,v3,.int .i64 m.first,.int .i64 m.most,v4,v5,v6] 29)=w1
 obtain⟨hb1,hx1⟩:=QK hw1
 have HB1:=AA hb1
 have Bp:Hid (∀W,Below w1.heap.size w1 W→AQ W w.heap.size 29 [v1,v2,v3,.int .i64 m.first,.int .i64 m.most,v4,v5,v6]):=AA (fun W hW=>hx1.below hW hx1.lt)
 clear hw1 hb1 hx1
 clear h
 have q0:w1.cell? ⟨w.heap.size,0,none⟩=some (v1):=(Bp.out w1 (Below.refl _ _)).cell 0
 have q1:w1.cell? ⟨w.heap.size,1,none⟩=some (v2):=(Bp.out w1 (Below.refl _ _)).cell 1
 have q2:w1.cell? ⟨w.heap.size,2,none⟩=some (v3):=(Bp.out w1 (Below.refl _ _)).cell 2
 have q3:w1.cell? ⟨w.heap.size,3,none⟩=some (.int .i64 m.first):=(Bp.out w1 (Below.refl _ _)).cell 3
 have q4:w1.cell? ⟨w.heap.size,4,none⟩=some (.int .i64 m.most):=(Bp.out w1 (Below.refl _ _)).cell 4
 have q5:w1.cell? ⟨w.heap.size,5,none⟩=some (v4):=(Bp.out w1 (Below.refl _ _)).cell 5
 have q6:w1.cell? ⟨w.heap.size,6,none⟩=some (v5):=(Bp.out w1 (Below.refl _ _)).cell 6
 have q7:w1.cell? ⟨w.heap.size,7,none⟩=some (v6):=(Bp.out w1 (Below.refl _ _)).cell 7
 go_wp2_with fail
 refine(iW _ hi m w1 (Rd.below H.out HB1.out Bw.out) (Nat.le_trans Bw.out HB1.out.size) I7.out zB.out).mono ?_
 rintro e w2 ⟨hb2,v,rfl⟩
 have HB2:Hid (Below w.heap.size w w2):=AA (HB1.out.trans (hb2.mono HB1.out.size))
 clear hb2
 clear q0 q1 q2 q3 q4 q5 q6 q7
 go_wp2_with fail
 go_ret
 exact⟨HB2.out,rfl⟩
theorem aR {α:Type} {r:Rd α} {sp:Bool} {W:World} {lo hi:Nat} {A:Option Addr} {n c:Nat} {xs:List α} (h:(r.sl sp).R W lo hi [.slice A n c] xs):n≤c:=by
 obtain⟨A',c',he,hs,_⟩:=h
 injection he with he _
 injection he with h1 h2 h3
 have:=hs.2
 omega
theorem dQ {α:Type} {r:Rd α} {W:World} {lo hi:Nat} {A:Option Addr} {n c:Nat} {xs:List α} (h:(r.sl false).R W lo hi [.slice A n c] xs) {k:Nat} (hk:k≤n):(r.sl false).R W lo hi [.slice A k c] (xs.take k):=by
 have hc:=aR h
 have hn:=Bq h
 obtain⟨A',c',he,hs,hx⟩:=h
 injection he with he _
 injection he with h1 h2 h3
 subst h1 h2 h3
 have hl:(xs.take k).length=k:=by rw [List.length_take];omega
 refine⟨A,c,by rw [hl],⟨fun h=>(by cases h),by rw [hl];omega⟩,fun h0=> ?_⟩
 obtain⟨b,o,e,b1,b2,hx⟩:=hx (by omega)
 refine⟨b,o,e,b1,b2,fun j x hj=>hx j x ?_⟩
 rw [List.getElem?_take] at hj
 split at hj
 ·exact hj
 ·cases hj
end Go.Proofs.YtlagonfamllgjaaGreatDoor
