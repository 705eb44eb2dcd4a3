/- Part 43 of the proof: ModK VdS R10Q R14F Ld -/
import Derived.Deep.WholeRow
import Derived.Test.YtlagonfamllgjaaGreatDoorK37
import Derived.Test.YtlagonfamllgjaaGreatDoorK42
namespace Go.Proofs.YtlagonfamllgjaaGreatDoor
set_option linter.unusedVariables false
set_option linter.unusedSimpArgs false
set_option maxRecDepth 100000
set_option maxHeartbeats 4000000
open Go.RowKit Tryz
theorem ou {m:AP} (h:I4 m=0):(∀t∈m.types,t.p.size≤8)∧0≤m.first∧m.first≤64:=by
 obtain⟨ht,hh⟩:=AV h
 obtain⟨_,hh⟩:=AV hh
 obtain⟨_,hp⟩:=AV hh
 obtain⟨_,t2⟩:=AV ht
 have hp:=of_decide_eq_true (Da (by decide) hp)
 refine⟨fun t hm=> ?_,hp.1,by omega⟩
 obtain⟨k,hk⟩:=List.getElem?_of_mem hm
 have:=BQ t2 k (List.getElem?_eq_some_iff.1 hk).1
 rw [QG hk] at this
 have:=(FP (AV this).1).1
 omega
def oz:Array Value:= #[.int .u8 70,.int .u8 76,.int .u8 71,.int .u8 78,.int .u8 1]
def KE (n:Nat) (k:Nat):Prop:=k<n+3∨k=n+5
theorem o7 (w:World) (cs:Array Value) {W:World}
 (hW:((((((w.alloc (.cells cs 29)).alloc (.cells #[.slice none 0 0] 40)).alloc (.cells #[.int .i64 0] 41)).alloc (.cells oz 5 (5,6))).alloc (.cells #[.pointer none,.int .i64 0,.slice (some ⟨w.heap.size+1+1+1,0,none⟩) 5 5] 194)).alloc (.cells #[.int .i64 0] 3))=W):
 Below w.heap.size w W∧AQ W w.heap.size 29 cs.toList∧AQ W (w.heap.size+1) 40 [.slice none 0 0]∧AQ W (w.heap.size+1+1) 41 [.int .i64 0]∧AQ W (w.heap.size+1+1+1+1+1) 3 [.int .i64 0]∧
  Wr W w.heap.size (w.heap.size+1+1+1+1) (KE w.heap.size) (.pointer none) 0 MO:=by
 have h0:=AQ.new w 29 cs.toList
 have h1:=AQ.new (w.alloc (.cells cs 29)) 40 [.slice none 0 0]
 have h2:=AQ.new ((w.alloc (.cells cs 29)).alloc (.cells #[.slice none 0 0] 40)) 41 [.int .i64 0]
 have h4:=AQ.new ((((w.alloc (.cells cs 29)).alloc (.cells #[.slice none 0 0] 40)).alloc (.cells #[.int .i64 0] 41)).alloc (.cells oz 5 (5,6))) 194 [.pointer none,.int .i64 0,.slice (some ⟨w.heap.size+1+1+1,0,none⟩) 5 5]
 have h5:=AQ.new (((((w.alloc (.cells cs 29)).alloc (.cells #[.slice none 0 0] 40)).alloc (.cells #[.int .i64 0] 41)).alloc (.cells oz 5 (5,6))).alloc (.cells #[.pointer none,.int .i64 0,.slice (some ⟨w.heap.size+1+1+1,0,none⟩) 5 5] 194)) 3 [.int .i64 0]
 have h3:=heap_alloc_new (((w.alloc (.cells cs 29)).alloc (.cells #[.slice none 0 0] 40)).alloc (.cells #[.int .i64 0] 41)) (.cells oz 5 (5,6))
 simp only [World.size_alloc] at h1 h2 h3 h4 h5
 have hs:W.heap.size=w.heap.size+6:=by rw [←hW];simp only [World.size_alloc]
 have h3':W.heap[w.heap.size+1+1+1]?=some (.cells oz 5 (5,6)):=by
  rw [←hW,heap_alloc_old _ _ (by simp only [World.size_alloc];omega),heap_alloc_old _ _ (by simp only [World.size_alloc];omega)]
  exact h3
 refine⟨?_,?_,?_,?_,?_,some ⟨w.heap.size+1+1+1,0,none⟩,5,?_,?_,by omega,?_,?_,?_⟩
 ·rw [←hW]
  exact(((((((Below.refl _ _).alloc (Nat.le_refl _) _).alloc (by simp only [World.size_alloc];omega) _).alloc (by simp only [World.size_alloc];omega) _).alloc (by simp only [World.size_alloc];omega) _).alloc (by simp only [World.size_alloc];omega) _).alloc (by simp only [World.size_alloc];omega) _)
 ·rw [←hW];exact((((h0.alloc _).alloc _).alloc _).alloc _).alloc _
 ·rw [←hW];exact(((h1.alloc _).alloc _).alloc _).alloc _
 ·rw [←hW];exact((h2.alloc _).alloc _).alloc _
 ·rw [←hW];exact h5
 ·rw [←hW];exact h4.alloc _
 ·exact .inr ⟨w.heap.size+1+1+1,(5,6),rfl,by omega,h3',rfl⟩
 ·unfold KE;omega
 ·intro k hk
  injection hk with hk
  have hk:w.heap.size+1+1+1=k:=hk
  unfold KE
  omega
 ·intro k hk
  unfold KE at hk
  omega
theorem aS (cs:List Value) (hi:Nat) (m:AP) (w:World) (h:DJ.R w 0 hi cs m) (hhi:hi≤w.heap.size) (hle:Bg m≤2147483647) (Df:FN m)
 (htab: ∀w',Below hi w w'→Lib.TabIs prog w' "strings.asciiSpace" .u8 Lib.asciiSpaceTab):
 Calls prog 107 #[.agg cs.toArray] w fun e w'=>Below w.heap.size w w'∧ ∃v,e= .returned (.tuple #[v,.int .i64 (Gj m)]):=by
 have kc:=fun(v1 v2 v3 v4 v5 v6:Value)=>Lib.run_convert_bytes_const (P:=prog) (((w.alloc (.cells #[v1,v2,v3,.int .i64 m.first,.int .i64 m.most,v4,v5,v6] 29)).alloc (.cells #[.slice none 0 0] 40)).alloc (.cells #[.int .i64 0] 41)) 40 5 #[.int .u8 70,.int .u8 76,.int .u8 71,.int .u8 78,.int .u8 1] 5 5 underlying40 underlying5
 simp only [World.size_alloc] at kc
 have hmf: ∀(fn:Fn) (first cap:Array Value) (w:World),(Instr.makeFunc fn first cap).run prog w= .ok (.func fn first cap) w:=fun _ _ _ _=>rfl
 have H:=AA h;have HT:=AA htab;have HL:=AA hle;have HN:=AA Df
 obtain⟨v1,v2,v3,v4,v5,v6,rfl,_⟩:=Am.1 h
 clear h htab hle Df
 go_enter_defers func107,ntmps107
 go_upto_region 5 with fail
 generalize hw1:World.alloc _ _=w1
 obtain⟨i1,i2,i3,i4,i5,i6⟩:=o7 w _ hw1
 have HB1:=AA i1;have CX:=AA i2;have HGB:=AA i3;have qo:=AA i4;have HGA:=AA i5;have HW1:=AA i6
 have hm0:=i2.q 0 rfl
 have hm1:=i2.q 1 rfl
 have hm2:=i2.q 2 rfl
 have Uu:=i2.q 3 rfl
 have UK:=i2.q 4 rfl
 have hm5:=i2.q 5 rfl
 have gH:=i2.q 6 rfl
 have hm7:=i2.q 7 rfl
 have hhead:=sw _ hi w.heap.size (w.heap.size+1+1+1+1) (KE w.heap.size) m MO w1 (DJ.below H.out i1 hhi) (Nat.le_trans hhi i1.size) (fun k hk=> .inl (by omega)) i6 i1.size HL.out HN.out (by decide)
 clear hw1 kc i1 i2 i3 i4 i5 i6
 generalize Xk:I4 m=EE at hhead
 have HE:=AA Xk
 clear Xk
 go_wp2_with fail
 refine hhead.mono ?_
 clear hhead
 rintro e w2 ⟨hk2,hcase⟩
 rcases hcase with⟨h0,rfl,gs,hd⟩ | ⟨h0,rfl⟩
 case inr=>
  have H0:=AA h0
  have hge:=qo.out.keep hk2 (.inl (by omega))
  have hgb:=HGB.out.keep hk2 (.inl (by omega))
  have hga:=HGA.out.keep hk2 (.inr rfl)
  have HB:=AA (HB1.out.trans ((hk2).below HB1.out.size fun k hk=> .inl (by omega)))
  go_wp2_with fail
  refine leaves_cons (f:=127) (args:= #[.pointer (some ⟨w.heap.size+1+1,0,none⟩),.pointer (some ⟨w.heap.size+1+1+1+1+1,0,none⟩)]) (by simp) (by simp [go_sem]) ?_
  refine(LX (EE) 0 _ _ 0 0 _ hge hga (by omega)).mono ?_
  rintro e u' wx ⟨rfl,rfl,hkx,hbe,hba⟩
  have o8:=hgb.keep hkx (by omega)
  refine leaves_cons (f:=126) (args:= #[.pointer (some ⟨w.heap.size+1+1,0,none⟩),.pointer (some ⟨w.heap.size+1,0,none⟩)]) (by simp [settle]) (by simp [go_sem]) ?_
  refine(J4 _ _ _ (EE) _ _ hbe o8).mono ?_
  rintro e u' wy ⟨rfl,rfl,hky,hby⟩
  have hc1:=hby.cell 0
  have hc2:=(hbe.keep hky (by omega)).cell 0
  have hM:Gj m=EE:=by unfold Gj KI;rw [HE.out,Br (by rw [Br h0];exact h0),Br h0]
  have l8:=(HB.out.trans ((hkx.below (B:=w.heap.size) HB.out.size fun k hk=>by omega).trans (hky.below (B:=w.heap.size) (Nat.le_trans HB.out.size hkx.size) fun k hk=>by omega)))
  simp [Leaves,settle,results,results107,go_sem,hc1,hc2]
  exact⟨l8,hM.symm⟩
 have Pw:Hid (I4 m=0):=AA (HE.out.trans h0)
 have hin:=ou Pw.out
 have Iu:=AA hk2
 have hx2:=CX.out.keep hk2 (.inl (by omega))
 have hs1:=HB1.out.size
 have hlen:(MO++Nq m).length≤300000000000:=by
  have h1:=U4 HN.out HL.out (fun j x hj hx=>(NK (AV (AV (AV (AV Pw.out).2).2).1).2 j x hj hx).2)
  have h2:=HL.out
  rw [List.length_append]
  show 5+_≤_
  omega
 have hbody:=wB _ hi w.heap.size (w.heap.size+1+1+1+1) gs (KE w.heap.size) m (MO++Nq m) w2 (Rd.C8 (DJ.below H.out HB1.out hhi) hk2 (by omega) (fun j _ h=> .inl (by omega))) (by have:=hk2.size;omega) (fun k hk=> .inl (by omega)) hd (by have:=hk2.size;omega) ⟨HL.out,HN.out,hin.1,hin.2.1,hin.2.2⟩ hlen (fun w' hb=>HT.out w' ((HB1.out.mono hhi).trans ((hk2.below (B:=hi) (by omega) fun k hk=> .inl (by omega)).trans hb)))
 have hm0:=hx2.q 0 rfl
 have hm1:=hx2.q 1 rfl
 have hm2:=hx2.q 2 rfl
 have Uu:=hx2.q 3 rfl
 have UK:=hx2.q 4 rfl
 have hm5:=hx2.q 5 rfl
 have gH:=hx2.q 6 rfl
 have hm7:=hx2.q 7 rfl
 clear hd h0 hin hs1 hlen hk2 hx2
 generalize hE2:Ii m=E2 at hbody
 have HE2:=AA hE2
 clear hE2
 go_wp2_with fail
 refine hbody.mono ?_
 clear hbody
 rintro e w3 ⟨hk3,hcase⟩
 have hk3:=Iu.out.trans hk3
 rcases hcase with⟨h0,rfl,all,hd⟩ | ⟨h0,rfl⟩
 case inr=>
  have H0:=AA h0
  have hge:=qo.out.keep hk3 (.inl (by omega))
  have hgb:=HGB.out.keep hk3 (.inl (by omega))
  have hga:=HGA.out.keep hk3 (.inr rfl)
  have HB:=AA (HB1.out.trans ((hk3).below HB1.out.size fun k hk=> .inl (by omega)))
  go_wp2_with fail
  refine leaves_cons (f:=127) (args:= #[.pointer (some ⟨w.heap.size+1+1,0,none⟩),.pointer (some ⟨w.heap.size+1+1+1+1+1,0,none⟩)]) (by simp) (by simp [go_sem]) ?_
  refine(LX (E2) 0 _ _ 0 0 _ hge hga (by omega)).mono ?_
  rintro e u' wx ⟨rfl,rfl,hkx,hbe,hba⟩
  have o8:=hgb.keep hkx (by omega)
  refine leaves_cons (f:=126) (args:= #[.pointer (some ⟨w.heap.size+1+1,0,none⟩),.pointer (some ⟨w.heap.size+1,0,none⟩)]) (by simp [settle]) (by simp [go_sem]) ?_
  refine(J4 _ _ _ (E2) _ _ hbe o8).mono ?_
  rintro e u' wy ⟨rfl,rfl,hky,hby⟩
  have hc1:=hby.cell 0
  have hc2:=(hbe.keep hky (by omega)).cell 0
  have hM:Gj m=E2:=by unfold Gj KI;rw [Pw.out,AY rfl,HE2.out,Br h0]
  have l8:=(HB.out.trans ((hkx.below (B:=w.heap.size) HB.out.size fun k hk=>by omega).trans (hky.below (B:=w.heap.size) (Nat.le_trans HB.out.size hkx.size) fun k hk=>by omega)))
  simp [Leaves,settle,results,results107,go_sem,hc1,hc2]
  exact⟨l8,hM.symm⟩
 have HP:Hid (KI m=0):=AA (by unfold KI;rw [Pw.out,AY rfl,HE2.out,h0])
 obtain⟨T,d,s1,⟨A,c,s2⟩,s3,s4,s5⟩:=hd
 have hmod:MO++Nq m++R4 m=KY m:=by unfold KY;rw [List.append_assoc]
 rw [hmod] at s2
 have hg2:=s2.blk.q 2 rfl
 have Lp:=AA hk3
 clear s1 s2 s3 s4 s5 h0 hk3 hm0 hm1 hm2 Uu UK hm5 gH hm7
 have hdd:decide (((KY m).length:Int)≤65536)=decide ((KY m).length≤65536):=decide_eq_decide.2 (by omega)
 have HDD:=AA hdd
 clear hdd
 go_wp2_with fail
 refine(FD _ 13 0 (by decide) _).mono ?_
 rintro e w4 ⟨rfl,hcase⟩
 rw [HDD.out] at hcase
 rcases hcase with⟨h0,rfl⟩ | ⟨h0,rfl⟩
 case inr=>
  have hge:=qo.out.keep Lp.out (.inl (by omega))
  have hgb:=HGB.out.keep Lp.out (.inl (by omega))
  have hga:=HGA.out.keep Lp.out (.inr rfl)
  have HB:=AA (HB1.out.trans ((Lp.out).below HB1.out.size fun k hk=> .inl (by omega)))
  go_wp2_with fail
  refine leaves_cons (f:=127) (args:= #[.pointer (some ⟨w.heap.size+1+1,0,none⟩),.pointer (some ⟨w.heap.size+1+1+1+1+1,0,none⟩)]) (by simp) (by simp [go_sem]) ?_
  refine(LX (Ae (decide ((KY m).length≤65536)) 13) 0 _ _ 0 0 _ hge hga (by omega)).mono ?_
  rintro e u' wx ⟨rfl,rfl,hkx,hbe,hba⟩
  have o8:=hgb.keep hkx (by omega)
  refine leaves_cons (f:=126) (args:= #[.pointer (some ⟨w.heap.size+1+1,0,none⟩),.pointer (some ⟨w.heap.size+1,0,none⟩)]) (by simp [settle]) (by simp [go_sem]) ?_
  refine(J4 _ _ _ (Ae (decide ((KY m).length≤65536)) 13) _ _ hbe o8).mono ?_
  rintro e u' wy ⟨rfl,rfl,hky,hby⟩
  have hc1:=hby.cell 0
  have hc2:=(hbe.keep hky (by omega)).cell 0
  have hM:Gj m=Ae (decide ((KY m).length≤65536)) 13:=by unfold Gj;rw [HP.out,AY rfl]
  have l8:=(HB.out.trans ((hkx.below (B:=w.heap.size) HB.out.size fun k hk=>by omega).trans (hky.below (B:=w.heap.size) (Nat.le_trans HB.out.size hkx.size) fun k hk=>by omega)))
  simp [Leaves,settle,results,results107,go_sem,hc1,hc2]
  exact⟨l8,hM.symm⟩
 have HM:Hid (Gj m=0):=AA (by unfold Gj;rw [HP.out,AY rfl,h0])
 have hge:=qo.out.keep Lp.out (.inl (by omega))
 have hgb:=HGB.out.keep Lp.out (.inl (by omega))
 have hcb:=hgb.cell 0
 have hce:=hge.cell 0
 have zA:=hgb.frozen 0
 have hfe:=hge.frozen 0
 have hlb:=hgb.lt
 have hle:=hge.lt
 have HB:=AA (HB1.out.trans (Lp.out.below HB1.out.size fun k hk=> .inl (by omega)))
 have Hge:=AA hge;have Hgb:=AA hgb
 clear hge hgb h0
 go_wp2_with fail
 generalize Rf:World.setCell _ _ _=w5
 have hbe:AQ w5 (w.heap.size+1+1) 41 [.int .i64 0]:=by
  rw [←Rf];exact(Hge.out.far (p:=⟨w.heap.size+1,0,none⟩) (by show w.heap.size+1+1≠w.heap.size+1;omega) _).set 0 _
 have hbb:AQ w5 (w.heap.size+1) 40 [.slice A (KY m).length c]:=by
  rw [←Rf];exact(Hgb.out.set 0 _).far (p:=⟨w.heap.size+1+1,0,none⟩) (by show w.heap.size+1≠w.heap.size+1+1;omega) _
 have hb5:Below w.heap.size w w5:=by rw [←Rf];exact(HB.out.setCell (by show w.heap.size≤w.heap.size+1;omega) _).setCell (by show w.heap.size≤w.heap.size+1+1;omega) _
 refine leaves_cons (f:=127) (args:= #[.pointer (some ⟨w.heap.size+1+1,0,none⟩),.pointer (some ⟨w.heap.size+1+1+1+1+1,0,none⟩)]) (by simp) (by simp [go_sem]) ?_
 refine(Xf _ _ _).mono ?_
 rintro e u' wx ⟨rfl,rfl,rfl⟩
 refine leaves_cons (f:=126) (args:= #[.pointer (some ⟨w.heap.size+1+1,0,none⟩),.pointer (some ⟨w.heap.size+1,0,none⟩)]) (by simp [settle]) (by simp [go_sem]) ?_
 refine(J4 _ _ _ 0 _ _ hbe hbb).mono ?_
 rintro e u' wy ⟨rfl,rfl,hky,hby⟩
 have hc1:=hby.cell 0
 have hc2:=(hbe.keep hky (by omega)).cell 0
 have hM:=HM.out
 have l8:=hb5.trans (hky.below (B:=w.heap.size) hb5.size fun k hk=>by omega)
 simp [Leaves,settle,results,results107,go_sem,hc1,hc2]
 exact⟨l8,hM.symm⟩
theorem iX (cs:List Value) (hi:Nat) (m:AP) (w:World) (h:DJ.R w 0 hi cs m) (hhi:hi≤w.heap.size) (hle:Bg m≤2147483647) (Df:FN m)
 (htab: ∀w',Below hi w w'→Lib.TabIs prog w' "strings.asciiSpace" .u8 Lib.asciiSpaceTab):
 Calls prog 77 #[.agg cs.toArray] w fun e w'=>Below w.heap.size w w'∧e= .returned (.int .i64 (Gj m)):=by
 have hb1:Below w.heap.size w (w.alloc (.cells cs.toArray 29)):=(Below.refl _ _).alloc (Nat.le_refl _) _
 have hen:=aS cs hi m (w.alloc (.cells cs.toArray 29)) (DJ.below h hb1 hhi) (by simp only [World.size_alloc];omega) hle Df (fun w' hb=>htab w' ((hb1.mono hhi).trans hb))
 obtain⟨v1,v2,v3,v4,v5,v6,rfl,_⟩:=Am.1 h
 have hm0:=(AQ.new w 29 [v1,v2,v3,.int .i64 m.first,.int .i64 m.most,v4,v5,v6]).q 0 rfl
 have hm1:=(AQ.new w 29 [v1,v2,v3,.int .i64 m.first,.int .i64 m.most,v4,v5,v6]).q 1 rfl
 have hm2:=(AQ.new w 29 [v1,v2,v3,.int .i64 m.first,.int .i64 m.most,v4,v5,v6]).q 2 rfl
 have Uu:=(AQ.new w 29 [v1,v2,v3,.int .i64 m.first,.int .i64 m.most,v4,v5,v6]).q 3 rfl
 have UK:=(AQ.new w 29 [v1,v2,v3,.int .i64 m.first,.int .i64 m.most,v4,v5,v6]).q 4 rfl
 have hm5:=(AQ.new w 29 [v1,v2,v3,.int .i64 m.first,.int .i64 m.most,v4,v5,v6]).q 5 rfl
 have gH:=(AQ.new w 29 [v1,v2,v3,.int .i64 m.first,.int .i64 m.most,v4,v5,v6]).q 6 rfl
 have hm7:=(AQ.new w 29 [v1,v2,v3,.int .i64 m.first,.int .i64 m.most,v4,v5,v6]).q 7 rfl
 have HB1:=AA hb1
 clear h hb1
 go_enter func77,ntmps77
 go_wp2_with fail
 refine hen.mono ?_
 clear hen
 rintro e w2 ⟨hb2,v,rfl⟩
 go_wp2_with fail
 go_ret
 exact⟨HB1.out.trans (hb2.mono (by simp only [World.size_alloc];omega)),rfl⟩
theorem Pk:(prog.info? 107).map (fun i=>(i.size,i.bytes,i.zero.map fun z=>z.cells.size))=some (5,104,some 5):=by kernel_rfl
def o9 (m:AP) (w:World) (e:Ending) (w':World):Prop:=Below w.heap.size w w'∧match F7 m with
 | .inl q=>e= .returned (.tuple #[.slice none 0 0,.int .i64 q.1,.int .i64 q.2.1,.int .i64 q.2.2])
 | .inr t=> ∃A c,e= .returned (.tuple #[.slice A t.length c,.int .i64 0,.int .i64 0,.int .i64 0])∧(Nw.sl false).R w' w.heap.size w'.heap.size [.slice A t.length c] t
def zF (m:AP) (mc:List Value) (w:World) (a i:Value) (wr:World):Prop:= ∃(k:Nat) (A:Option Addr) (c:Nat) (cells:List Value) (acc:List Dz),k≤m.fns.length∧i= .int .i64 k∧a= .slice A k c∧GX Nw 107 (w.heap.size+1) wr A k c cells acc∧Below w.heap.size w wr∧AQ wr w.heap.size 29 mc∧
 Jd m (m.fns.length-k) acc=Jd m m.fns.length []
theorem J9 {m:AP} {k:Nat} {f:Bv} {acc:List Dz} (hk:k<m.fns.length) (hf:m.fns[k]?=some f):Jd m (m.fns.length-k) acc=match GY m f with
 | .inl e=> .inl (e.1,(k:Int),e.2)
 | .inr t=>Jd m (m.fns.length-(k+1)) (acc++ [t]):=by
 obtain⟨d,hd⟩: ∃d,m.fns.length-k=d+1:=⟨m.fns.length-k-1,by omega⟩
 have hk2:m.fns.length-(d+1)=k:=by omega
 rw [hd,show m.fns.length-(k+1)=d by omega]
 simp only [Jd,hk2,hf]
 cases GY m f<;>rfl
theorem VO (cs:List Value) (hi:Nat) (m:AP) (w:World) (h:DJ.R w 0 hi cs m) (hhi:hi≤w.heap.size) (hle:Bg m≤2147483647) (Df:FN m)
 (htab: ∀w',Below hi w w'→Lib.TabIs prog w' "strings.asciiSpace" .u8 Lib.asciiSpaceTab):
 Calls prog 51 #[.agg cs.toArray] w fun e w'=>o9 m w e w':=by
 have H:=AA h;have HT:=AA htab;have I7:=AA hle;have HN:=AA Df
 obtain⟨i0,z0,hi0,hz,hs',hb,hzz⟩:=info_parts' Pk
 have Hi:=AA hi0;have Hz:=AA hz;have Hs:=AA hs';have Hb:=AA hb;have Nz:=AA hzz;clear hi0 hz hs' hb hzz
 obtain⟨v1,v2,v3,v4,v5,v6,rfl,_,_,_,_,_,h5,_,_⟩:=Am.1 h
 obtain⟨A5,c5,rfl⟩:=AB h5
 clear h htab hle Df h5
 go_enter func51,ntmps51
 go_upto_region 1 with fail
 generalize hw1:w.alloc (.cells #[v1,v2,v3,.int .i64 m.first,.int .i64 m.most,.slice A5 m.fns.length c5,v5,v6] 29)=w1
 have HB1:Hid (Below w.heap.size w w1):=AA (by rw [←hw1];exact(Below.refl _ _).alloc (Nat.le_refl _) _)
 have Px:Hid (AQ w1 w.heap.size 29 [v1,v2,v3,.int .i64 m.first,.int .i64 m.most,.slice A5 m.fns.length c5,v5,v6]):=AA (by rw [←hw1];exact AQ.new w 29 _)
 have q0:=Px.out.q 0 rfl
 have q1:=Px.out.q 1 rfl
 have q2:=Px.out.q 2 rfl
 have q3:=Px.out.q 3 rfl
 have q4:=Px.out.q 4 rfl
 have q5:=Px.out.q 5 rfl
 have q6:=Px.out.q 6 rfl
 have q7:=Px.out.q 7 rfl
 clear hw1
 go_wp2_with fail
 refine(iX _ hi m w1 (Rd.below H.out HB1.out hhi) (Nat.le_trans hhi HB1.out.size) I7.out HN.out (fun w' hw'=>HT.out w' ((HB1.out.mono hhi).trans hw'))).mono ?_
 rintro e w2 ⟨hb2,rfl⟩
 have HB2:=AA (HB1.out.trans (hb2.mono HB1.out.size))
 have ZH:=AA (Px.out.below hb2 Px.out.lt)
 clear q0 q1 q2 q3 q4 q5 q6 q7 hb2
 by_cases hmo:Gj m=0
 ·have XG:=AA hmo
  have EX:=AA (Vi hmo)
  have p5:=ZH.out.q 5 rfl
  rw [hmo]
  clear hmo
  go_wp2_with fail
  go_loopw [7,20] (fun a i wr=>zF m [v1,v2,v3,.int .i64 m.first,.int .i64 m.most,.slice A5 m.fns.length c5,v5,v6] w a i wr) (fun _ i _=>m.fns.length-(intOf i).toNat)
  case atStart=>exact⟨0,none,0,[],[],Nat.zero_le _,rfl,rfl,GX.nil _ _ _ _,HB2.out,ZH.out,rfl⟩
  case round=>
   obtain⟨k,A1,c1,cells,acc,hk,rfl,rfl,hg,hbel,hmb,hgo⟩:=hrel
   have Hg:=AA hg;have BM:=AA hbel;have TY:=AA hmb;have Ye:=AA hgo
   clear hg hbel hmb hgo p5
   by_cases hlt:k<m.fns.length
   ·obtain⟨f,hf⟩: ∃f,m.fns[k]?=some f:=⟨_,List.getElem?_eq_getElem hlt⟩
    have HF:=AA hf
    clear hf
    have hk0:(0:Int)≤k:=by omega
    have q0:=TY.out.q 0 rfl
    have q1:=TY.out.q 1 rfl
    have q2:=TY.out.q 2 rfl
    have q3:=TY.out.q 3 rfl
    have q4:=TY.out.q 4 rfl
    have q5:=TY.out.q 5 rfl
    have q6:=TY.out.q 6 rfl
    have q7:=TY.out.q 7 rfl
    go_wp2_with fail
    refine(Yg _ hi m k f wr (Rd.below H.out BM.out hhi) (Nat.le_trans hhi BM.out.size) EX.out HF.out (fun w' hw'=>HT.out w' ((BM.out.mono hhi).trans hw'))).mono ?_
    rintro e w3 ⟨hb3,hp3⟩
    clear q0 q1 q2 q3 q4 q5 q6 q7
    have HB3:=AA hb3
    cases Ho:GY m f with
    | inl q=>
     rw [Ho] at hp3
     dsimp only [OY] at hp3
     subst hp3
     have TD:=AA Ho
     have hne:(q.1 !=0)=true:=by have:=R9 Ho;simpa using this
     clear Ho hb3
     go_wp2_with fail
     refine⟨rfl,.tuple #[.slice none 0 0,.int .i64 q.1,.int .i64 k,.int .i64 q.2],by simp [results,results51,go_sem],(BM.out.trans (HB3.out.mono BM.out.size)).alloc (Nat.le_trans BM.out.size HB3.out.size) _,?_⟩
     have hv:F7 m= .inl (q.1,(k:Int),q.2):=by
      unfold F7
      rw [if_neg (by rw [XG.out];simp),←Ye.out,J9 hlt HF.out,TD.out]
     rw [hv]
    | inr tb=>
     rw [Ho] at hp3
     obtain⟨cs',rfl,hr2⟩:=hp3
     obtain⟨u0,u1,u2,u3,rfl,g0,g1,g2,g3,_⟩:=ME.1 hr2
     obtain⟨B0,d0,rfl⟩:=AB g0
     obtain⟨B1,d1,rfl⟩:=AB g1
     obtain⟨B2,d2,rfl⟩:=AB g2
     obtain⟨B3,d3,rfl⟩:=AB g3
     have HR2:=AA hr2
     have TD:=AA Ho
     clear Ho hb3 hr2 g0 g1 g2 g3
     go_upto_region 11 with fail
     generalize hw4:w3.alloc (.cells #[.slice B0 tb.shapes.length d0,.slice B1 tb.ends.length d1,.slice B2 tb.AJ.length d2,.slice B3 tb.floors.length d3,.int .i64 tb.high] 107)=w4
     have hb4:Below w3.heap.size w3 w4:=by rw [←hw4];exact(Below.refl _ _).alloc (Nat.le_refl _) _
     have PK:Hid (AQ w4 w3.heap.size 107 [.slice B0 tb.shapes.length d0,.slice B1 tb.ends.length d1,.slice B2 tb.AJ.length d2,.slice B3 tb.floors.length d3,.int .i64 tb.high]):=AA (by rw [←hw4];exact AQ.new w3 107 _)
     have C9:Hid (Below wr.heap.size wr w4):=AA (HB3.out.trans (hb4.mono HB3.out.size))
     have HR4:=AA (Nw.below HR2.out hb4 (Nat.le_refl _))
     have wI:=AA hb4.size
     clear hw4 hb4
     have nS:=AA (Hg.out.below C9.out)
     have Ws:w.heap.size+1≤wr.heap.size:=TY.out.lt
     have hsz4:w.heap.size+1≤w4.heap.size:=Nat.le_trans Ws C9.out.size
     have Kg:m.fns.length≤128:=EX.out.nf
     have t0:=PK.out.q 0 rfl
     have t1:=PK.out.q 1 rfl
     have t2:=PK.out.q 2 rfl
     have t3:=PK.out.q 3 rfl
     have t4:=PK.out.q 4 rfl
     have Ir:=AA (Gz w4 [.slice B0 tb.shapes.length d0,.slice B1 tb.ends.length d1,.slice B2 tb.AJ.length d2,.slice B3 tb.floors.length d3,.int .i64 tb.high] 107)
     go_wp2_with (at_builtin;refine BP _ rfl (.tmp 35) (.tmp 37) 56 rfl (w.heap.size+1) 107 i0 z0 5 104 underlying56 Hi.out Hz.out Hs.out Hb.out Nz.out (by omega) (.slice A1 k c1) k cells rfl (nS.out.own.alloc _) (w4.heap.size+1) _ 1 1 [.slice B0 tb.shapes.length d0,.slice B1 tb.ends.length d1,.slice B2 tb.AJ.length d2,.slice B3 tb.floors.length d3,.int .i64 tb.high] rfl rfl Ir.out (by intro u hu;simp at hu;rcases hu with rfl | rfl | rfl | rfl | rfl<;>rfl) (by unfold maxLen;omega) (by omega) (by simp;omega) ?_;intro A6 c6 w6 h2 h3 h4;have H2:=AA h2;have H3:=AA h3;have H4:=AA h4)
     have hba:Below w4.heap.size w4 (w4.alloc (.cells #[.slice B0 tb.shapes.length d0,.slice B1 tb.ends.length d1,.slice B2 tb.AJ.length d2,.slice B3 tb.floors.length d3,.int .i64 tb.high] 107)):=(Below.refl _ _).alloc (Nat.le_refl _) _
     have iY:=BK (nS.out.own.alloc (.cells #[.slice B0 tb.shapes.length d0,.slice B1 tb.ends.length d1,.slice B2 tb.AJ.length d2,.slice B3 tb.floors.length d3,.int .i64 tb.high] 107)) H3.out (by simp;omega)
     have hgn:=(nS.out.below hba).snoc (by simp;omega) (Nw.below HR4.out hba wI.out) Ws (by simp;have:=wI.out;omega) (fun g hg=> .inl (Hg.out.own.lt g hg).2) H2.out H3.out H4.out
     have hb6:Below wr.heap.size wr (w4.alloc (.cells #[.slice B0 tb.shapes.length d0,.slice B1 tb.ends.length d1,.slice B2 tb.AJ.length d2,.slice B3 tb.floors.length d3,.int .i64 tb.high] 107)):=C9.out.trans (hba.mono C9.out.size)
     have gH:=(TY.out.below hb6 TY.out.lt).below iY (Nat.lt_succ_self _)
     refine⟨⟨k+1,A6,c6,cells++ [.slice B0 tb.shapes.length d0,.slice B1 tb.ends.length d1,.slice B2 tb.AJ.length d2,.slice B3 tb.floors.length d3,.int .i64 tb.high],acc++ [tb],by omega,by go_num,rfl,hgn,(BM.out.trans (hb6.mono BM.out.size)).trans (iY.mono (Nat.le_succ _)),gH,?_⟩,by simp [intOf];omega⟩
     rw [←Ye.out,J9 hlt HF.out,TD.out]
   ·obtain rfl:m.fns.length=k:=by omega
    go_wp2_with fail
    refine⟨rfl,.tuple #[.slice A1 m.fns.length c1,.int .i64 0,.int .i64 0,.int .i64 0],by simp [results,results51,go_sem],BM.out,?_⟩
    have hv:F7 m= .inr acc:=by
     unfold F7
     rw [if_neg (by rw [XG.out];simp),←Ye.out,Nat.sub_self]
     rfl
    rw [hv]
    have hl:=Hg.out.len
    refine⟨A1,c1,by rw [←hl],?_⟩
    rw [←hl]
    exact Rd.more _ (Nat.le_succ _) (Nat.le_refl _) Hg.out.reads
 ·have hne:(Gj m !=0)=true:=by simpa using hmo
  go_wp2_with fail
  refine⟨rfl,.tuple #[.slice none 0 0,.int .i64 (Gj m),.int .i64 (-1),.int .i64 0],by simp [results,results51,go_sem],HB2.out,?_⟩
  have hv:F7 m= .inl (Gj m,-1,0):=by unfold F7;rw [if_pos hmo]
  rw [hv]
theorem aT (cs:List Value) (hi:Nat) (m:AP) (w:World) (h:DJ.R w 0 hi cs m) (hhi:hi≤w.heap.size) (hle:Bg m≤2147483647) (Df:FN m):
 Calls prog 19 #[.agg cs.toArray] w fun e w'=>o9 m w e w':=by
 have H:=AA h;have I7:=AA hle;have HN:=AA Df
 obtain⟨i0,z0,hi0,hz,hs',hb,hzz⟩:=info_parts' Pk
 have Hi:=AA hi0;have Hz:=AA hz;have Hs:=AA hs';have Hb:=AA hb;have Nz:=AA hzz;clear hi0 hz hs' hb hzz
 obtain⟨v1,v2,v3,v4,v5,v6,rfl,_,_,_,_,_,h5,_,_⟩:=Am.1 h
 obtain⟨A5,c5,rfl⟩:=AB h5
 clear h hle Df h5
 go_enter func19,ntmps19
 go_upto_region 1 with fail
 generalize hw1:w.alloc (.cells #[v1,v2,v3,.int .i64 m.first,.int .i64 m.most,.slice A5 m.fns.length c5,v5,v6] 29)=w1
 have HB1:Hid (Below w.heap.size w w1):=AA (by rw [←hw1];exact(Below.refl _ _).alloc (Nat.le_refl _) _)
 have Px:Hid (AQ w1 w.heap.size 29 [v1,v2,v3,.int .i64 m.first,.int .i64 m.most,.slice A5 m.fns.length c5,v5,v6]):=AA (by rw [←hw1];exact AQ.new w 29 _)
 have q0:=Px.out.q 0 rfl
 have q1:=Px.out.q 1 rfl
 have q2:=Px.out.q 2 rfl
 have q3:=Px.out.q 3 rfl
 have q4:=Px.out.q 4 rfl
 have q5:=Px.out.q 5 rfl
 have q6:=Px.out.q 6 rfl
 have q7:=Px.out.q 7 rfl
 clear hw1
 go_wp2_with fail
 refine(oZ _ hi m w1 (Rd.below H.out HB1.out hhi) (Nat.le_trans hhi HB1.out.size) I7.out HN.out).mono ?_
 rintro e w2 ⟨hb2,rfl⟩
 have HB2:=AA (HB1.out.trans (hb2.mono HB1.out.size))
 have ZH:=AA (Px.out.below hb2 Px.out.lt)
 clear q0 q1 q2 q3 q4 q5 q6 q7 hb2
 by_cases hmo:Gj m=0
 ·have XG:=AA hmo
  have EX:=AA (Vi hmo)
  have p5:=ZH.out.q 5 rfl
  rw [hmo]
  clear hmo
  go_wp2_with fail
  go_loopw [7,8,9,10,11] (fun a i _ _ _ wr=>zF m [v1,v2,v3,.int .i64 m.first,.int .i64 m.most,.slice A5 m.fns.length c5,v5,v6] w a i wr) (fun _ i _ _ _ _=>m.fns.length-(intOf i).toNat)
  case atStart=>exact⟨0,none,0,[],[],Nat.zero_le _,rfl,rfl,GX.nil _ _ _ _,HB2.out,ZH.out,rfl⟩
  case round=>
   obtain⟨k,A1,c1,cells,acc,hk,rfl,rfl,hg,hbel,hmb,hgo⟩:=hrel
   have Hg:=AA hg;have BM:=AA hbel;have TY:=AA hmb;have Ye:=AA hgo
   clear hg hbel hmb hgo p5
   by_cases hlt:k<m.fns.length
   ·obtain⟨f,hf⟩: ∃f,m.fns[k]?=some f:=⟨_,List.getElem?_eq_getElem hlt⟩
    have HF:=AA hf
    clear hf
    have hk0:(0:Int)≤k:=by omega
    have q0:=TY.out.q 0 rfl
    have q1:=TY.out.q 1 rfl
    have q2:=TY.out.q 2 rfl
    have q3:=TY.out.q 3 rfl
    have q4:=TY.out.q 4 rfl
    have q5:=TY.out.q 5 rfl
    have q6:=TY.out.q 6 rfl
    have q7:=TY.out.q 7 rfl
    go_wp2_with fail
    refine(iP _ hi m k f wr (Rd.below H.out BM.out hhi) (Nat.le_trans hhi BM.out.size) EX.out HF.out).mono ?_
    rintro e w3 ⟨hb3,hp3⟩
    clear q0 q1 q2 q3 q4 q5 q6 q7
    have HB3:=AA hb3
    cases Ho:GY m f with
    | inl q=>
     rw [Ho] at hp3
     dsimp only [OY] at hp3
     subst hp3
     have TD:=AA Ho
     have hne:(q.1 !=0)=true:=by have:=R9 Ho;simpa using this
     clear Ho hb3
     go_wp2_with fail
     refine⟨rfl,.tuple #[.slice none 0 0,.int .i64 q.1,.int .i64 k,.int .i64 q.2],by simp [results,results19,go_sem],(BM.out.trans (HB3.out.mono BM.out.size)).alloc (Nat.le_trans BM.out.size HB3.out.size) _,?_⟩
     have hv:F7 m= .inl (q.1,(k:Int),q.2):=by
      unfold F7
      rw [if_neg (by rw [XG.out];simp),←Ye.out,J9 hlt HF.out,TD.out]
     rw [hv]
    | inr tb=>
     rw [Ho] at hp3
     obtain⟨cs',rfl,hr2⟩:=hp3
     obtain⟨u0,u1,u2,u3,rfl,g0,g1,g2,g3,_⟩:=ME.1 hr2
     obtain⟨B0,d0,rfl⟩:=AB g0
     obtain⟨B1,d1,rfl⟩:=AB g1
     obtain⟨B2,d2,rfl⟩:=AB g2
     obtain⟨B3,d3,rfl⟩:=AB g3
     have HR2:=AA hr2
     have TD:=AA Ho
     clear Ho hb3 hr2 g0 g1 g2 g3
     go_upto_region 11 with fail
     generalize hw4:w3.alloc (.cells #[.slice B0 tb.shapes.length d0,.slice B1 tb.ends.length d1,.slice B2 tb.AJ.length d2,.slice B3 tb.floors.length d3,.int .i64 tb.high] 107)=w4
     have hb4:Below w3.heap.size w3 w4:=by rw [←hw4];exact(Below.refl _ _).alloc (Nat.le_refl _) _
     have PK:Hid (AQ w4 w3.heap.size 107 [.slice B0 tb.shapes.length d0,.slice B1 tb.ends.length d1,.slice B2 tb.AJ.length d2,.slice B3 tb.floors.length d3,.int .i64 tb.high]):=AA (by rw [←hw4];exact AQ.new w3 107 _)
     have C9:Hid (Below wr.heap.size wr w4):=AA (HB3.out.trans (hb4.mono HB3.out.size))
     have HR4:=AA (Nw.below HR2.out hb4 (Nat.le_refl _))
     have wI:=AA hb4.size
     clear hw4 hb4
     have nS:=AA (Hg.out.below C9.out)
     have Ws:w.heap.size+1≤wr.heap.size:=TY.out.lt
     have hsz4:w.heap.size+1≤w4.heap.size:=Nat.le_trans Ws C9.out.size
     have Kg:m.fns.length≤128:=EX.out.nf
     have t0:=PK.out.q 0 rfl
     have t1:=PK.out.q 1 rfl
     have t2:=PK.out.q 2 rfl
     have t3:=PK.out.q 3 rfl
     have t4:=PK.out.q 4 rfl
     have Ir:=AA (Gz w4 [.slice B0 tb.shapes.length d0,.slice B1 tb.ends.length d1,.slice B2 tb.AJ.length d2,.slice B3 tb.floors.length d3,.int .i64 tb.high] 107)
     go_wp2_with (at_builtin;refine BP _ rfl (.tmp 36) (.tmp 38) 56 rfl (w.heap.size+1) 107 i0 z0 5 104 underlying56 Hi.out Hz.out Hs.out Hb.out Nz.out (by omega) (.slice A1 k c1) k cells rfl (nS.out.own.alloc _) (w4.heap.size+1) _ 1 1 [.slice B0 tb.shapes.length d0,.slice B1 tb.ends.length d1,.slice B2 tb.AJ.length d2,.slice B3 tb.floors.length d3,.int .i64 tb.high] rfl rfl Ir.out (by intro u hu;simp at hu;rcases hu with rfl | rfl | rfl | rfl | rfl<;>rfl) (by unfold maxLen;omega) (by omega) (by simp;omega) ?_;intro A6 c6 w6 h2 h3 h4;have H2:=AA h2;have H3:=AA h3;have H4:=AA h4)
     have hba:Below w4.heap.size w4 (w4.alloc (.cells #[.slice B0 tb.shapes.length d0,.slice B1 tb.ends.length d1,.slice B2 tb.AJ.length d2,.slice B3 tb.floors.length d3,.int .i64 tb.high] 107)):=(Below.refl _ _).alloc (Nat.le_refl _) _
     have iY:=BK (nS.out.own.alloc (.cells #[.slice B0 tb.shapes.length d0,.slice B1 tb.ends.length d1,.slice B2 tb.AJ.length d2,.slice B3 tb.floors.length d3,.int .i64 tb.high] 107)) H3.out (by simp;omega)
     have hgn:=(nS.out.below hba).snoc (by simp;omega) (Nw.below HR4.out hba wI.out) Ws (by simp;have:=wI.out;omega) (fun g hg=> .inl (Hg.out.own.lt g hg).2) H2.out H3.out H4.out
     have hb6:Below wr.heap.size wr (w4.alloc (.cells #[.slice B0 tb.shapes.length d0,.slice B1 tb.ends.length d1,.slice B2 tb.AJ.length d2,.slice B3 tb.floors.length d3,.int .i64 tb.high] 107)):=C9.out.trans (hba.mono C9.out.size)
     have gH:=(TY.out.below hb6 TY.out.lt).below iY (Nat.lt_succ_self _)
     refine⟨⟨k+1,A6,c6,cells++ [.slice B0 tb.shapes.length d0,.slice B1 tb.ends.length d1,.slice B2 tb.AJ.length d2,.slice B3 tb.floors.length d3,.int .i64 tb.high],acc++ [tb],by omega,by go_num,rfl,hgn,(BM.out.trans (hb6.mono BM.out.size)).trans (iY.mono (Nat.le_succ _)),gH,?_⟩,by simp [intOf];omega⟩
     rw [←Ye.out,J9 hlt HF.out,TD.out]
   ·obtain rfl:m.fns.length=k:=by omega
    have q5:=TY.out.q 5 rfl
    go_wp2_with fail
    refine⟨rfl,.tuple #[.slice A1 m.fns.length c1,.int .i64 0,.int .i64 0,.int .i64 0],by simp [results,results19,go_sem],BM.out,?_⟩
    have hv:F7 m= .inr acc:=by
     unfold F7
     rw [if_neg (by rw [XG.out];simp),←Ye.out,Nat.sub_self]
     rfl
    rw [hv]
    have hl:=Hg.out.len
    refine⟨A1,c1,by rw [←hl],?_⟩
    rw [←hl]
    exact Rd.more _ (Nat.le_succ _) (Nat.le_refl _) Hg.out.reads
 ·have hne:(Gj m !=0)=true:=by simpa using hmo
  go_wp2_with fail
  refine⟨rfl,.tuple #[.slice none 0 0,.int .i64 (Gj m),.int .i64 (-1),.int .i64 0],by simp [results,results19,go_sem],HB2.out,?_⟩
  have hv:F7 m= .inl (Gj m,-1,0):=by unfold F7;rw [if_pos hmo]
  rw [hv]
theorem iZ (cs ds:List Value) (hi:Nat) (m:AP) (s:FH) (w:World) (hm:DJ.R w 0 hi cs m) (hs:K7.R w 0 hi ds s) (hhi:hi≤w.heap.size) (hle:Bg m≤2147483647) (Df:FN m) (hin:RA s):
 Calls prog 10 #[.agg cs.toArray,.agg ds.toArray] w fun e w'=>Below w.heap.size w w'∧e= .returned (.tuple #[.int .i64 (DW m s).1,.int .i64 (DW m s).2]):=by
 have HM:=AA hm;have HST:=AA hs;have Bw:=AA hhi;have I7:=AA hle;have HN:=AA Df;have Es:=AA hin
 obtain⟨v1,v2,v3,v4,v5,v6,rfl,_⟩:=Am.1 hm
 obtain⟨u0,u1,u2,u5,rfl,s0,_⟩:=CU.1 hs
 obtain⟨B0,d0,rfl⟩:=AB s0
 clear hm hs hhi hle Df s0 hin
 go_enter func10,ntmps10
 go_upto_region 1 with fail
 generalize hw0:w.alloc (.cells #[v1,v2,v3,.int .i64 m.first,.int .i64 m.most,v4,v5,v6] 29)=w0
 obtain⟨hb0,hx0⟩:=QK hw0
 have hz0:w0.heap.size=w.heap.size+1:=by rw [←hw0];simp
 clear hw0
 generalize hw1:w0.alloc (.cells #[.slice B0 s.frames.length d0,u1,u2,.int .i64 s.Bj,.int .i8 s.end_,u5,.int .i8 s.trap,.int .i64 s.used] 35)=w1
 obtain⟨hb1,hx1⟩:=sG hw1
 rw [hz0] at hx1
 try rw [hz0]
 have G9:=AA (hx0.below hb1 hx0.lt)
 have Ef:=AA hx1
 have HB1:Hid (Below w.heap.size w w1):=AA (hb0.trans (hb1.mono hb0.size))
 clear hw1 hb0 hb1 hx0 hx1 hz0
 have p0:=G9.out.q 0 rfl
 have p1:=G9.out.q 1 rfl
 have p2:=G9.out.q 2 rfl
 have p3:=G9.out.q 3 rfl
 have p4:=G9.out.q 4 rfl
 have p5:=G9.out.q 5 rfl
 have p6:=G9.out.q 6 rfl
 have p7:=G9.out.q 7 rfl
 go_wp2_with fail
 refine(aT _ hi m w1 (Rd.below HM.out HB1.out Bw.out) (Nat.le_trans Bw.out HB1.out.size) I7.out HN.out).mono ?_
 rintro e w2 ⟨hb2,hp⟩
 have HB2:=AA hb2
 have F9:Hid (Below w.heap.size w w2):=AA (HB1.out.trans (hb2.mono HB1.out.size))
 have U_:=AA (G9.out.below hb2 G9.out.lt)
 have L9:=AA (Ef.out.below hb2 Ef.out.lt)
 clear hb2 p0 p1 p2 p3 p4 p5 p6 p7 G9 Ef
 cases hv:F7 m with
 | inl q=>
  rw [hv] at hp
  dsimp only at hp
  subst hp
  have hne:(q.1 !=0)=true:=by have:=MR hv;simpa using this
  have HX:Hid (DW m s=(q.1,0)):=AA (by unfold DW;rw [hv])
  clear hv
  go_wp2_with fail
  go_ret2
  exact⟨F9.out,by rw [HX.out];rfl⟩
 | inr t=>
 rw [hv] at hp
 dsimp only at hp
 obtain⟨At,ct,rfl,hta⟩:=hp
 have uG:=AA hta;have HV:=AA hv
 have HH2:Hid (hi≤w2.heap.size):=AA (Nat.le_trans Bw.out F9.out.size)
 clear hta hv
 have p0:=U_.out.q 0 rfl
 have p1:=U_.out.q 1 rfl
 have p2:=U_.out.q 2 rfl
 have p3:=U_.out.q 3 rfl
 have p4:=U_.out.q 4 rfl
 have p5:=U_.out.q 5 rfl
 have p6:=U_.out.q 6 rfl
 have p7:=U_.out.q 7 rfl
 have q0:=L9.out.q 0 rfl
 have q1:=L9.out.q 1 rfl
 have q2:=L9.out.q 2 rfl
 have q3:=L9.out.q 3 rfl
 have q4:=L9.out.q 4 rfl
 have q5:=L9.out.q 5 rfl
 have q6:=L9.out.q 6 rfl
 have q7:=L9.out.q 7 rfl
 go_wp2_with fail
 refine(uH _ _ At ct w2.heap.size m t s w2 (DJ.more (Nat.le_refl _) HH2.out (Rd.below HM.out F9.out Bw.out)) ((Nw.sl false).more (Nat.zero_le _) (Nat.le_refl _) uG.out) (K7.more (Nat.le_refl _) HH2.out (Rd.below HST.out F9.out Bw.out)) (Nat.le_refl _) HV.out Es.out).mono ?_
 rintro e w3 ⟨hb3,rfl⟩
 have HB3:Hid (Below w.heap.size w w3):=AA (F9.out.trans (hb3.mono F9.out.size))
 clear hb3 p0 q0 p1 q1 p2 q2 p3 q3 p4 q4 p5 q5 p6 q6 p7 q7
 obtain⟨M4,hM4⟩: ∃x,JD m t s=x:=⟨_,rfl⟩
 have HX:Hid (DW m s=if M4=0 then(0,0) else(44,M4)):=AA (by unfold DW;rw [HV.out];dsimp only;rw [hM4])
 rw [hM4]
 clear hM4
 by_cases h4:M4=0
 case neg=>
  have n1:(M4 !=0)=true:=by rw [bne_iff_ne];exact h4
  have CV:Hid (DW m s=(44,M4)):=AA (by rw [HX.out,if_neg h4])
  clear h4
  go_wp2_with fail
  go_ret2
  exact⟨HB3.out,by rw [CV.out];rfl⟩
 subst h4
 have CV:Hid (DW m s=(0,0)):=AA (by rw [HX.out];rfl)
 go_wp2_with fail
 go_ret2
 exact⟨HB3.out,by rw [CV.out];rfl⟩
theorem aU {P:Program} {ops:Array Oper} {rest:List Oper} {o:Oper} {a:Act} {w:World} {Q:Exit→Act→World→Prop} {g:Nat} {t:TypeId} {xs:List Value} (hb:AQ w g t xs) {d:TypeDesc} (hu:P.underlying t=some d) (hd:(match d with | .struct _ | .array _ _=>true | _=>false)=true) (hi:(P.info? t).map (·.size)=some xs.length)
 (hgd:o.guard=none) (x:Operand) (ho:o.op= .load t x) (hx:a.eval x= .pointer (some ⟨g,0,none⟩)) (h:wpList P ops Q rest (a.put o.dst (.agg xs.toArray)) w):wpList P ops Q (o::rest) a w:=
 wpList_load_row hgd t x ho g hx t xs.toArray (0,0) d hb hu hd (by simpa using hi) h
theorem Fh {P:Program} {ops:Array Oper} {rest:List Oper} {op:Oper} {a:Act} {W0:World} {Q:Exit→Act→World→Prop} (hgd:op.guard=none) (t:TypeId) (x y:Operand) (ho:op.op= .store t x y) (c c':Array Value)
 (hx:a.eval x= .pointer (some ⟨W0.heap.size,0,none⟩)) (hy:a.eval y= .agg c') (hi:(P.info? t).map (·.size)=some c'.size) (hc:c.size=c'.size) (h1:c'.all (·.oneCell')=true)
 (h:wpList P ops Q rest (a.put op.dst (.tuple #[])) (W0.alloc (.cells c' t))):wpList P ops Q (op::rest) a (W0.alloc (.cells c t)):=by
 refine wpList_plain hgd fun _ hK=> ?_
 unfold Oper.wp execOp
 simp only [ho,hx,hy,run_storeAt_new W0 t c c' hi hc h1,Sem.run_bind,Sem.run_pure,Result.andThen_ok]
 exact hK _ _ h
section
variable {ops:Array Oper} {rest:List Oper} {o:Oper} {a:Act} {w:World} {Q:Exit→Act→World→Prop} {g:Nat}
theorem rG {a0 a1 a2 a3 a4 a5 a6 a7:Value} (hb:AQ w g 29 [a0,a1,a2,a3,a4,a5,a6,a7]) (hgd:o.guard=none) (x:Operand) (ho:o.op= .load 29 x) (hx:a.eval x= .pointer (some ⟨g,0,none⟩))
 (h:wpList prog ops Q rest (a.put o.dst (.agg #[a0,a1,a2,a3,a4,a5,a6,a7])) w):wpList prog ops Q (o::rest) a w:=
 aU hb underlying29 rfl (by kernel_rfl) hgd x ho hx h
theorem jo {a0 a1 a2 a3 a4 a5 a6 a7:Value} (hb:AQ w g 35 [a0,a1,a2,a3,a4,a5,a6,a7]) (hgd:o.guard=none) (x:Operand) (ho:o.op= .load 35 x) (hx:a.eval x= .pointer (some ⟨g,0,none⟩))
 (h:wpList prog ops Q rest (a.put o.dst (.agg #[a0,a1,a2,a3,a4,a5,a6,a7])) w):wpList prog ops Q (o::rest) a w:=
 aU hb underlying35 rfl (by kernel_rfl) hgd x ho hx h
theorem ldV {a0 a1 a2 a3 a4 a5 a6 a7 a8 a9 XF Uw a12 a13 a14 a15 a16:Value} (hb:AQ w g 127 [a0,a1,a2,a3,a4,a5,a6,a7,a8,a9,XF,Uw,a12,a13,a14,a15,a16]) (hgd:o.guard=none) (x:Operand) (ho:o.op= .load 127 x) (hx:a.eval x= .pointer (some ⟨g,0,none⟩))
 (h:wpList prog ops Q rest (a.put o.dst (.agg #[a0,a1,a2,a3,a4,a5,a6,a7,a8,a9,XF,Uw,a12,a13,a14,a15,a16])) w):wpList prog ops Q (o::rest) a w:=
 aU hb underlying127 rfl (by kernel_rfl) hgd x ho hx h
end
end Go.Proofs.YtlagonfamllgjaaGreatDoor
