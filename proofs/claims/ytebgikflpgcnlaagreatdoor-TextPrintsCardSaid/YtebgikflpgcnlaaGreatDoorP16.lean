/- Part 16 of the proof: ModK PrtB R6C R6B TbnA R6D -/
import Derived.Lib.SlBytesConst
import Derived.Test.YtebgikflpgcnlaaGreatDoorP10
import Derived.Test.YtebgikflpgcnlaaGreatDoorP15
namespace Go.Proofs.YtebgikflpgcnlaaGreatDoor
set_option linter.unusedVariables false
set_option linter.unusedSimpArgs false
set_option maxRecDepth 100000
set_option maxHeartbeats 4000000
open Go.RowKit Tryz
theorem uo {m:AQ} (h:NY m=0):(∀t∈m.types,t.p.size≤8)∧0≤m.first∧m.first≤64:=by
 obtain⟨ht,hh⟩:=AL h
 obtain⟨_,hh⟩:=AL hh
 obtain⟨_,hp⟩:=AL hh
 obtain⟨_,t2⟩:=AL ht
 have hp:=of_decide_eq_true (EY (by decide) hp)
 refine⟨fun t hm=> ?_,hp.1,by omega⟩
 obtain⟨k,hk⟩:=List.getElem?_of_mem hm
 have:=Aw t2 k (List.getElem?_eq_some_iff.1 hk).1
 rw [Uq hk] at this
 have:=(JX (AL this).1).1
 omega
def uq:Array Value:= #[.int .u8 70,.int .u8 76,.int .u8 71,.int .u8 78,.int .u8 1]
def KE (n:Nat) (k:Nat):Prop:=k<n+3∨k=n+5
theorem uw (w:World) (cs:Array Value) {W:World}
 (hW:((((((w.alloc (.cells cs 29)).alloc (.cells #[.slice none 0 0] 41)).alloc (.cells #[.int .i64 0] 33)).alloc (.cells uq 5 (5,6))).alloc (.cells #[.pointer none,.int .i64 0,.slice (some ⟨w.heap.size+1+1+1,0,none⟩) 5 5] 124)).alloc (.cells #[.int .i64 0] 3))=W):
 Below w.heap.size w W∧AV W w.heap.size 29 cs.toList∧AV W (w.heap.size+1) 41 [.slice none 0 0]∧AV W (w.heap.size+1+1) 33 [.int .i64 0]∧AV W (w.heap.size+1+1+1+1+1) 3 [.int .i64 0]∧
  Wr W w.heap.size (w.heap.size+1+1+1+1) (KE w.heap.size) (.pointer none) 0 Py:=by
 have h0:=AV.new w 29 cs.toList
 have h1:=AV.new (w.alloc (.cells cs 29)) 41 [.slice none 0 0]
 have h2:=AV.new ((w.alloc (.cells cs 29)).alloc (.cells #[.slice none 0 0] 41)) 33 [.int .i64 0]
 have h4:=AV.new ((((w.alloc (.cells cs 29)).alloc (.cells #[.slice none 0 0] 41)).alloc (.cells #[.int .i64 0] 33)).alloc (.cells uq 5 (5,6))) 124 [.pointer none,.int .i64 0,.slice (some ⟨w.heap.size+1+1+1,0,none⟩) 5 5]
 have h5:=AV.new (((((w.alloc (.cells cs 29)).alloc (.cells #[.slice none 0 0] 41)).alloc (.cells #[.int .i64 0] 33)).alloc (.cells uq 5 (5,6))).alloc (.cells #[.pointer none,.int .i64 0,.slice (some ⟨w.heap.size+1+1+1,0,none⟩) 5 5] 124)) 3 [.int .i64 0]
 have h3:=heap_alloc_new (((w.alloc (.cells cs 29)).alloc (.cells #[.slice none 0 0] 41)).alloc (.cells #[.int .i64 0] 33)) (.cells uq 5 (5,6))
 simp only [World.size_alloc] at h1 h2 h3 h4 h5
 have hs:W.heap.size=w.heap.size+6:=by rw [←hW];simp only [World.size_alloc]
 have h3':W.heap[w.heap.size+1+1+1]?=some (.cells uq 5 (5,6)):=by
  rw [←hW,heap_alloc_old _ _ (by simp only [World.size_alloc];omega),heap_alloc_old _ _ (by simp only [World.size_alloc];omega)]
  exact h3
 refine⟨?_,?_,?_,?_,?_,some ⟨w.heap.size+1+1+1,0,none⟩,5,?_,?_,by omega,?_,?_,?_⟩
 ·rw [←hW]
  exact(((((((Below.refl _ _).alloc (Nat.le_refl _) _).alloc (by simp only [World.size_alloc];omega) _).alloc (by simp only [World.size_alloc];omega) _).alloc (by simp only [World.size_alloc];omega) _).alloc (by simp only [World.size_alloc];omega) _).alloc (by simp only [World.size_alloc];omega) _)
 ·rw [←hW];exact((((h0.alloc _).alloc _).alloc _).alloc _).alloc _
 ·rw [←hW];exact(((h1.alloc _).alloc _).alloc _).alloc _
 ·rw [←hW];exact((h2.alloc _).alloc _).alloc _
 ·rw [←hW];exact h5
 ·rw [←hW];exact h4.alloc _
 ·exact .inr ⟨w.heap.size+1+1+1,(5,6),rfl,by omega,h3',rfl⟩
 ·unfold KE;omega
 ·intro k hk
  injection hk with hk
  have hk:w.heap.size+1+1+1=k:=hk
  unfold KE
  omega
 ·intro k hk
  unfold KE at hk
  omega
theorem iU (cs:List Value) (hi:Nat) (m:AQ) (w:World) (h:IZ.R w 0 hi cs m) (hhi:hi≤w.heap.size) (hle:Ad m≤2147483647) (LU:LM m)
 (htab: ∀w',Below hi w w'→Lib.TabIs prog w' "strings.asciiSpace" .u8 Lib.asciiSpaceTab):
 Calls prog 18 #[.agg cs.toArray] w fun e w'=>Below w.heap.size w w'∧ ∃v,e= .returned (.tuple #[v,.int .i64 (FM m)]):=by
 have kc:=fun(v1 v2 v3 v4 v5 v6:Value)=>Lib.run_convert_bytes_const (P:=prog) (((w.alloc (.cells #[v1,v2,v3,.int .i64 m.first,.int .i64 m.most,v4,v5,v6] 29)).alloc (.cells #[.slice none 0 0] 41)).alloc (.cells #[.int .i64 0] 33)) 41 5 #[.int .u8 70,.int .u8 76,.int .u8 71,.int .u8 78,.int .u8 1] 5 5 underlying41 underlying5
 simp only [World.size_alloc] at kc
 have hmf: ∀(fn:Fn) (first cap:Array Value) (w:World),(Instr.makeFunc fn first cap).run prog w= .ok (.func fn first cap) w:=fun _ _ _ _=>rfl
 have H:=AA h;have HT:=AA htab;have HL:=AA hle;have HN:=AA LU
 obtain⟨v1,v2,v3,v4,v5,v6,rfl,_⟩:=DF.1 h
 clear h htab hle LU
 go_enter_defers func18,ntmps18
 go_upto_region 5 with fail
 generalize hw1:World.alloc _ _=w1
 obtain⟨i1,i2,i3,i4,i5,i6⟩:=uw w _ hw1
 have HB1:=AA i1;have Uk:=AA i2;have HGB:=AA i3;have xP:=AA i4;have HGA:=AA i5;have HW1:=AA i6
 have hm0:=i2.q 0 rfl
 have hm1:=i2.q 1 rfl
 have hm2:=i2.q 2 rfl
 have IX:=i2.q 3 rfl
 have Yp:=i2.q 4 rfl
 have kI:=i2.q 5 rfl
 have OU:=i2.q 6 rfl
 have qD:=i2.q 7 rfl
 have hhead:=zP _ hi w.heap.size (w.heap.size+1+1+1+1) (KE w.heap.size) m Py w1 (IZ.below H.out i1 hhi) (Nat.le_trans hhi i1.size) (fun k hk=> .inl (by omega)) i6 i1.size HL.out HN.out (by decide)
 clear hw1 kc i1 i2 i3 i4 i5 i6
 generalize dU:NY m=EE at hhead
 have HE:=AA dU
 clear dU
 go_wp2_with fail
 refine hhead.mono ?_
 clear hhead
 rintro e w2 ⟨hk2,hcase⟩
 rcases hcase with⟨h0,rfl,gs,hd⟩ | ⟨h0,rfl⟩
 case inr=>
  have H0:=AA h0
  have hge:=xP.out.keep hk2 (.inl (by omega))
  have hgb:=HGB.out.keep hk2 (.inl (by omega))
  have hga:=HGA.out.keep hk2 (.inr rfl)
  have HB:=AA (HB1.out.trans ((hk2).below HB1.out.size fun k hk=> .inl (by omega)))
  go_wp2_with fail
  refine leaves_cons (f:=62) (args:= #[.pointer (some ⟨w.heap.size+1+1,0,none⟩),.pointer (some ⟨w.heap.size+1+1+1+1+1,0,none⟩)]) (by simp) (by simp [go_sem]) ?_
  refine(QJ (EE) 0 _ _ 0 0 _ hge hga (by omega)).mono ?_
  rintro e u' wx ⟨rfl,rfl,hkx,hbe,hba⟩
  have uy:=hgb.keep hkx (by omega)
  refine leaves_cons (f:=65) (args:= #[.pointer (some ⟨w.heap.size+1+1,0,none⟩),.pointer (some ⟨w.heap.size+1,0,none⟩)]) (by simp [settle]) (by simp [go_sem]) ?_
  refine(Oq _ _ _ (EE) _ _ hbe uy).mono ?_
  rintro e u' wy ⟨rfl,rfl,hky,hby⟩
  have hc1:=hby.cell 0
  have hc2:=(hbe.keep hky (by omega)).cell 0
  have hM:FM m=EE:=by unfold FM O1;rw [HE.out,Dk (by rw [Dk h0];exact h0),Dk h0]
  have uS:=(HB.out.trans ((hkx.below (B:=w.heap.size) HB.out.size fun k hk=>by omega).trans (hky.below (B:=w.heap.size) (Nat.le_trans HB.out.size hkx.size) fun k hk=>by omega)))
  simp [Leaves,settle,results,results18,go_sem,hc1,hc2]
  exact⟨uS,hM.symm⟩
 have dn:Hid (NY m=0):=AA (HE.out.trans h0)
 have hin:=uo dn.out
 have Zz:=AA hk2
 have hx2:=Uk.out.keep hk2 (.inl (by omega))
 have hs1:=HB1.out.size
 have hlen:(Py++Qs m).length≤300000000000:=by
  have h1:=Yw HN.out HL.out (fun j x hj hx=>(PX (AL (AL (AL (AL dn.out).2).2).1).2 j x hj hx).2)
  have h2:=HL.out
  rw [List.length_append]
  show 5+_≤_
  omega
 have hbody:=zS _ hi w.heap.size (w.heap.size+1+1+1+1) gs (KE w.heap.size) m (Py++Qs m) w2 (Rd.Iz (IZ.below H.out HB1.out hhi) hk2 (by omega) (fun j _ h=> .inl (by omega))) (by have:=hk2.size;omega) (fun k hk=> .inl (by omega)) hd (by have:=hk2.size;omega) ⟨HL.out,HN.out,hin.1,hin.2.1,hin.2.2⟩ hlen (fun w' hb=>HT.out w' ((HB1.out.mono hhi).trans ((hk2.below (B:=hi) (by omega) fun k hk=> .inl (by omega)).trans hb)))
 have hm0:=hx2.q 0 rfl
 have hm1:=hx2.q 1 rfl
 have hm2:=hx2.q 2 rfl
 have IX:=hx2.q 3 rfl
 have Yp:=hx2.q 4 rfl
 have kI:=hx2.q 5 rfl
 have OU:=hx2.q 6 rfl
 have qD:=hx2.q 7 rfl
 clear hd h0 hin hs1 hlen hk2 hx2
 generalize hE2:Mt m=E2 at hbody
 have HE2:=AA hE2
 clear hE2
 go_wp2_with fail
 refine hbody.mono ?_
 clear hbody
 rintro e w3 ⟨hk3,hcase⟩
 have hk3:=Zz.out.trans hk3
 rcases hcase with⟨h0,rfl,all,hd⟩ | ⟨h0,rfl⟩
 case inr=>
  have H0:=AA h0
  have hge:=xP.out.keep hk3 (.inl (by omega))
  have hgb:=HGB.out.keep hk3 (.inl (by omega))
  have hga:=HGA.out.keep hk3 (.inr rfl)
  have HB:=AA (HB1.out.trans ((hk3).below HB1.out.size fun k hk=> .inl (by omega)))
  go_wp2_with fail
  refine leaves_cons (f:=62) (args:= #[.pointer (some ⟨w.heap.size+1+1,0,none⟩),.pointer (some ⟨w.heap.size+1+1+1+1+1,0,none⟩)]) (by simp) (by simp [go_sem]) ?_
  refine(QJ (E2) 0 _ _ 0 0 _ hge hga (by omega)).mono ?_
  rintro e u' wx ⟨rfl,rfl,hkx,hbe,hba⟩
  have uy:=hgb.keep hkx (by omega)
  refine leaves_cons (f:=65) (args:= #[.pointer (some ⟨w.heap.size+1+1,0,none⟩),.pointer (some ⟨w.heap.size+1,0,none⟩)]) (by simp [settle]) (by simp [go_sem]) ?_
  refine(Oq _ _ _ (E2) _ _ hbe uy).mono ?_
  rintro e u' wy ⟨rfl,rfl,hky,hby⟩
  have hc1:=hby.cell 0
  have hc2:=(hbe.keep hky (by omega)).cell 0
  have hM:FM m=E2:=by unfold FM O1;rw [dn.out,AY rfl,HE2.out,Dk h0]
  have uS:=(HB.out.trans ((hkx.below (B:=w.heap.size) HB.out.size fun k hk=>by omega).trans (hky.below (B:=w.heap.size) (Nat.le_trans HB.out.size hkx.size) fun k hk=>by omega)))
  simp [Leaves,settle,results,results18,go_sem,hc1,hc2]
  exact⟨uS,hM.symm⟩
 have HP:Hid (O1 m=0):=AA (by unfold O1;rw [dn.out,AY rfl,HE2.out,h0])
 obtain⟨T,d,s1,⟨A,c,s2⟩,s3,s4,s5⟩:=hd
 have hmod:Py++Qs m++U9 m=OW m:=by unfold OW;rw [List.append_assoc]
 rw [hmod] at s2
 have hg2:=s2.blk.q 2 rfl
 have aP:=AA hk3
 clear s1 s2 s3 s4 s5 h0 hk3 hm0 hm1 hm2 IX Yp kI OU qD
 have hdd:decide (((OW m).length:Int)≤65536)=decide ((OW m).length≤65536):=decide_eq_decide.2 (by omega)
 have HDD:=AA hdd
 clear hdd
 go_wp2_with fail
 refine(JJ _ 13 0 (by decide) _).mono ?_
 rintro e w4 ⟨rfl,hcase⟩
 rw [HDD.out] at hcase
 rcases hcase with⟨h0,rfl⟩ | ⟨h0,rfl⟩
 case inr=>
  have hge:=xP.out.keep aP.out (.inl (by omega))
  have hgb:=HGB.out.keep aP.out (.inl (by omega))
  have hga:=HGA.out.keep aP.out (.inr rfl)
  have HB:=AA (HB1.out.trans ((aP.out).below HB1.out.size fun k hk=> .inl (by omega)))
  go_wp2_with fail
  refine leaves_cons (f:=62) (args:= #[.pointer (some ⟨w.heap.size+1+1,0,none⟩),.pointer (some ⟨w.heap.size+1+1+1+1+1,0,none⟩)]) (by simp) (by simp [go_sem]) ?_
  refine(QJ (Ae (decide ((OW m).length≤65536)) 13) 0 _ _ 0 0 _ hge hga (by omega)).mono ?_
  rintro e u' wx ⟨rfl,rfl,hkx,hbe,hba⟩
  have uy:=hgb.keep hkx (by omega)
  refine leaves_cons (f:=65) (args:= #[.pointer (some ⟨w.heap.size+1+1,0,none⟩),.pointer (some ⟨w.heap.size+1,0,none⟩)]) (by simp [settle]) (by simp [go_sem]) ?_
  refine(Oq _ _ _ (Ae (decide ((OW m).length≤65536)) 13) _ _ hbe uy).mono ?_
  rintro e u' wy ⟨rfl,rfl,hky,hby⟩
  have hc1:=hby.cell 0
  have hc2:=(hbe.keep hky (by omega)).cell 0
  have hM:FM m=Ae (decide ((OW m).length≤65536)) 13:=by unfold FM;rw [HP.out,AY rfl]
  have uS:=(HB.out.trans ((hkx.below (B:=w.heap.size) HB.out.size fun k hk=>by omega).trans (hky.below (B:=w.heap.size) (Nat.le_trans HB.out.size hkx.size) fun k hk=>by omega)))
  simp [Leaves,settle,results,results18,go_sem,hc1,hc2]
  exact⟨uS,hM.symm⟩
 have HM:Hid (FM m=0):=AA (by unfold FM;rw [HP.out,AY rfl,h0])
 have hge:=xP.out.keep aP.out (.inl (by omega))
 have hgb:=HGB.out.keep aP.out (.inl (by omega))
 have hcb:=hgb.cell 0
 have hce:=hge.cell 0
 have hfb:=hgb.frozen 0
 have hfe:=hge.frozen 0
 have hlb:=hgb.lt
 have hle:=hge.lt
 have HB:=AA (HB1.out.trans (aP.out.below HB1.out.size fun k hk=> .inl (by omega)))
 have Hge:=AA hge;have Hgb:=AA hgb
 clear hge hgb h0
 go_wp2_with fail
 generalize VU:World.setCell _ _ _=w5
 have hbe:AV w5 (w.heap.size+1+1) 33 [.int .i64 0]:=by
  rw [←VU];exact(Hge.out.far (p:=⟨w.heap.size+1,0,none⟩) (by show w.heap.size+1+1≠w.heap.size+1;omega) _).set 0 _
 have hbb:AV w5 (w.heap.size+1) 41 [.slice A (OW m).length c]:=by
  rw [←VU];exact(Hgb.out.set 0 _).far (p:=⟨w.heap.size+1+1,0,none⟩) (by show w.heap.size+1≠w.heap.size+1+1;omega) _
 have hb5:Below w.heap.size w w5:=by rw [←VU];exact(HB.out.setCell (by show w.heap.size≤w.heap.size+1;omega) _).setCell (by show w.heap.size≤w.heap.size+1+1;omega) _
 refine leaves_cons (f:=62) (args:= #[.pointer (some ⟨w.heap.size+1+1,0,none⟩),.pointer (some ⟨w.heap.size+1+1+1+1+1,0,none⟩)]) (by simp) (by simp [go_sem]) ?_
 refine(dP _ _ _).mono ?_
 rintro e u' wx ⟨rfl,rfl,rfl⟩
 refine leaves_cons (f:=65) (args:= #[.pointer (some ⟨w.heap.size+1+1,0,none⟩),.pointer (some ⟨w.heap.size+1,0,none⟩)]) (by simp [settle]) (by simp [go_sem]) ?_
 refine(Oq _ _ _ 0 _ _ hbe hbb).mono ?_
 rintro e u' wy ⟨rfl,rfl,hky,hby⟩
 have hc1:=hby.cell 0
 have hc2:=(hbe.keep hky (by omega)).cell 0
 have hM:=HM.out
 have uS:=hb5.trans (hky.below (B:=w.heap.size) hb5.size fun k hk=>by omega)
 simp [Leaves,settle,results,results18,go_sem,hc1,hc2]
 exact⟨uS,hM.symm⟩
theorem ZE (cs:List Value) (hi:Nat) (m:AQ) (w:World) (h:IZ.R w 0 hi cs m) (hhi:hi≤w.heap.size) (hle:Ad m≤2147483647) (LU:LM m)
 (htab: ∀w',Below hi w w'→Lib.TabIs prog w' "strings.asciiSpace" .u8 Lib.asciiSpaceTab):
 Calls prog 27 #[.agg cs.toArray] w fun e w'=>Below w.heap.size w w'∧e= .returned (.int .i64 (FM m)):=by
 have hb1:Below w.heap.size w (w.alloc (.cells cs.toArray 29)):=(Below.refl _ _).alloc (Nat.le_refl _) _
 have hen:=iU cs hi m (w.alloc (.cells cs.toArray 29)) (IZ.below h hb1 hhi) (by simp only [World.size_alloc];omega) hle LU (fun w' hb=>htab w' ((hb1.mono hhi).trans hb))
 obtain⟨v1,v2,v3,v4,v5,v6,rfl,_⟩:=DF.1 h
 have hm0:=(AV.new w 29 [v1,v2,v3,.int .i64 m.first,.int .i64 m.most,v4,v5,v6]).q 0 rfl
 have hm1:=(AV.new w 29 [v1,v2,v3,.int .i64 m.first,.int .i64 m.most,v4,v5,v6]).q 1 rfl
 have hm2:=(AV.new w 29 [v1,v2,v3,.int .i64 m.first,.int .i64 m.most,v4,v5,v6]).q 2 rfl
 have IX:=(AV.new w 29 [v1,v2,v3,.int .i64 m.first,.int .i64 m.most,v4,v5,v6]).q 3 rfl
 have Yp:=(AV.new w 29 [v1,v2,v3,.int .i64 m.first,.int .i64 m.most,v4,v5,v6]).q 4 rfl
 have kI:=(AV.new w 29 [v1,v2,v3,.int .i64 m.first,.int .i64 m.most,v4,v5,v6]).q 5 rfl
 have OU:=(AV.new w 29 [v1,v2,v3,.int .i64 m.first,.int .i64 m.most,v4,v5,v6]).q 6 rfl
 have qD:=(AV.new w 29 [v1,v2,v3,.int .i64 m.first,.int .i64 m.most,v4,v5,v6]).q 7 rfl
 have HB1:=AA hb1
 clear h hb1
 go_enter func27,ntmps27
 go_wp2_with fail
 refine hen.mono ?_
 clear hen
 rintro e w2 ⟨hb2,v,rfl⟩
 go_wp2_with fail
 go_ret
 exact⟨HB1.out.trans (hb2.mono (by simp only [World.size_alloc];omega)),rfl⟩
theorem Kh {B b:Nat} {l:List UInt8} (ws:List ByteArray) (ps:List (List UInt8)) (hps:ws.map (·.data.toList)=ps) (n:Nat) (hn:ws.length=n) (g:Nat) (w:World) (hg:w.heap.size=g) (h:Ot B b w l) (hB:B≤w.heap.size) (hlen:(l++Cg ps).length≤1048576) (hw:n≤1000):
 Calls prog 28 #[.slice (some ⟨g,0,none⟩) n n,.pointer (some ⟨b,0,none⟩)] (w.alloc (.cells (ws.map Value.string).toArray 9)) fun e w'=>e= .returned (.tuple #[])∧Ot B b w' (l++Cg ps)∧Below B w w'∧VP b w w':=by
 subst hps
 subst hg
 have hb:=(Below.refl w.heap.size w).alloc (Nat.le_refl _) (.cells (ws.map Value.string).toArray 9)
 have hrow:=AV.new w 9 (ws.map Value.string)
 rw [List.length_append] at hlen
 refine(vD B b l ws n w.heap.size 0 n _ hn (h.below hb) (Nat.le_trans hB hb.size) (fun j x hx=> ?_) hrow.lt (Nat.le_refl _) (by omega) (by omega)).mono ?_
 ·have:=hrow.cell j
  rw [List.getElem?_map,hx] at this
  rw [Nat.zero_add]
  exact this
 ·rintro e w' ⟨h1,h2,h3,h4⟩
  exact⟨h1,h2,(hb.mono hB).trans h3,h4.below hb⟩
theorem TU {α:Type} (f:α→List UInt8) (l:List α) (k:Nat):((l.take k).flatMap f).length≤(l.flatMap f).length:=by
 have h:=List.take_append_drop k l
 conv=>rhs;rw [←h,List.flatMap_append,List.length_append]
 omega
def YM (m:AQ):List UInt8:=Cg [Mi]
def Pk (x:Dl):List UInt8:=Cg [Sn,UY x]
def LW (t:Int):List UInt8:=Cg [Nj,Lib.itoa t]
def Ve (m:AQ):List UInt8:=YM m++m.types.flatMap Pk
def Vf (m:AQ):List UInt8:=Ve m++m.hosts.flatMap LW
def qG (m:AQ):List UInt8:=Vf m++m.globs.flatMap FN
def Tj (m:AQ):List UInt8:=qG m++Cg [Ik,Lib.itoa m.first,Lib.itoa m.most]
def Sd (m:AQ):List UInt8:=Tj m++m.fns.flatMap Sc
def VQ (m:AQ):List UInt8:=Sd m++m.dat.flatMap Lm
def oN (m:AQ):List UInt8:=VQ m++m.AO.flatMap NA
theorem iW (m:AQ):oN m=Il m:=by
 unfold oN VQ Sd Tj qG Vf Ve YM Il jZ jc
 show _=(Cg [Mi]++(m.types.flatMap Pk++(m.hosts.flatMap LW++(m.globs.flatMap FN++Cg [Ik,Lib.itoa m.first,Lib.itoa m.most]))))++(m.fns.flatMap Sc++(m.dat.flatMap Lm++m.AO.flatMap NA))
 simp only [List.append_assoc]
theorem Ou (m:AQ) (h:(Il m).length≤1048576):(YM m).length≤1048576∧(Ve m).length≤1048576∧(Vf m).length≤1048576∧(qG m).length≤1048576∧(Tj m).length≤1048576∧(Sd m).length≤1048576∧(VQ m).length≤1048576∧(oN m).length≤1048576:=by
 rw [←iW] at h
 have l1:(Ve m).length=(YM m).length+(m.types.flatMap Pk).length:=List.length_append
 have l2:(Vf m).length=(Ve m).length+(m.hosts.flatMap LW).length:=List.length_append
 have l3:(qG m).length=(Vf m).length+(m.globs.flatMap FN).length:=List.length_append
 have l4:(Tj m).length=(qG m).length+(Cg [Ik,Lib.itoa m.first,Lib.itoa m.most]).length:=List.length_append
 have l5:(Sd m).length=(Tj m).length+(m.fns.flatMap Sc).length:=List.length_append
 have l6:(VQ m).length=(Sd m).length+(m.dat.flatMap Lm).length:=List.length_append
 have l7:(oN m).length=(VQ m).length+(m.AO.flatMap NA).length:=List.length_append
 omega
theorem Dz {α:Type} (pre:List UInt8) (f:α→List UInt8) {l:List α} {k:Nat} {x:α} (h:l[k]?=some x):pre++(l.take k).flatMap f++f x=pre++(l.take (k+1)).flatMap f:=by
 rw [FK h,List.append_assoc]
theorem DC {α:Type} (pre:List UInt8) (f:α→List UInt8) {l:List α} {k:Nat} {x:α} (h:l[k]?=some x):(pre++(l.take k).flatMap f++f x).length≤(pre++l.flatMap f).length:=by
 rw [Dz pre f h,List.length_append,List.length_append]
 have:=TU f l (k+1)
 omega
theorem dx (s:ByteArray):DI s=BA (EW s):=by
 unfold DI EW
 by_cases hz:s=none_
 ·rw [if_pos hz,if_pos (by rw [hz];rfl)];rfl
 ·rw [if_neg hz,if_neg (fun e=>hz (by
   cases s with
   | mk d=>
    have:d.size=0:=e
    rw [show d= #[] from Array.eq_empty_of_size_eq_zero this];rfl)),O6]
theorem QO {α:Type} (f:α→Nat): ∀ {l:List α} {x:α},x∈l→f x≤Ak f l
 | y::l,x,h=>by
  have e:Ak f (y::l)=f y+Ak f l:=by simp [Ak]
  rcases List.mem_cons.1 h with rfl | h
  ·omega
  ·have:=QO f h;omega
theorem vE {m:AQ} {f:FL} (hf:f∈m.fns) (h:Ad m≤2147483647):f.code.length≤2147483647∧ ∀y∈f.code,y.l.length≤2147483647:=by
 have h1:=QO JB hf
 have h2:Ak JB m.fns≤Ad m:=by unfold Ad;omega
 have h3:JB f=f.loc.size+(f.code.length+Ak (fun i=>i.l.length) f.code):=rfl
 refine⟨by omega,fun y hy=> ?_⟩
 have h4:=QO (fun i:Av=>i.l.length) hy
 have h5:y.l.length≤Ak (fun i:Av=>i.l.length) f.code:=h4
 omega
theorem kS {m:AQ} {d:EZ} (hd:d∈m.dat) (h:Ad m≤2147483647):d.b.length≤2147483647:=by
 have h1:=QO (fun d:EZ=>d.b.length) hd
 have h2:Ak (fun d:EZ=>d.b.length) m.dat≤Ad m:=by unfold Ad;omega
 have h3:d.b.length≤Ak (fun d:EZ=>d.b.length) m.dat:=h1
 omega
theorem dz {x:Dl} (h:aO x.p x.r=true):(MR x.p x.r).1=BA (UY x):=by
 have hs: ∀s:ByteArray,DI s=BA (EW s):=fun s=>by
  unfold DI EW
  by_cases hz:s=none_
  ·rw [if_pos hz,if_pos (by rw [hz];rfl)];rfl
  ·rw [if_neg hz,if_neg (fun e=>hz (by
    cases s with
    | mk d=>
     have:d.size=0:=e
     rw [show d= #[] from Array.eq_empty_of_size_eq_zero this];rfl)),O6]
 unfold MR UY
 rw [if_pos h]
 show DI x.p++arrow++DI x.r=_
 rw [hs,hs,←Np,←Np,ByteArray.append_assoc]
 rfl
structure PR (w0 wr:World) (l:List UInt8):Prop where
 Gg:Below w0.heap.size w0 wr
 aQ:Ot w0.heap.size w0.heap.size wr l
structure M7 (w w2:World) (hi hj:Nat) (m:AQ) (A1:Option Addr) (c1:Nat) (A2:Option Addr) (c2:Nat) (A3:Option Addr) (c3:Nat) (A6:Option Addr) (c6:Nat) (A7:Option Addr) (c7:Nat) (A8:Option Addr) (c8:Nat):Prop where
 hhi:hi≤w.heap.size
 KQ:hj≤w.heap.size
 Gg:Below w.heap.size w w2
 lt:w.heap.size<w2.heap.size
 env:Dt hj w
 fine:yJ m
 le:(Il m).length≤1048576
 few:Ad m≤2147483647
 blk:AV w2 w.heap.size 29 [.slice A1 m.types.length c1,.slice A2 m.hosts.length c2,.slice A3 m.globs.length c3,.int .i64 m.first,.int .i64 m.most,.slice A6 m.fns.length c6,.slice A7 m.dat.length c7,.slice A8 m.AO.length c8]
 h1:(Mr.sl false).R w 0 hi [.slice A1 m.types.length c1] m.types
 h2:(Rd.i64.sl false).R w 0 hi [.slice A2 m.hosts.length c2] m.hosts
 h3:(JG.sl false).R w 0 hi [.slice A3 m.globs.length c3] m.globs
 h6:(Tf.sl false).R w 0 hi [.slice A6 m.fns.length c6] m.fns
 h7:(Kz.sl false).R w 0 hi [.slice A7 m.dat.length c7] m.dat
 h8:(M_.sl false).R w 0 hi [.slice A8 m.AO.length c8] m.AO
def Mk:Code→List Code
 | .loop c=> [c]
 | .seq a b=>Mk a++Mk b
 | .block _ c=>Mk c
 | .scope c=>Mk c
 | .cond _ a b=>Mk a++Mk b
 | _=> []
noncomputable def Jr (n:Nat):Code:=((((f10.body.map Mk).getD [])[n]?).getD .skip)
noncomputable def TV (n:Nat):Code:=(((Mk (Jr n))[0]?).getD .skip)
section
attribute [local irreducible] CG
theorem vZ {op:Nat} {r:ZR} (hr:CG op=some r) (hop:op<256) (w:World):Calls prog 83 #[.int .u8 op] w fun e w'=>Below w.heap.size w w'∧e= .returned (.int .i8 r.takes):=by
 go_enter func83,ntmps83
 go_wp2_with fail
 refine(Xz op _ hop).mono ?_
 rintro e w1 ⟨hb,rfl⟩
 have H1:=AA hb;clear hb
 have ha:Eh op= .tuple #[.agg (opC r),.bool true]:=by unfold Eh;rw [hr]
 rw [ha]
 unfold opC
 clear ha hr
 go_wp2_with fail
 go_ret
 exact⟨H1.out.alloc H1.out.size _,rfl⟩
theorem AAJ {op:Nat} {r:ZR} (hr:CG op=some r) (hop:op<256) (w:World):Calls prog 82 #[.int .u8 op] w fun e w'=>Below w.heap.size w w'∧e= .returned (.string r.word):=by
 go_enter func82,ntmps82
 go_wp2_with fail
 refine(Xz op _ hop).mono ?_
 rintro e w1 ⟨hb,rfl⟩
 have H1:=AA hb;clear hb
 have ha:Eh op= .tuple #[.agg (opC r),.bool true]:=by unfold Eh;rw [hr]
 rw [ha]
 unfold opC
 clear ha hr
 go_wp2_with fail
 go_ret
 exact⟨H1.out.alloc H1.out.size _,rfl⟩
def AAK (l:List Int) (P:List UInt8) (w1:World) (S I:Value) (wr:World):Prop:= ∃(k:Nat) (s:ByteArray),k≤l.length∧S= .string s∧I= .int .i64 (k:Int)∧s.data.toList=P++(l.take k).flatMap (fun n=>32::Lib.itoa n)∧Below w1.heap.size w1 wr
theorem jA {l:List Int} (hl: ∀n∈l,Rd.Ej n) (k:Nat):((l.take k).flatMap fun n=>32::Lib.itoa n).length≤21*l.length:=by
 have h1:=TU (fun n:Int=>32::Lib.itoa n) l k
 have h2: ∀l:List Int,(∀n∈l,Rd.Ej n)→(l.flatMap fun n=>32::Lib.itoa n).length≤21*l.length:=by
  intro l
  induction l with
  | nil=>intro _;exact Nat.zero_le _
  | cons n l ih=>
   intro h
   have a:=Dc n (h n (List.mem_cons_self ..))
   have b:=ih (fun y hy=>h y (List.mem_cons_of_mem _ hy))
   rw [List.flatMap_cons,List.length_append,List.length_cons,List.length_cons]
   omega
 have:=h2 l hl
 omega
theorem AAL {s:ByteArray} {l:List UInt8} (h:s.data.toList=l):s=BA l:=by rw [←h,O6]
theorem X0 (x:Av) (A:Option Addr) (c hi:Nat) (w:World) (hck:Aa x=0) (ha:Rd.Ej x.a) (hl: ∀n∈x.l,Rd.Ej n) (hll:x.l.length≤2147483647) (h:(Rd.i64.sl false).R w 0 hi [.slice A x.l.length c] x.l) (hhi:hi≤w.heap.size):
 Calls prog 42 #[.agg #[.int .u8 (x.op.toNat:Int),.int .i64 x.a,.slice A x.l.length c]] w fun e w'=>Below w.heap.size w w'∧e= .returned (.string (BA (PO x))):=by
 obtain⟨r,hr,hm,hop⟩:=WQ hck
 have hw12:r.word.size≤12:=by have:=of_decide_eq_true (List.all_eq_true.1 jq r hm);rwa [SL] at this
 have AE0:x.op.toNat<256:=UInt8.toNat_lt _
 have HT:Hid (PO x=(r.word.data.toList++(if r.takes≠0∧r.takes≠3 then 32::Lib.itoa x.a else []))++x.l.flatMap fun n=>32::Lib.itoa n):=AA (by
  unfold PO
  rw [show Na x.op.toNat=r.word.data.toList by unfold Na;rw [hr],show KS x.op.toNat=r.takes by unfold KS;rw [hr],List.append_assoc])
 have HH:=AA h;have HL:=AA hl;have HR:=AA hr;have HA:=AA ha;have uZ:=AA hll
 have AE1:=Dc x.a ha
 have AE2:Hid ((BA (Lib.itoa x.a)).size≤20):=AA (by show(List.toArray _).size≤20;rw [List.size_toArray];exact AE1)
 clear h hl hr ha hck hm hop AE1 hll
 go_enter func42,ntmps42
 go_upto_region 1 with fail
 generalize hw1:World.alloc _ _=w1
 have HB1:Hid (Below w.heap.size w w1):=AA (by rw [←hw1];exact(Below.refl _ _).alloc (Nat.le_refl _) _)
 have Y2:Hid (AV w1 w.heap.size 53 [.int .u8 (x.op.toNat:Int),.int .i64 x.a,.slice A x.l.length c]):=AA (by rw [←hw1];exact AV.new w _ _)
 have c0:=Y2.out.q 0 rfl
 clear hw1
 go_wp2_with fail
 refine(AAJ HR.out AE0 w1).mono ?_
 rintro e w2 ⟨hb2,rfl⟩
 have HB2:=AA (HB1.out.trans (hb2.mono HB1.out.size))
 have VF:=AA (Y2.out.below hb2 Y2.out.lt)
 have c0':=VF.out.q 0 rfl
 clear hb2 c0
 go_wp2_with fail
 refine(vZ HR.out AE0 w2).mono ?_
 rintro e w3 ⟨hb3,rfl⟩
 have HB3:=AA (HB2.out.trans (hb3.mono HB2.out.size))
 have Gz:=AA (VF.out.below hb3 VF.out.lt)
 clear hb3 c0'
 obtain⟨b,hbb⟩: ∃b:Bool,decide (r.takes≠0∧r.takes≠3)=b:=⟨_,rfl⟩
 have zW:=AA hbb
 clear hbb
 go_upto_region 3 with fail
 go_cut [17] (fun q wx=>q= .bool b∧wx=w3)
 case first=>
  by_cases h0:r.takes=0
  ·have e0:(r.takes !=0)=false:=by rw [h0];rfl
   have HX:Hid (b=false):=AA (by rw [←zW.out];exact decide_eq_false (fun h=>h.1 h0))
   clear h0
   go_wp2_with fail
   go_meet
   exact⟨by rw [HX.out],rfl⟩
  ·have e0:(r.takes !=0)=true:=bne_iff_ne.2 h0
   have HX:Hid (b=(r.takes !=3)):=AA (by rw [←zW.out];by_cases h3:r.takes=3<;>simp [h0,h3])
   clear h0
   go_wp2_with fail
   go_meet
   exact⟨by rw [HX.out],rfl⟩
 case rest=>
  obtain⟨rfl,rfl⟩:=hcut
  obtain⟨wo,rfl⟩: ∃wo:World,wo=wc:=⟨_,rfl⟩
  go_upto_if 17 with fail
  go_cut [3] (fun s wx=> ∃t:ByteArray,s= .string t∧t.data.toList=r.word.data.toList++(if r.takes≠0∧r.takes≠3 then 32::Lib.itoa x.a else [])∧Below wo.heap.size wo wx)
  case first=>
   cases b with
   | false=>
    have HX:Hid ((if r.takes≠0∧r.takes≠3 then 32::Lib.itoa x.a else [])= []):=AA (if_neg (of_decide_eq_false zW.out))
    go_wp2_with fail
    go_meet
    exact⟨r.word,rfl,by rw [HX.out,List.append_nil],Below.refl _ _⟩
   | true=>
    have HX:Hid ((if r.takes≠0∧r.takes≠3 then 32::Lib.itoa x.a else [])=32::Lib.itoa x.a):=AA (if_pos (of_decide_eq_true zW.out))
    have c1:=Gz.out.q 1 rfl
    have X3:=AA (Iq x.a HA.out wo)
    go_wp2_with fail
    refine X3.out.mono ?_
    rintro e w4 ⟨hb4,rfl⟩
    have Ke:=AA hb4
    have hz:=AE2.out
    generalize hda:BA (Lib.itoa x.a)=da at hz⊢
    have HDA:=AA hda
    clear hb4 c1 hda X3
    go_wp2_with fail
    go_meet
    refine⟨r.word++⟨#[32]⟩++da,rfl,?_,Ke.out⟩
    rw [HX.out,←HDA.out]
    simp [BA]
  case rest=>
   obtain⟨t,rfl,ht,hb⟩:=hcut
   have ht40:t.size≤40:=by
    rw [←SL,ht,List.length_append,SL]
    have h1:=AE2.out
    have h2:(BA (Lib.itoa x.a)).size=(Lib.itoa x.a).length:=by show(List.toArray _).size=_;rw [List.size_toArray]
    split
    ·rw [List.length_cons];omega
    ·rw [List.length_nil];omega
   have HBt:Hid (Below wo.heap.size wo wc):=AA hb
   have HBw:=AA (HB3.out.trans (hb.mono HB3.out.size))
   have HMc:=AA (Gz.out.below hb Gz.out.lt)
   have HTT:=AA ht
   generalize hP:r.word.data.toList++(if r.takes≠0∧r.takes≠3 then 32::Lib.itoa x.a else [])=P at HT HTT
   clear ht hb hP
   go_wp2_with fail
   go_loopw [3,5] (fun S I wr=>AAK x.l P wc S I wr) (fun _ I _=>x.l.length-(intOf I).toNat)
   case atStart=>exact⟨0,t,Nat.zero_le _,rfl,rfl,by rw [HTT.out];simp,Below.refl _ _⟩
   case round=>
    obtain⟨k,s,hk,rfl,rfl,hS,hb⟩:=hrel
    have hsz:s.size≤50000000000:=by
     rw [←SL,hS,←HTT.out,List.length_append,SL]
     have h1:=jA HL.out k
     have:=uZ.out
     omega
    have HS:=AA hS;have HB:=AA hb
    have fT:=AA (HMc.out.below hb HMc.out.lt)
    have Ky:=AA (HBw.out.trans (hb.mono HBw.out.size))
    have c2:=fT.out.q 2 rfl
    have hk0:(0:Int)≤k:=by omega
    have hkb:(k:Int)≤2147483647:=by have:=uZ.out;omega
    clear hS hb
    by_cases hlt:k<x.l.length
    ·obtain⟨n,hn⟩: ∃n,x.l[k]?=some n:=⟨_,List.getElem?_eq_getElem hlt⟩
     obtain⟨b,o,rfl,_,Kg,hc,hn63⟩:=ints_at (Rd.below HH.out Ky.out hhi) hn
     have Lr:(k:Int)<x.l.length:=by omega
     have X3:=AA (Iq n hn63 wr)
     have AE3:=Dc n hn63
     have HN20:Hid ((BA (Lib.itoa n)).size≤20):=AA (by show(List.toArray _).size≤20;rw [List.size_toArray];exact AE3)
     have Ul:=AA (Dz P (fun n:Int=>32::Lib.itoa n) hn)
     clear hn AE3 hn63
     go_wp2_with fail
     refine X3.out.mono ?_
     rintro e w4 ⟨hb4,rfl⟩
     have Ke:=AA (HB.out.trans (hb4.mono HB.out.size))
     have hz:=HN20.out
     generalize hda:BA (Lib.itoa n)=da at hz⊢
     have HDA:=AA hda
     clear hb4 hda X3 hc c2
     go_wp2_with fail
     refine⟨⟨k+1,s++⟨#[32]⟩++da,hlt,rfl,by go_num,?_,Ke.out⟩,by simp [intOf];omega⟩
     rw [←Ul.out,←HS.out,←HDA.out]
     simp [BA]
    ·obtain rfl:x.l.length=k:=by omega
     go_wp2_with fail
     go_ret
     refine⟨Ky.out,?_⟩
     have:=HS.out
     rw [List.take_length,←HT.out] at this
     rw [AAL this]
     rfl
end
def AAG:ByteArray:=⟨#[48,49,50,51,52,53,54,55,56,57,97,98,99,100,101,102]⟩
theorem AAH: ∀k:Fin 16,AAG.extract k.val (k.val+1)=⟨#[OX k.val]⟩:=by decide+kernel
theorem kX (k:Nat) (h:k<16) (W:World):(Instr.slice 9 (.string AAG) (some (.int .u8 (k:Int))) (some (.int .u8 ((k:Int)+1))) none).run prog W= .ok (.string ⟨#[OX k]⟩) W:=by
 have:=run_slice_string (P:=prog) W 9 AAG .u8 .u8 (k:Int) ((k:Int)+1) underlying9 (by omega) (by omega) (by show _≤((16:Nat):Int);omega)
 rw [this,Int.toNat_natCast,show((k:Int)+1).toNat=k+1 by omega,AAH ⟨k,h⟩]
theorem ACj (c:UInt8) (w:World):Calls prog 43 #[.int .u8 (c.toNat:Int)] w fun e w'=>Below w.heap.size w w'∧e= .returned (.string (BA (KX [c]))):=by
 have hc:=UInt8.toNat_lt c
 obtain⟨n,hn⟩: ∃n,c.toNat=n:=⟨_,rfl⟩
 have HX:Hid (KX [c]= [OX (n/16),OX (n%16)]):=AA (by rw [←hn];rfl)
 rw [hn] at hc⊢
 obtain⟨a,ha,ha16,haa⟩: ∃a:Nat,(n:Int)/16=(a:Int)∧a<16∧n/16=a:=⟨n/16,by omega,by omega,rfl⟩
 obtain⟨b,hb,hb16,hbb⟩: ∃b:Nat,(n:Int)%16=(b:Int)∧b<16∧n%16=b:=⟨n%16,by omega,by omega,rfl⟩
 rw [haa,hbb] at HX
 have ra:=kX a ha16
 have rb:=kX b hb16
 have a0:(0:Int)≤a:=by omega
 have a1:(a:Int)<16:=by omega
 have b0:(0:Int)≤b:=by omega
 have b1:(b:Int)<16:=by omega
 clear haa hbb hn
 go_enter func43,ntmps43
 go_wp2_with fail
 rw [show({data:= #[48,49,50,51,52,53,54,55,56,57,97,98,99,100,101,102]}:ByteArray)=AAG from rfl]
 go_region
 go_wp2_with fail
 go_ret
 exact⟨⟨rfl,rfl,rfl,Nat.le_refl _,fun _ _=>rfl⟩,by rw [HX.out];rfl⟩
theorem Rq {P:Program} (w:World) (base:Nat) (t u ty e:TypeId) (i:TypeInfo) (ht:P.underlying t=some (.slice e)) (hu:P.underlying u=some .string) (hi:P.info? e=some i) (hz:i.zero=some (.int .u8 0)) (hsize:i.size=1) (hby:i.bytes=1)
 (v:Value) (n:Nat) (xs:List Value) (hown:w.ownsRow base e 1 v n xs) (s:ByteArray) (h47:n+s.size≤140737488351232) (hbase:base≤w.heap.size):
 ∃v' w',(Builtin.append_ #[t,u] ty #[v,.string s]).run P w= .ok v' w'∧w'.ownsRow base e 1 v' (n+s.size) (xs++Lib.strCells s)∧w.grownBy w' v.ownBlock∧(v'.ownBlock=v.ownBlock∨v'.ownBlock=some w.heap.size):=by
 obtain⟨v',w',hr,h2,h3,h4⟩:=Lib.run_append_own_string (P:=P) w base t u ty e i ht hu hi hz hsize hby v n xs hown s (by unfold maxLen;omega) (by omega) hbase
 refine⟨v',w',hr,h2,h3,?_⟩
 have hxl:xs.length=n:=by simpa using hown.1
 rcases hown.2 with⟨rfl,rfl⟩ | ⟨g,cap,cur,rfl,hbg,hg,hnc,hcm,hcs,htake⟩
 ·rcases h2.2 with⟨rfl,_⟩ | ⟨g,cap,cur,rfl,hbg,hg,hnc,hcm,hcs,htake⟩
  ·exact .inl rfl
  ·by_cases hm:s.size=0
   ·have:=h4.2 ⟨rfl,hm⟩
    cases this
   ·have hr2:=run_append_nil_string (P:=P) w t u ty e i (.int .u8 0) ht hu hi hz s (by omega) (by omega) (by rw [hby];omega)
    rw [hr2] at hr
    injection hr with hr _
    rw [←hr]
    exact .inr rfl
 ·by_cases hroom:n+s.size≤cap
  ·have hr2:=Lib.run_append_room_string (P:=P) w t u ty e i ht hu hi hsize g n cap cur hg s hroom (by simp at hcs;omega)
   rw [hr2] at hr
   injection hr with hr _
   rw [←hr]
   exact .inl rfl
  ·have holds: ∀j u,xs[j]?=some u→w.cell? ((⟨g,0,none⟩:Addr).add j)=some u:=hown.cells (g:=g) rfl
   have hr2:=Lib.run_append_grow_string (P:=P) w t u ty e i (.int .u8 0) ht hu hi hz ⟨g,0,none⟩ n cap xs (by rw [hsize];simpa using hxl) holds s (by omega) (by unfold maxLen at*;omega) (by rw [hby];exact growslice_fits (by omega) (by omega))
   rw [hr2] at hr
   injection hr with hr _
   rw [←hr]
   exact .inr rfl
def A_ (w0 W:World) (A:Option Addr) (n c:Nat) (l:List UInt8):Prop:=W.ownsRow w0.heap.size 5 1 (.slice A n c) n (l.map bv)∧Below w0.heap.size w0 W
theorem A_.len {w0 W:World} {A:Option Addr} {n c:Nat} {l:List UInt8} (h:A_ w0 W A n c l):n=l.length:=by have:=h.1.1;simp at this;exact this.symm
def Aside (w7:World) (r7:Option Nat) (W:World) (v:Value):Prop:=w7.grownBy W r7∧(v.ownBlock=r7∨ ∀g,v.ownBlock=some g→w7.heap.size≤g)
theorem Aside.refl (w7:World) (v:Value):Aside w7 v.ownBlock w7 v:=⟨World.grownBy.refl w7 _,.inl rfl⟩
theorem Aside.step {w7 W W':World} {r7:Option Nat} {v v':Value} (h:Aside w7 r7 W v) (hg:W.grownBy W' v.ownBlock) (ha:v'.ownBlock=v.ownBlock∨v'.ownBlock=some W.heap.size):Aside w7 r7 W' v':=by
 obtain⟨h1,h2⟩:=h
 refine⟨⟨hg.os.trans h1.os,hg.tape.trans h1.tape,hg.output.trans h1.output,Nat.le_trans h1.size hg.size,fun k hk hn=> ?_⟩,?_⟩
 ·rw [hg.block k (Nat.lt_of_lt_of_le hk h1.size) (fun e=> ?_)]
  ·exact h1.block k hk hn
  ·rcases h2 with h2 | h2
   ·exact hn (e.trans h2)
   ·exact absurd (h2 k e.symm) (by omega)
 ·rcases ha with ha | ha
  ·rw [ha];exact h2
  ·right
   intro g hg'
   rw [ha] at hg'
   injection hg' with hg'
   have:=h1.size
   omega
theorem Aside.alloc {w7 W:World} {r7:Option Nat} {v:Value} (h:Aside w7 r7 W v) (o:Obj):Aside w7 r7 (W.alloc o) v:=by
 have:=h.1.size
 exact⟨⟨h.1.os,h.1.tape,h.1.output,by simp;omega,fun k hk hn=>(heap_alloc_old W o (by omega)).trans (h.1.block k hk hn)⟩,h.2⟩
theorem A_.alloc {w0 W:World} {A:Option Addr} {n c:Nat} {l:List UInt8} (h:A_ w0 W A n c l) (o:Obj):A_ w0 (W.alloc o) A n c l:=⟨h.1.alloc o,h.2.alloc h.2.size o⟩
theorem A_.below {w0 W W':World} {A:Option Addr} {n c:Nat} {l:List UInt8} (h:A_ w0 W A n c l) (hb:Below W.heap.size W W'):A_ w0 W' A n c l:=⟨CJ h.1 hb,h.2.trans (hb.mono h.2.size)⟩
theorem VR (t:ByteArray):Lib.strCells t=t.data.toList.map bv:=rfl
theorem SN (w0:World) {w7:World} {r7:Option Nat} (w:World) {ops:Array Oper} {rest:List Oper} {o:Oper} {a:Act} {Q:Exit→Act→World→Prop} (hgd:o.guard=none) (s x:Operand)
 (ho:o.op= .call {callee:= .builtin .append,args:= #[s,x],argTypes:= #[41,9]}) (A:Option Addr) (n c:Nat) (l:List UInt8) (hs:a.eval s= .slice A n c) (hown:A_ w0 w A n c l) (has:Aside w7 r7 w (.slice A n c)) (t:ByteArray) (t':List UInt8) (ht:t.data.toList=t') (hx:a.eval x= .string t) (h47:l.length+t'.length≤140737488351232)
 (h: ∀A' n' c' w',A_ w0 w' A' n' c' (l++t')→Aside w7 r7 w' (.slice A' n' c')→wpList prog ops Q rest (a.put o.dst (.slice A' n' c')) w'):wpList prog ops Q (o::rest) a w:=by
 subst ht
 have hts:t.data.toList.length=t.size:=by simp
 have hln:=hown.len
 obtain⟨i0,hi,hz,hs',hb⟩:=info_parts G8
 refine wpList_plain hgd fun _ hK=> ?_
 obtain⟨v',w',hrun,h2,h3,h4⟩:=Rq (P:=prog) w w0.heap.size 41 9 o.type 5 i0 underlying41 underlying9 hi hz hs' hb _ _ _ hown.1 t (by omega) hown.2.size
 obtain⟨A',c',rfl⟩:=Si h2
 rw [VR,←List.map_append] at h2
 have hk:=h A' _ c' w' ⟨h2,hown.2.trans (own_below hown.1 h3 hown.2.size)⟩ (has.step h3 h4)
 unfold Oper.wp execOp
 simp only [ho,resolve,invoke,builtin,Sem.run_bind,Sem.run_pure,Result.andThen_ok,List.map_toArray,List.map_cons,List.map_nil,hs,hx,hrun]
 exact hK _ _ hk
theorem AAM (w0:World) {w7:World} {r7:Option Nat} (w:World) (b:UInt8) {ops:Array Oper} {rest:List Oper} {o:Oper} {a:Act} {Q:Exit→Act→World→Prop} (hgd:o.guard=none) (s x:Operand)
 (ho:o.op= .call {callee:= .builtin .append,args:= #[s,x],argTypes:= #[41,41]}) (A:Option Addr) (n c:Nat) (l:List UInt8) (hs:a.eval s= .slice A n c) (hown:A_ w0 w A n c l) (has:Aside w7 r7 w (.slice A n c)) (hx:a.eval x= .slice (some ⟨w.heap.size,0,none⟩) 1 1) (h47:l.length+1≤140737488351232)
 (h: ∀A' n' c' w',A_ w0 w' A' n' c' (l++ [b])→Aside w7 r7 w' (.slice A' n' c')→wpList prog ops Q rest (a.put o.dst (.slice A' n' c')) w'):wpList prog ops Q (o::rest) a (w.alloc (.cells #[bv b] 5)):=by
 have hln:=hown.len
 obtain⟨i0,hi,hz,hs',hb⟩:=info_parts G8
 refine Rv (P:=prog) _ hgd s x 41 ho w0.heap.size 5 i0 (.int .u8 0) 1 underlying41 hi hz hs' hb rfl _ n (l.map bv) hs (hown.1.alloc _) (w.heap.size+1) _ 1 1 [bv b] hx rfl (row_one w (bv b) 5) (fun u hu=>by rw [List.mem_singleton] at hu;subst hu;rfl) (by unfold maxLen;omega) (by omega) (by have:=hown.2.size;simp;omega) ?_
 intro A' c' w' h2 h3 h4
 have e2:(l++ [b]).map bv=l.map bv++ [bv b]:=by rw [List.map_append];rfl
 rw [←e2] at h2
 exact h A' _ c' w' ⟨h2,(hown.alloc (.cells #[bv b] 5)).2.trans (own_below (hown.1.alloc _) h3 (by have:=hown.2.size;simp;omega))⟩ ((has.alloc _).step h3 h4)
theorem Ig (w0:World) {w7:World} {r7:Option Nat} {ops:Array Oper} {o:Oper} {a:Act} {w:World} {K:Act→World→Prop} {Q:Exit→Act→World→Prop} {E:Prop} (hgd:o.guard=none) (s x:Operand)
 (ho:o.op= .call {callee:= .builtin .append,args:= #[s,x],argTypes:= #[41,9]}) (A:Option Addr) (n c:Nat) (l:List UInt8) (hs:a.eval s= .slice A n c) (hown:A_ w0 w A n c l) (has:Aside w7 r7 w (.slice A n c)) (t:ByteArray) (t':List UInt8) (ht:t.data.toList=t') (hx:a.eval x= .string t) (h47:l.length+t'.length≤140737488351232)
 (h: ∀A' n' c' w',A_ w0 w' A' n' c' (l++t')→Aside w7 r7 w' (.slice A' n' c')→K (a.put o.dst (.slice A' n' c')) w'):if Region.wanted o (yielded ops a.tmps)=true then Oper.wp prog o a w K Q else E:=by
 have hw:Region.wanted o (yielded ops a.tmps)=true:=by simp [Region.wanted,hgd]
 rw [if_pos hw]
 subst ht
 have hts:t.data.toList.length=t.size:=by simp
 have hln:=hown.len
 obtain⟨i0,hi,hz,hs',hb⟩:=info_parts G8
 obtain⟨v',w',hrun,h2,h3,h4⟩:=Rq (P:=prog) w w0.heap.size 41 9 o.type 5 i0 underlying41 underlying9 hi hz hs' hb _ _ _ hown.1 t (by omega) hown.2.size
 obtain⟨A',c',rfl⟩:=Si h2
 rw [VR,←List.map_append] at h2
 have hk:=h A' _ c' w' ⟨h2,hown.2.trans (own_below hown.1 h3 hown.2.size)⟩ (has.step h3 h4)
 unfold Oper.wp
 simp [execOp,ho,resolve,invoke,builtin,hs,hx,hrun,Result.andThen]
 exact hk
theorem Iz {P:Program} {code:Code} {Q:Exit→Act→World→Prop} {a:Act} {w:World} {K0:Act→World→Prop} (J:(Act→World→Prop)→Prop) (h0:J K0) (h: ∀K,Hid (J K)→Code.wp P code (Exit.then K Q) a w):Code.wp P code (Exit.then K0 Q) a w:=h K0 (AA h0)
noncomputable def SQ (n:Nat):Code:=((((f11.body.map Mk).getD [])[n]?).getD .skip)
noncomputable def kY (n:Nat):Code:=(((Mk (SQ n))[0]?).getD .skip)
theorem str3 (a b c:ByteArray) (x:List UInt8) (h:b=BA x):(a++b++c).data.toList=a.data.toList++x++c.data.toList:=by rw [h];simp [BA]
theorem JY (l:List UInt8):(BA l).size=l.length:=by show(List.toArray _).size=_;rw [List.size_toArray]
theorem Aside.below {w7 W W':World} {r7:Option Nat} {v:Value} (h:Aside w7 r7 W v) (hb:Below W.heap.size W W'):Aside w7 r7 W' v:=
 ⟨⟨hb.os.trans h.1.os,hb.tape.trans h.1.tape,hb.output.trans h.1.output,Nat.le_trans h.1.size hb.size,fun k hk hn=>(hb.block k (Nat.lt_of_lt_of_le hk h.1.size)).trans (h.1.block k hk hn)⟩,h.2⟩
def JZ (z:Av):List UInt8:=Cg [[32,32]++PO z]
structure vg (w:World) (hi:Nat) (w3:World) (r3:Option Nat) (g:Nat) (x:FL) (Ac:Option Addr) (cc:Nat):Prop where
 blk:AV w3 g 56 [.int .i64 x.t,.string x.loc,.slice Ac x.code.length cc]
 ne:r3≠some g
 rd:(I_.sl false).R w 0 hi [.slice Ac x.code.length cc] x.code
 ok: ∀y∈x.code,Aa y=0∧Rd.Ej y.a∧ ∀n∈y.l,Rd.Ej n
 few1:x.code.length≤2147483647
 few2: ∀y∈x.code,y.l.length≤2147483647
end Go.Proofs.YtebgikflpgcnlaaGreatDoor
