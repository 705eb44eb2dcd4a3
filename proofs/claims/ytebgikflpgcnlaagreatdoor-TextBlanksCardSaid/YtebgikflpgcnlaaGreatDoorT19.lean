/- Part 19 of the proof: ModK PrtB PrtE -/
import Derived.Lib.SlBytesConst
import Derived.Test.YtebgikflpgcnlaaGreatDoorT18
namespace Go.Proofs.YtebgikflpgcnlaaGreatDoor
set_option linter.unusedVariables false
set_option linter.unusedSimpArgs false
set_option maxRecDepth 100000
set_option maxHeartbeats 4000000
open Go.RowKit Tryz
theorem headE_in {m:ModV} (h:headE m=0):(∀t∈m.types,t.p.size≤8)∧0≤m.first∧m.first≤64:=by
 obtain⟨ht,hh⟩:=orE_zero h
 obtain⟨_,hh⟩:=orE_zero hh
 obtain⟨_,hp⟩:=orE_zero hh
 obtain⟨_,t2⟩:=orE_zero ht
 have hp:=of_decide_eq_true (askE_zero (by decide) hp)
 refine⟨fun t hm=> ?_,hp.1,by omega⟩
 obtain⟨k,hk⟩:=List.getElem?_of_mem hm
 have:=firstE_zero t2 k (List.getElem?_eq_some_iff.1 hk).1
 rw [tyE_at hk] at this
 have:=(letErr_zero (orE_zero this).1).1
 omega
def litC:Array Value:= #[.int .u8 70,.int .u8 76,.int .u8 71,.int .u8 78,.int .u8 1]
theorem litC_eq:litC=(magicB.map bv).toArray:=rfl
def KE (n:Nat) (k:Nat):Prop:=k<n+3∨k=n+5
theorem load_module {W:World} {g:Nat} {y0 y1 y2 y3 y4 y5 y6 y7:Value} (h:Blk W g 29 [y0,y1,y2,y3,y4,y5,y6,y7]):(loadVar 29 ⟨g,0,none⟩).run prog W= .ok (.agg #[y0,y1,y2,y3,y4,y5,y6,y7]) W:=
 run_loadVar_row W g 29 29 #[y0,y1,y2,y3,y4,y5,y6,y7] (0,0) _ h underlying29 rfl (by kernel_rfl)
theorem enc_init (w:World) (cs:Array Value) {W:World}
 (hW:((((((w.alloc (.cells cs 29)).alloc (.cells #[.slice none 0 0] 41)).alloc (.cells #[.int .i64 0] 33)).alloc (.cells litC 5 (5,6))).alloc (.cells #[.pointer none,.int .i64 0,.slice (some ⟨w.heap.size+1+1+1,0,none⟩) 5 5] 124)).alloc (.cells #[.int .i64 0] 3))=W):
 Below w.heap.size w W∧Blk W w.heap.size 29 cs.toList∧Blk W (w.heap.size+1) 41 [.slice none 0 0]∧Blk W (w.heap.size+1+1) 33 [.int .i64 0]∧Blk W (w.heap.size+1+1+1+1+1) 3 [.int .i64 0]∧
  Wr W w.heap.size (w.heap.size+1+1+1+1) (KE w.heap.size) (.pointer none) 0 magicB:=by
 have h0:=Blk.new w 29 cs.toList
 have h1:=Blk.new (w.alloc (.cells cs 29)) 41 [.slice none 0 0]
 have h2:=Blk.new ((w.alloc (.cells cs 29)).alloc (.cells #[.slice none 0 0] 41)) 33 [.int .i64 0]
 have h4:=Blk.new ((((w.alloc (.cells cs 29)).alloc (.cells #[.slice none 0 0] 41)).alloc (.cells #[.int .i64 0] 33)).alloc (.cells litC 5 (5,6))) 124 [.pointer none,.int .i64 0,.slice (some ⟨w.heap.size+1+1+1,0,none⟩) 5 5]
 have h5:=Blk.new (((((w.alloc (.cells cs 29)).alloc (.cells #[.slice none 0 0] 41)).alloc (.cells #[.int .i64 0] 33)).alloc (.cells litC 5 (5,6))).alloc (.cells #[.pointer none,.int .i64 0,.slice (some ⟨w.heap.size+1+1+1,0,none⟩) 5 5] 124)) 3 [.int .i64 0]
 have h3:=heap_alloc_new (((w.alloc (.cells cs 29)).alloc (.cells #[.slice none 0 0] 41)).alloc (.cells #[.int .i64 0] 33)) (.cells litC 5 (5,6))
 simp only [World.size_alloc] at h1 h2 h3 h4 h5
 have hs:W.heap.size=w.heap.size+6:=by rw [←hW];simp only [World.size_alloc]
 have h3':W.heap[w.heap.size+1+1+1]?=some (.cells litC 5 (5,6)):=by
  rw [←hW,heap_alloc_old _ _ (by simp only [World.size_alloc];omega),heap_alloc_old _ _ (by simp only [World.size_alloc];omega)]
  exact h3
 refine⟨?_,?_,?_,?_,?_,some ⟨w.heap.size+1+1+1,0,none⟩,5,?_,?_,by omega,?_,?_,?_⟩
 ·rw [←hW]
  exact(((((((Below.refl _ _).alloc (Nat.le_refl _) _).alloc (by simp only [World.size_alloc];omega) _).alloc (by simp only [World.size_alloc];omega) _).alloc (by simp only [World.size_alloc];omega) _).alloc (by simp only [World.size_alloc];omega) _).alloc (by simp only [World.size_alloc];omega) _)
 ·rw [←hW];exact((((h0.alloc _).alloc _).alloc _).alloc _).alloc _
 ·rw [←hW];exact(((h1.alloc _).alloc _).alloc _).alloc _
 ·rw [←hW];exact((h2.alloc _).alloc _).alloc _
 ·rw [←hW];exact h5
 ·rw [←hW];exact h4.alloc _
 ·exact .inr ⟨w.heap.size+1+1+1,(5,6),rfl,by omega,h3',rfl⟩
 ·unfold KE;omega
 ·intro k hk
  injection hk with hk
  have hk:w.heap.size+1+1+1=k:=hk
  unfold KE
  omega
 ·intro k hk
  unfold KE at hk
  omega
theorem mod_Encode (cs:List Value) (hi:Nat) (m:ModV) (w:World) (h:rMod.R w 0 hi cs m) (hhi:hi≤w.heap.size) (hle:szMod m≤2147483647) (hnum:ModNum m)
 (htab: ∀w',Below hi w w'→Lib.TabIs prog w' "strings.asciiSpace" .u8 Lib.asciiSpaceTab):
 Calls prog 18 #[.agg cs.toArray] w fun e w'=>Below w.heap.size w w'∧ ∃v,e= .returned (.tuple #[v,.int .i64 (modE m)]):=by
 have kc:=fun(v1 v2 v3 v4 v5 v6:Value)=>Lib.run_convert_bytes_const (P:=prog) (((w.alloc (.cells #[v1,v2,v3,.int .i64 m.first,.int .i64 m.most,v4,v5,v6] 29)).alloc (.cells #[.slice none 0 0] 41)).alloc (.cells #[.int .i64 0] 33)) 41 5 #[.int .u8 70,.int .u8 76,.int .u8 71,.int .u8 78,.int .u8 1] 5 5 underlying41 underlying5
 simp only [World.size_alloc] at kc
 have hmf: ∀(fn:Fn) (first cap:Array Value) (w:World),(Instr.makeFunc fn first cap).run prog w= .ok (.func fn first cap) w:=fun _ _ _ _=>rfl
 have H:=hideIt h;have HT:=hideIt htab;have HL:=hideIt hle;have HN:=hideIt hnum
 obtain⟨v1,v2,v3,v4,v5,v6,rfl,_⟩:=rMod_iff.1 h
 clear h htab hle hnum
 go_enter_defers func18,ntmps18
 go_upto_region 5 with fail
 generalize hw1:World.alloc _ _=w1
 obtain⟨i1,i2,i3,i4,i5,i6⟩:=enc_init w _ hw1
 have HB1:=hideIt i1;have HX1:=hideIt i2;have HGB:=hideIt i3;have HGE:=hideIt i4;have HGA:=hideIt i5;have HW1:=hideIt i6
 have hm0:=i2.q 0 rfl
 have hm1:=i2.q 1 rfl
 have hm2:=i2.q 2 rfl
 have hm3:=i2.q 3 rfl
 have hm4:=i2.q 4 rfl
 have hm5:=i2.q 5 rfl
 have hm6:=i2.q 6 rfl
 have hm7:=i2.q 7 rfl
 have hhead:=wr_head _ hi w.heap.size (w.heap.size+1+1+1+1) (KE w.heap.size) m magicB w1 (rMod.below H.out i1 hhi) (Nat.le_trans hhi i1.size) (fun k hk=> .inl (by omega)) i6 i1.size HL.out HN.out (by decide)
 clear hw1 kc i1 i2 i3 i4 i5 i6
 generalize hEE:headE m=EE at hhead
 have HE:=hideIt hEE
 clear hEE
 go_wp2_with fail
 refine hhead.mono ?_
 clear hhead
 rintro e w2 ⟨hk2,hcase⟩
 rcases hcase with⟨h0,rfl,gs,hd⟩ | ⟨h0,rfl⟩
 case inr=>
  have H0:=hideIt h0
  have hge:=HGE.out.keep hk2 (.inl (by omega))
  have hgb:=HGB.out.keep hk2 (.inl (by omega))
  have hga:=HGA.out.keep hk2 (.inr rfl)
  have HB:=hideIt (HB1.out.trans ((hk2).below HB1.out.size fun k hk=> .inl (by omega)))
  go_wp2_with fail
  refine leaves_cons (f:=62) (args:= #[.pointer (some ⟨w.heap.size+1+1,0,none⟩),.pointer (some ⟨w.heap.size+1+1+1+1+1,0,none⟩)]) (by simp) (by simp [go_sem]) ?_
  refine(caught_fault (EE) 0 _ _ 0 0 _ hge hga (by omega)).mono ?_
  rintro e u' wx ⟨rfl,rfl,hkx,hbe,hba⟩
  have hgbx:=hgb.keep hkx (by omega)
  refine leaves_cons (f:=65) (args:= #[.pointer (some ⟨w.heap.size+1+1,0,none⟩),.pointer (some ⟨w.heap.size+1,0,none⟩)]) (by simp [settle]) (by simp [go_sem]) ?_
  refine(enc_closure _ _ _ (EE) _ _ hbe hgbx).mono ?_
  rintro e u' wy ⟨rfl,rfl,hky,hby⟩
  have hc1:=hby.cell 0
  have hc2:=(hbe.keep hky (by omega)).cell 0
  have hM:modE m=EE:=by unfold modE partsE;rw [HE.out,orE_l (by rw [orE_l h0];exact h0),orE_l h0]
  have HBx:=(HB.out.trans ((hkx.below (B:=w.heap.size) HB.out.size fun k hk=>by omega).trans (hky.below (B:=w.heap.size) (Nat.le_trans HB.out.size hkx.size) fun k hk=>by omega)))
  simp [Leaves,settle,results,results18,go_sem,hc1,hc2]
  exact⟨HBx,hM.symm⟩
 have HE0:Hid (headE m=0):=hideIt (HE.out.trans h0)
 have hin:=headE_in HE0.out
 have HK2:=hideIt hk2
 have hx2:=HX1.out.keep hk2 (.inl (by omega))
 have hs1:=HB1.out.size
 have hlen:(magicB++headB m).length≤300000000000:=by
  have h1:=headB_len HN.out HL.out (fun j x hj hx=>(globE_fit (orE_zero (orE_zero (orE_zero (orE_zero HE0.out).2).2).1).2 j x hj hx).2)
  have h2:=HL.out
  rw [List.length_append]
  show 5+_≤_
  omega
 have hbody:=wr_body _ hi w.heap.size (w.heap.size+1+1+1+1) gs (KE w.heap.size) m (magicB++headB m) w2 (Rd.keepK (rMod.below H.out HB1.out hhi) hk2 (by omega) (fun j _ h=> .inl (by omega))) (by have:=hk2.size;omega) (fun k hk=> .inl (by omega)) hd (by have:=hk2.size;omega) ⟨HL.out,HN.out,hin.1,hin.2.1,hin.2.2⟩ hlen (fun w' hb=>HT.out w' ((HB1.out.mono hhi).trans ((hk2.below (B:=hi) (by omega) fun k hk=> .inl (by omega)).trans hb)))
 have hm0:=hx2.q 0 rfl
 have hm1:=hx2.q 1 rfl
 have hm2:=hx2.q 2 rfl
 have hm3:=hx2.q 3 rfl
 have hm4:=hx2.q 4 rfl
 have hm5:=hx2.q 5 rfl
 have hm6:=hx2.q 6 rfl
 have hm7:=hx2.q 7 rfl
 clear hd h0 hin hs1 hlen hk2 hx2
 generalize hE2:bodyE m=E2 at hbody
 have HE2:=hideIt hE2
 clear hE2
 go_wp2_with fail
 refine hbody.mono ?_
 clear hbody
 rintro e w3 ⟨hk3,hcase⟩
 have hk3:=HK2.out.trans hk3
 rcases hcase with⟨h0,rfl,all,hd⟩ | ⟨h0,rfl⟩
 case inr=>
  have H0:=hideIt h0
  have hge:=HGE.out.keep hk3 (.inl (by omega))
  have hgb:=HGB.out.keep hk3 (.inl (by omega))
  have hga:=HGA.out.keep hk3 (.inr rfl)
  have HB:=hideIt (HB1.out.trans ((hk3).below HB1.out.size fun k hk=> .inl (by omega)))
  go_wp2_with fail
  refine leaves_cons (f:=62) (args:= #[.pointer (some ⟨w.heap.size+1+1,0,none⟩),.pointer (some ⟨w.heap.size+1+1+1+1+1,0,none⟩)]) (by simp) (by simp [go_sem]) ?_
  refine(caught_fault (E2) 0 _ _ 0 0 _ hge hga (by omega)).mono ?_
  rintro e u' wx ⟨rfl,rfl,hkx,hbe,hba⟩
  have hgbx:=hgb.keep hkx (by omega)
  refine leaves_cons (f:=65) (args:= #[.pointer (some ⟨w.heap.size+1+1,0,none⟩),.pointer (some ⟨w.heap.size+1,0,none⟩)]) (by simp [settle]) (by simp [go_sem]) ?_
  refine(enc_closure _ _ _ (E2) _ _ hbe hgbx).mono ?_
  rintro e u' wy ⟨rfl,rfl,hky,hby⟩
  have hc1:=hby.cell 0
  have hc2:=(hbe.keep hky (by omega)).cell 0
  have hM:modE m=E2:=by unfold modE partsE;rw [HE0.out,orE_r rfl,HE2.out,orE_l h0]
  have HBx:=(HB.out.trans ((hkx.below (B:=w.heap.size) HB.out.size fun k hk=>by omega).trans (hky.below (B:=w.heap.size) (Nat.le_trans HB.out.size hkx.size) fun k hk=>by omega)))
  simp [Leaves,settle,results,results18,go_sem,hc1,hc2]
  exact⟨HBx,hM.symm⟩
 have HP:Hid (partsE m=0):=hideIt (by unfold partsE;rw [HE0.out,orE_r rfl,HE2.out,h0])
 obtain⟨T,d,s1,⟨A,c,s2⟩,s3,s4,s5⟩:=hd
 have hmod:magicB++headB m++bodyB m=modB m:=by unfold modB;rw [List.append_assoc]
 rw [hmod] at s2
 have hg2:=s2.blk.q 2 rfl
 have HK3:=hideIt hk3
 clear s1 s2 s3 s4 s5 h0 hk3 hm0 hm1 hm2 hm3 hm4 hm5 hm6 hm7
 have hdd:decide (((modB m).length:Int)≤65536)=decide ((modB m).length≤65536):=decide_eq_decide.2 (by omega)
 have HDD:=hideIt hdd
 clear hdd
 go_wp2_with fail
 refine(mod_ask _ 13 0 (by decide) _).mono ?_
 rintro e w4 ⟨rfl,hcase⟩
 rw [HDD.out] at hcase
 rcases hcase with⟨h0,rfl⟩ | ⟨h0,rfl⟩
 case inr=>
  have hge:=HGE.out.keep HK3.out (.inl (by omega))
  have hgb:=HGB.out.keep HK3.out (.inl (by omega))
  have hga:=HGA.out.keep HK3.out (.inr rfl)
  have HB:=hideIt (HB1.out.trans ((HK3.out).below HB1.out.size fun k hk=> .inl (by omega)))
  go_wp2_with fail
  refine leaves_cons (f:=62) (args:= #[.pointer (some ⟨w.heap.size+1+1,0,none⟩),.pointer (some ⟨w.heap.size+1+1+1+1+1,0,none⟩)]) (by simp) (by simp [go_sem]) ?_
  refine(caught_fault (askE (decide ((modB m).length≤65536)) 13) 0 _ _ 0 0 _ hge hga (by omega)).mono ?_
  rintro e u' wx ⟨rfl,rfl,hkx,hbe,hba⟩
  have hgbx:=hgb.keep hkx (by omega)
  refine leaves_cons (f:=65) (args:= #[.pointer (some ⟨w.heap.size+1+1,0,none⟩),.pointer (some ⟨w.heap.size+1,0,none⟩)]) (by simp [settle]) (by simp [go_sem]) ?_
  refine(enc_closure _ _ _ (askE (decide ((modB m).length≤65536)) 13) _ _ hbe hgbx).mono ?_
  rintro e u' wy ⟨rfl,rfl,hky,hby⟩
  have hc1:=hby.cell 0
  have hc2:=(hbe.keep hky (by omega)).cell 0
  have hM:modE m=askE (decide ((modB m).length≤65536)) 13:=by unfold modE;rw [HP.out,orE_r rfl]
  have HBx:=(HB.out.trans ((hkx.below (B:=w.heap.size) HB.out.size fun k hk=>by omega).trans (hky.below (B:=w.heap.size) (Nat.le_trans HB.out.size hkx.size) fun k hk=>by omega)))
  simp [Leaves,settle,results,results18,go_sem,hc1,hc2]
  exact⟨HBx,hM.symm⟩
 have HM:Hid (modE m=0):=hideIt (by unfold modE;rw [HP.out,orE_r rfl,h0])
 have hge:=HGE.out.keep HK3.out (.inl (by omega))
 have hgb:=HGB.out.keep HK3.out (.inl (by omega))
 have hcb:=hgb.cell 0
 have hce:=hge.cell 0
 have hfb:=hgb.frozen 0
 have hfe:=hge.frozen 0
 have hlb:=hgb.lt
 have hle:=hge.lt
 have HB:=hideIt (HB1.out.trans (HK3.out.below HB1.out.size fun k hk=> .inl (by omega)))
 have Hge:=hideIt hge;have Hgb:=hideIt hgb
 clear hge hgb h0
 go_wp2_with fail
 generalize hw5:World.setCell _ _ _=w5
 have hbe:Blk w5 (w.heap.size+1+1) 33 [.int .i64 0]:=by
  rw [←hw5];exact(Hge.out.far (p:=⟨w.heap.size+1,0,none⟩) (by show w.heap.size+1+1≠w.heap.size+1;omega) _).set 0 _
 have hbb:Blk w5 (w.heap.size+1) 41 [.slice A (modB m).length c]:=by
  rw [←hw5];exact(Hgb.out.set 0 _).far (p:=⟨w.heap.size+1+1,0,none⟩) (by show w.heap.size+1≠w.heap.size+1+1;omega) _
 have hb5:Below w.heap.size w w5:=by rw [←hw5];exact(HB.out.setCell (by show w.heap.size≤w.heap.size+1;omega) _).setCell (by show w.heap.size≤w.heap.size+1+1;omega) _
 refine leaves_cons (f:=62) (args:= #[.pointer (some ⟨w.heap.size+1+1,0,none⟩),.pointer (some ⟨w.heap.size+1+1+1+1+1,0,none⟩)]) (by simp) (by simp [go_sem]) ?_
 refine(caught_idle _ _ _).mono ?_
 rintro e u' wx ⟨rfl,rfl,rfl⟩
 refine leaves_cons (f:=65) (args:= #[.pointer (some ⟨w.heap.size+1+1,0,none⟩),.pointer (some ⟨w.heap.size+1,0,none⟩)]) (by simp [settle]) (by simp [go_sem]) ?_
 refine(enc_closure _ _ _ 0 _ _ hbe hbb).mono ?_
 rintro e u' wy ⟨rfl,rfl,hky,hby⟩
 have hc1:=hby.cell 0
 have hc2:=(hbe.keep hky (by omega)).cell 0
 have hM:=HM.out
 have HBx:=hb5.trans (hky.below (B:=w.heap.size) hb5.size fun k hk=>by omega)
 simp [Leaves,settle,results,results18,go_sem,hc1,hc2]
 exact⟨HBx,hM.symm⟩
theorem mod_Check (cs:List Value) (hi:Nat) (m:ModV) (w:World) (h:rMod.R w 0 hi cs m) (hhi:hi≤w.heap.size) (hle:szMod m≤2147483647) (hnum:ModNum m)
 (htab: ∀w',Below hi w w'→Lib.TabIs prog w' "strings.asciiSpace" .u8 Lib.asciiSpaceTab):
 Calls prog 27 #[.agg cs.toArray] w fun e w'=>Below w.heap.size w w'∧e= .returned (.int .i64 (modE m)):=by
 have hb1:Below w.heap.size w (w.alloc (.cells cs.toArray 29)):=(Below.refl _ _).alloc (Nat.le_refl _) _
 have hen:=mod_Encode cs hi m (w.alloc (.cells cs.toArray 29)) (rMod.below h hb1 hhi) (by simp only [World.size_alloc];omega) hle hnum (fun w' hb=>htab w' ((hb1.mono hhi).trans hb))
 obtain⟨v1,v2,v3,v4,v5,v6,rfl,_⟩:=rMod_iff.1 h
 have hm0:=(Blk.new w 29 [v1,v2,v3,.int .i64 m.first,.int .i64 m.most,v4,v5,v6]).q 0 rfl
 have hm1:=(Blk.new w 29 [v1,v2,v3,.int .i64 m.first,.int .i64 m.most,v4,v5,v6]).q 1 rfl
 have hm2:=(Blk.new w 29 [v1,v2,v3,.int .i64 m.first,.int .i64 m.most,v4,v5,v6]).q 2 rfl
 have hm3:=(Blk.new w 29 [v1,v2,v3,.int .i64 m.first,.int .i64 m.most,v4,v5,v6]).q 3 rfl
 have hm4:=(Blk.new w 29 [v1,v2,v3,.int .i64 m.first,.int .i64 m.most,v4,v5,v6]).q 4 rfl
 have hm5:=(Blk.new w 29 [v1,v2,v3,.int .i64 m.first,.int .i64 m.most,v4,v5,v6]).q 5 rfl
 have hm6:=(Blk.new w 29 [v1,v2,v3,.int .i64 m.first,.int .i64 m.most,v4,v5,v6]).q 6 rfl
 have hm7:=(Blk.new w 29 [v1,v2,v3,.int .i64 m.first,.int .i64 m.most,v4,v5,v6]).q 7 rfl
 have HB1:=hideIt hb1
 clear h hb1
 go_enter func27,ntmps27
 go_wp2_with fail
 refine hen.mono ?_
 clear hen
 rintro e w2 ⟨hb2,v,rfl⟩
 go_wp2_with fail
 go_ret
 exact⟨HB1.out.trans (hb2.mono (by simp only [World.size_alloc];omega)),rfl⟩
theorem prt_row {B b:Nat} {l:List UInt8} (ws:List ByteArray) (ps:List (List UInt8)) (hps:ws.map (·.data.toList)=ps) (n:Nat) (hn:ws.length=n) (g:Nat) (w:World) (hg:w.heap.size=g) (h:BldAt B b w l) (hB:B≤w.heap.size) (hlen:(l++lineT ps).length≤1048576) (hw:n≤1000):
 Calls prog 28 #[.slice (some ⟨g,0,none⟩) n n,.pointer (some ⟨b,0,none⟩)] (w.alloc (.cells (ws.map Value.string).toArray 9)) fun e w'=>e= .returned (.tuple #[])∧BldAt B b w' (l++lineT ps)∧Below B w w'∧KeptU b w w':=by
 subst hps
 subst hg
 have hb:=(Below.refl w.heap.size w).alloc (Nat.le_refl _) (.cells (ws.map Value.string).toArray 9)
 have hrow:=Blk.new w 9 (ws.map Value.string)
 rw [List.length_append] at hlen
 refine(prt_line B b l ws n w.heap.size 0 n _ hn (h.below hb) (Nat.le_trans hB hb.size) (fun j x hx=> ?_) hrow.lt (Nat.le_refl _) (by omega) (by omega)).mono ?_
 ·have:=hrow.cell j
  rw [List.getElem?_map,hx] at this
  rw [Nat.zero_add]
  exact this
 ·rintro e w' ⟨h1,h2,h3,h4⟩
  exact⟨h1,h2,(hb.mono hB).trans h3,h4.below hb⟩
theorem flat_take_le {α:Type} (f:α→List UInt8) (l:List α) (k:Nat):((l.take k).flatMap f).length≤(l.flatMap f).length:=by
 have h:=List.take_append_drop k l
 conv=>rhs;rw [←h,List.flatMap_append,List.length_append]
 omega
def pv0 (m:ModV):List UInt8:=lineT [flagonT]
def typF (x:SigV):List UInt8:=lineT [typeT,sigT x]
def hostF (t:Int):List UInt8:=lineT [externT,Lib.itoa t]
def pv1 (m:ModV):List UInt8:=pv0 m++m.types.flatMap typF
def pv2 (m:ModV):List UInt8:=pv1 m++m.hosts.flatMap hostF
def pv3 (m:ModV):List UInt8:=pv2 m++m.globs.flatMap globT
def pv4 (m:ModV):List UInt8:=pv3 m++lineT [memoryT,Lib.itoa m.first,Lib.itoa m.most]
def pv5 (m:ModV):List UInt8:=pv4 m++m.fns.flatMap fnT
def pv6 (m:ModV):List UInt8:=pv5 m++m.dat.flatMap datT
def pv7 (m:ModV):List UInt8:=pv6 m++m.exps.flatMap expT
theorem pv_all (m:ModV):pv7 m=printT m:=by
 unfold pv7 pv6 pv5 pv4 pv3 pv2 pv1 pv0 printT headT bodyT
 show _=(lineT [flagonT]++(m.types.flatMap typF++(m.hosts.flatMap hostF++(m.globs.flatMap globT++lineT [memoryT,Lib.itoa m.first,Lib.itoa m.most]))))++(m.fns.flatMap fnT++(m.dat.flatMap datT++m.exps.flatMap expT))
 simp only [List.append_assoc]
theorem pv_le (m:ModV) (h:(printT m).length≤1048576):(pv0 m).length≤1048576∧(pv1 m).length≤1048576∧(pv2 m).length≤1048576∧(pv3 m).length≤1048576∧(pv4 m).length≤1048576∧(pv5 m).length≤1048576∧(pv6 m).length≤1048576∧(pv7 m).length≤1048576:=by
 rw [←pv_all] at h
 have l1:(pv1 m).length=(pv0 m).length+(m.types.flatMap typF).length:=List.length_append
 have l2:(pv2 m).length=(pv1 m).length+(m.hosts.flatMap hostF).length:=List.length_append
 have l3:(pv3 m).length=(pv2 m).length+(m.globs.flatMap globT).length:=List.length_append
 have l4:(pv4 m).length=(pv3 m).length+(lineT [memoryT,Lib.itoa m.first,Lib.itoa m.most]).length:=List.length_append
 have l5:(pv5 m).length=(pv4 m).length+(m.fns.flatMap fnT).length:=List.length_append
 have l6:(pv6 m).length=(pv5 m).length+(m.dat.flatMap datT).length:=List.length_append
 have l7:(pv7 m).length=(pv6 m).length+(m.exps.flatMap expT).length:=List.length_append
 omega
theorem flat_step {α:Type} (pre:List UInt8) (f:α→List UInt8) {l:List α} {k:Nat} {x:α} (h:l[k]?=some x):pre++(l.take k).flatMap f++f x=pre++(l.take (k+1)).flatMap f:=by
 rw [flat_next h,List.append_assoc]
theorem flat_step_le {α:Type} (pre:List UInt8) (f:α→List UInt8) {l:List α} {k:Nat} {x:α} (h:l[k]?=some x):(pre++(l.take k).flatMap f++f x).length≤(pre++l.flatMap f).length:=by
 rw [flat_step pre f h,List.length_append,List.length_append]
 have:=flat_take_le f l (k+1)
 omega
theorem side_bOf (s:ByteArray):sideS s=bOf (sideT s):=by
 unfold sideS sideT
 by_cases hz:s=none_
 ·rw [if_pos hz,if_pos (by rw [hz];rfl)];rfl
 ·rw [if_neg hz,if_neg (fun e=>hz (by
   cases s with
   | mk d=>
    have:d.size=0:=e
    rw [show d= #[] from Array.eq_empty_of_size_eq_zero this];rfl)),bOf_of]
theorem sum_mem_le {α:Type} (f:α→Nat): ∀ {l:List α} {x:α},x∈l→f x≤sumBy f l
 | y::l,x,h=>by
  have e:sumBy f (y::l)=f y+sumBy f l:=by simp [sumBy]
  rcases List.mem_cons.1 h with rfl | h
  ·omega
  ·have:=sum_mem_le f h;omega
theorem fn_few {m:ModV} {f:FnV} (hf:f∈m.fns) (h:szMod m≤2147483647):f.code.length≤2147483647∧ ∀y∈f.code,y.l.length≤2147483647:=by
 have h1:=sum_mem_le szFn hf
 have h2:sumBy szFn m.fns≤szMod m:=by unfold szMod;omega
 have h3:szFn f=f.loc.size+(f.code.length+sumBy (fun i=>i.l.length) f.code):=rfl
 refine⟨by omega,fun y hy=> ?_⟩
 have h4:=sum_mem_le (fun i:InsV=>i.l.length) hy
 have h5:y.l.length≤sumBy (fun i:InsV=>i.l.length) f.code:=h4
 omega
theorem dat_few {m:ModV} {d:DatV} (hd:d∈m.dat) (h:szMod m≤2147483647):d.b.length≤2147483647:=by
 have h1:=sum_mem_le (fun d:DatV=>d.b.length) hd
 have h2:sumBy (fun d:DatV=>d.b.length) m.dat≤szMod m:=by unfold szMod;omega
 have h3:d.b.length≤sumBy (fun d:DatV=>d.b.length) m.dat:=h1
 omega
theorem word_sig {x:SigV} (h:sgB x.p x.r=true):(wordS x.p x.r).1=bOf (sigT x):=by
 have hs: ∀s:ByteArray,sideS s=bOf (sideT s):=fun s=>by
  unfold sideS sideT
  by_cases hz:s=none_
  ·rw [if_pos hz,if_pos (by rw [hz];rfl)];rfl
  ·rw [if_neg hz,if_neg (fun e=>hz (by
    cases s with
    | mk d=>
     have:d.size=0:=e
     rw [show d= #[] from Array.eq_empty_of_size_eq_zero this];rfl)),bOf_of]
 unfold wordS sigT
 rw [if_pos h]
 show sideS x.p++arrow++sideS x.r=_
 rw [hs,hs,←bOf_app,←bOf_app,ByteArray.append_assoc]
 rfl
structure PR (w0 wr:World) (l:List UInt8):Prop where
 bel:Below w0.heap.size w0 wr
 bld:BldAt w0.heap.size w0.heap.size wr l
structure PCtx (w w2:World) (hi hj:Nat) (m:ModV) (A1:Option Addr) (c1:Nat) (A2:Option Addr) (c2:Nat) (A3:Option Addr) (c3:Nat) (A6:Option Addr) (c6:Nat) (A7:Option Addr) (c7:Nat) (A8:Option Addr) (c8:Nat):Prop where
 hhi:hi≤w.heap.size
 hhj:hj≤w.heap.size
 bel:Below w.heap.size w w2
 lt:w.heap.size<w2.heap.size
 env:EnvAt hj w
 fine:Fine m
 le:(printT m).length≤1048576
 few:szMod m≤2147483647
 blk:Blk w2 w.heap.size 29 [.slice A1 m.types.length c1,.slice A2 m.hosts.length c2,.slice A3 m.globs.length c3,.int .i64 m.first,.int .i64 m.most,.slice A6 m.fns.length c6,.slice A7 m.dat.length c7,.slice A8 m.exps.length c8]
 h1:(rSig.sl false).R w 0 hi [.slice A1 m.types.length c1] m.types
 h2:(Rd.i64.sl false).R w 0 hi [.slice A2 m.hosts.length c2] m.hosts
 h3:(rGlob.sl false).R w 0 hi [.slice A3 m.globs.length c3] m.globs
 h6:(rFn.sl false).R w 0 hi [.slice A6 m.fns.length c6] m.fns
 h7:(rDat.sl false).R w 0 hi [.slice A7 m.dat.length c7] m.dat
 h8:(rExp.sl false).R w 0 hi [.slice A8 m.exps.length c8] m.exps
def loopsOf:Code→List Code
 | .loop c=> [c]
 | .seq a b=>loopsOf a++loopsOf b
 | .block _ c=>loopsOf c
 | .scope c=>loopsOf c
 | .cond _ a b=>loopsOf a++loopsOf b
 | _=> []
noncomputable def prtLoop (n:Nat):Code:=((((f10.body.map loopsOf).getD [])[n]?).getD .skip)
noncomputable def prtLoop2 (n:Nat):Code:=(((loopsOf (prtLoop n))[0]?).getD .skip)
set_option maxRecDepth 1000000 in
theorem prt_globs_round {w w2:World} {hi hj:Nat} {m:ModV} {A1 A2 A3 A6 A7 A8:Option Addr} {c1 c2 c3 c6 c7 c8:Nat} (C:Hid (PCtx w w2 hi hj m A1 c1 A2 c2 A3 c3 A6 c6 A7 c7 A8 c8)) {k:Nat} {wr:World} (hk:k≤m.globs.length) (HP:Hid (PR w2 wr (pv2 m++(m.globs.take k).flatMap globT)))
 (s0 s2 s3 s4 s7 s8 s9 s10 s11 s12 s13 s16 s17 s18 s19 s20 s21 s22 s23 s24 s25 s26 s27 s28 s29 s30 s31 s32 s33 s34 s35 s36 s37 s38 s39 s40 s41 s42 s43 s44 s45 s46 s47 s48 s49 s50 s51 s52 s53 s54 s55 s56 s57 s58 s59 s60 s61 s62 s63 s64 s65 s66 s87 s88 s89 s90 s91 s92 s93 s94 s95 s96 s97 s98 s99 s100 s101 s102 s103 s104 s105 s106 s107 s108 s109 s110 s111 s112 s113 s114 s115 s116 s117 s118 s119 s120 s121 s122 s123 s124 s125 s126 s127 s128 s129 s130 s131 s132 s133 s134 s135 s136 s137 s138 s139 s140 s141 s142 s143 s144 s145 s146 s147 s148 s149 s150 s151 s152 s153 s154 s155 s156 s157 s158 s159 s160 s161 s162 s163 s164 s165 s166 s167 s168 s169 s170 s171 s172 s173 s174 s175 u14 u15 u70 u71 u72 u73 u74 u75 u76 u77 u78 u79 u80 u81 u82 u83 u84 u85 u86:Value) (K:Act→World→Prop) (Q:Exit→Act→World→Prop) (HK:Hid (∀(u14 u15 u70 u71 u72 u73 u74 u75 u76 u77 u78 u79 u80 u81 u82 u83 u84 u85 u86:Value) (wx:World),k<m.globs.length→PR w2 wx (pv2 m++(m.globs.take (k+1)).flatMap globT)→K ⟨(List.toArray (s0::(.pointer (some ⟨w.heap.size,0,none⟩))::s2::s3::s4::(.pointer (some ⟨w2.heap.size,0,none⟩))::(.func (.func 28) #[] #[.pointer (some ⟨w2.heap.size,0,none⟩)])::s7::s8::s9::s10::s11::s12::s13::u14::u15::s16::s17::s18::s19::s20::s21::s22::s23::s24::s25::s26::s27::s28::s29::s30::s31::s32::s33::s34::s35::s36::s37::s38::s39::s40::s41::s42::s43::s44::s45::s46::s47::s48::s49::s50::s51::s52::s53::s54::s55::s56::s57::s58::s59::s60::s61::s62::s63::s64::s65::s66::(.slice A3 m.globs.length c3)::(.int .i64 m.globs.length)::(.int .i64 ((k:Int)+1))::u70::u71::u72::u73::u74::u75::u76::u77::u78::u79::u80::u81::u82::u83::u84::u85::u86::s87::s88::s89::s90::s91::s92::s93::s94::s95::s96::s97::s98::s99::s100::s101::s102::s103::s104::s105::s106::s107::s108::s109::s110::s111::s112::s113::s114::s115::s116::s117::s118::s119::s120::s121::s122::s123::s124::s125::s126::s127::s128::s129::s130::s131::s132::s133::s134::s135::s136::s137::s138::s139::s140::s141::s142::s143::s144::s145::s146::s147::s148::s149::s150::s151::s152::s153::s154::s155::s156::s157::s158::s159::s160::s161::s162::s163::s164::s165::s166::s167::s168::s169::s170::s171::s172::s173::s174::s175:: [])),[]⟩ wx)) (HX:Hid (∀(u14 u15 u70 u71 u72 u73 u74 u75 u76 u77 u78 u79 u80 u81 u82 u83 u84 u85 u86:Value) (wx:World),PR w2 wx (pv3 m)→Q (.exit 4) ⟨(List.toArray (s0::(.pointer (some ⟨w.heap.size,0,none⟩))::s2::s3::s4::(.pointer (some ⟨w2.heap.size,0,none⟩))::(.func (.func 28) #[] #[.pointer (some ⟨w2.heap.size,0,none⟩)])::s7::s8::s9::s10::s11::s12::s13::u14::u15::s16::s17::s18::s19::s20::s21::s22::s23::s24::s25::s26::s27::s28::s29::s30::s31::s32::s33::s34::s35::s36::s37::s38::s39::s40::s41::s42::s43::s44::s45::s46::s47::s48::s49::s50::s51::s52::s53::s54::s55::s56::s57::s58::s59::s60::s61::s62::s63::s64::s65::s66::(.slice A3 m.globs.length c3)::(.int .i64 m.globs.length)::(.int .i64 m.globs.length)::u70::u71::u72::u73::u74::u75::u76::u77::u78::u79::u80::u81::u82::u83::u84::u85::u86::s87::s88::s89::s90::s91::s92::s93::s94::s95::s96::s97::s98::s99::s100::s101::s102::s103::s104::s105::s106::s107::s108::s109::s110::s111::s112::s113::s114::s115::s116::s117::s118::s119::s120::s121::s122::s123::s124::s125::s126::s127::s128::s129::s130::s131::s132::s133::s134::s135::s136::s137::s138::s139::s140::s141::s142::s143::s144::s145::s146::s147::s148::s149::s150::s151::s152::s153::s154::s155::s156::s157::s158::s159::s160::s161::s162::s163::s164::s165::s166::s167::s168::s169::s170::s171::s172::s173::s174::s175:: [])),[]⟩ wx)):
 Code.wp prog (prtLoop 2) (Exit.then K Q) ⟨(List.toArray (s0::(.pointer (some ⟨w.heap.size,0,none⟩))::s2::s3::s4::(.pointer (some ⟨w2.heap.size,0,none⟩))::(.func (.func 28) #[] #[.pointer (some ⟨w2.heap.size,0,none⟩)])::s7::s8::s9::s10::s11::s12::s13::u14::u15::s16::s17::s18::s19::s20::s21::s22::s23::s24::s25::s26::s27::s28::s29::s30::s31::s32::s33::s34::s35::s36::s37::s38::s39::s40::s41::s42::s43::s44::s45::s46::s47::s48::s49::s50::s51::s52::s53::s54::s55::s56::s57::s58::s59::s60::s61::s62::s63::s64::s65::s66::(.slice A3 m.globs.length c3)::(.int .i64 m.globs.length)::(.int .i64 k)::u70::u71::u72::u73::u74::u75::u76::u77::u78::u79::u80::u81::u82::u83::u84::u85::u86::s87::s88::s89::s90::s91::s92::s93::s94::s95::s96::s97::s98::s99::s100::s101::s102::s103::s104::s105::s106::s107::s108::s109::s110::s111::s112::s113::s114::s115::s116::s117::s118::s119::s120::s121::s122::s123::s124::s125::s126::s127::s128::s129::s130::s131::s132::s133::s134::s135::s136::s137::s138::s139::s140::s141::s142::s143::s144::s145::s146::s147::s148::s149::s150::s151::s152::s153::s154::s155::s156::s157::s158::s159::s160::s161::s162::s163::s164::s165::s166::s167::s168::s169::s170::s171::s172::s173::s174::s175:: [])),[]⟩ wr:=by
 conv=>arg 2;whnf
 have HBW:=hideIt (C.out.bel.trans (HP.out.bel.mono C.out.bel.size))
 have hsz:w2.heap.size≤wr.heap.size:=HP.out.bel.size
 have hsw:w.heap.size<w2.heap.size:=C.out.lt
 have hszb:w2.heap.size<wr.heap.size:=by obtain⟨_,_,hb⟩:=HP.out.bld;exact hb.blk.lt
 have hhi:=C.out.hhi
 have hhj:=C.out.hhj
 have hk0:(0:Int)≤k:=by omega
 by_cases hlt:k<m.globs.length
 ·obtain⟨x,hx⟩: ∃x,m.globs[k]?=some x:=⟨_,List.getElem?_eq_getElem hlt⟩
  have hlti:decide ((k:Int)<m.globs.length)=true:=decide_eq_true (by omega)
  have hfew:m.globs.length≤2147483647:=by have:=C.out.few;unfold szMod at this;omega
  obtain⟨bk,ok,rfl,_,hbh,hc0,hc1,hc2,hb64⟩:=rGlob_at (Rd.below C.out.h3 HBW.out hhi) hx
  have HN1:=hideIt (flat_step (pv2 m) globT hx)
  have HL1:=hideIt (flat_step_le (pv2 m) globT hx)
  have HLEX:(pv2 m++m.globs.flatMap globT).length≤1048576:=by have:=pv_le m C.out.le;first | exact this.2.1 | exact this.2.2.1 | exact this.2.2.2.1 | exact this.2.2.2.2.1 | exact this.2.2.2.2.2.1 | exact this.2.2.2.2.2.2.1 | exact this.2.2.2.2.2.2.2
  have HMX:=hideIt (List.mem_of_getElem? hx)
  clear hx
  clear HX
  obtain⟨hn,hft,hvv⟩:=C.out.fine.globs x HMX.out
  have hff:x.l.toNat=119→x.v<4294967296:=fun h=>by unfold fitN at hft;rw [h] at hft;simpa using hft
  have HSB:Hid (Rd.B63 (signB x)):=hideIt (signB_lt hvv hft)
  have HSG:=hideIt (fun W=>txt_signed x W hvv hff)
  have hll:x.l=119∨x.l=108:=by
   unfold isN at hn
   rw [Bool.or_eq_true,beq_iff_eq,beq_iff_eq] at hn
   rcases hn with h | h
   ·exact .inl (UInt8.toNat_inj.1 h)
   ·exact .inr (UInt8.toNat_inj.1 h)
  clear hn hft hff hvv
  rcases hll with hll | hll<;>cases hmu:x.m
  ·have hG:globT x=lineT [globalT,[119],constT,Lib.itoa (signB x)]:=by unfold globT;rw [hll,hmu];rfl
   have HN1:=HN1.out
   have HL1:=HL1.out
   rw [hG] at HN1 HL1
   have HN1:=hideIt HN1
   have HL1:=hideIt HL1
   have HS:Hid (∀W,Calls prog 34 #[.agg #[.int .u8 119,.bool false,.int .u64 (x.v:Int)]] W fun e w'=>Below W.heap.size W w'∧e= .returned (.int .i64 (signB x))):=hideIt (fun W=>by have:=HSG.out W;rw [hll,hmu] at this;exact this)
   have h0:wr.cell? ⟨bk,ok+k*3,none⟩=some (.int .u8 119):=by rw [hc0,hll];rfl
   have h1:wr.cell? ⟨bk,ok+k*3+1,none⟩=some (.bool false):=by rw [hc1,hmu]
   clear hG hc0 hc1 HSG hll hmu
   go_upto_region 24 with fail
   generalize hw3:World.alloc _ _=w3
   have hb3:Below wr.heap.size wr w3:=by rw [←hw3];exact(Below.refl _ _).alloc (Nat.le_refl _) _
   have hm3:Blk w3 wr.heap.size 82 [.int .u8 119,.bool false,.int .u64 (x.v:Int)]:=by rw [←hw3];exact Blk.new wr _ _
   have hs3:wr.heap.size<w3.heap.size:=hm3.lt
   have a0:=hm3.q 0 rfl;have a1:=hm3.q 1 rfl;have a2:=hm3.q 2 rfl
   have b0:=hm3.q 0 rfl;have b1:=hm3.q 1 rfl;have b2:=hm3.q 2 rfl
   have HM3:=hideIt hm3;have HB3:=hideIt hb3
   have HEV:Hid (∀W,Below wr.heap.size wr W→EnvAt hj W):=hideIt (fun W hW=>C.out.env.to ((HBW.out.trans (hW.mono (Nat.le_of_lt (Nat.lt_of_lt_of_le hsw hsz)))).mono hhj))
   clear hw3 h0 h1 hc2 hb3 hm3
   go_region_held3 (fun w'=>w'.cell? ⟨wr.heap.size,0,none⟩=some (.int .u8 119)∧w'.cell? ⟨wr.heap.size,1,none⟩=some (.bool false)∧w'.cell? ⟨wr.heap.size,2,none⟩=some (.int .u64 (x.v:Int)))
    (first | exact⟨a0,a1,a2⟩ | exact⟨b0,b1,b2⟩ | exact⟨d0,d1,d2⟩ | exact⟨e0,e1,e2⟩ | exact⟨e0a _,e1a _,e2a _⟩ | exact⟨f0,f1,f2⟩)
    (first
     | (go_at_call 34;refine(HS.out _).mono ?_;rintro e wa ⟨hba,rfl⟩;have hSa:=below_of_drew hba;have hSza:w3.heap.size≤wa.heap.size:=hSa.size;have hma:=HM3.out.below hSa hs3;have d0:=hma.q 0 rfl;have d1:=hma.q 1 rfl;have d2:=hma.q 2 rfl;have HBa:=hideIt (HB3.out.trans (hSa.mono (Nat.le_of_lt hs3)));have HMa:=hideIt hma;clear hba hSa hma)
     | (go_at_call 33;refine(txt_num64 (signB x) HSB.out wa (HEV.out _ HBa.out) (by omega)).mono ?_;rintro e wb ⟨hbb,rfl⟩;have hSzb:wa.heap.size≤wb.heap.size:=hbb.size;have hmb:=HMa.out.below hbb (by omega);have e0:=hmb.q 0 rfl;have e1:=hmb.q 1 rfl;have e2:=hmb.q 2 rfl;have e0a: ∀o,(wb.alloc o).cell? ⟨wr.heap.size,0,none⟩=some (.int .u8 119):=fun o=>(hmb.alloc o).cell 0;have e1a: ∀o,(wb.alloc o).cell? ⟨wr.heap.size,1,none⟩=some (.bool false):=fun o=>(hmb.alloc o).cell 1;have e2a: ∀o,(wb.alloc o).cell? ⟨wr.heap.size,2,none⟩=some (.int .u64 (x.v:Int)):=fun o=>(hmb.alloc o).cell 2;have HBb:=hideIt (HBa.out.trans (hbb.mono (by omega)));have HMb:=hideIt hmb;clear hbb hmb)
     | (go_at_call 28;refine(prt_row [globalW,⟨#[119]⟩,constW,bOf (Lib.itoa (signB x))] [globalT,[119],constT,Lib.itoa (signB x)] (by rw [List.map_cons,List.map_cons,List.map_cons,List.map_cons,List.map_nil];simp [bOf];exact⟨rfl,rfl⟩) 4 rfl _ wb (by simp) (HP.out.bld.below HBb.out) (by omega) (Nat.le_trans HL1.out HLEX) (by decide)).mono ?_;rintro e w6 ⟨rfl,hA,hB,hK⟩;have HP6:=hideIt (PR.mk (HP.out.bel.trans ((HBb.out.mono hsz).trans hB)) (HN1.out▸hA));have hm6:=hK.blk HMb.out (by omega) (by decide);have f0:=hm6.q 0 rfl;have f1:=hm6.q 1 rfl;have f2:=hm6.q 2 rfl;clear hA hB hK hm6))
   go_wp2_with fail
   apply HK.out
   ·exact hlt
   ·exact HP6.out
  ·have hG:globT x=lineT [globalT,[119],varT,Lib.itoa (signB x)]:=by unfold globT;rw [hll,hmu];rfl
   have HN1:=HN1.out
   have HL1:=HL1.out
   rw [hG] at HN1 HL1
   have HN1:=hideIt HN1
   have HL1:=hideIt HL1
   have HS:Hid (∀W,Calls prog 34 #[.agg #[.int .u8 119,.bool true,.int .u64 (x.v:Int)]] W fun e w'=>Below W.heap.size W w'∧e= .returned (.int .i64 (signB x))):=hideIt (fun W=>by have:=HSG.out W;rw [hll,hmu] at this;exact this)
   have h0:wr.cell? ⟨bk,ok+k*3,none⟩=some (.int .u8 119):=by rw [hc0,hll];rfl
   have h1:wr.cell? ⟨bk,ok+k*3+1,none⟩=some (.bool true):=by rw [hc1,hmu]
   clear hG hc0 hc1 HSG hll hmu
   go_upto_region 24 with fail
   generalize hw3:World.alloc _ _=w3
   have hb3:Below wr.heap.size wr w3:=by rw [←hw3];exact(Below.refl _ _).alloc (Nat.le_refl _) _
   have hm3:Blk w3 wr.heap.size 82 [.int .u8 119,.bool true,.int .u64 (x.v:Int)]:=by rw [←hw3];exact Blk.new wr _ _
   have hs3:wr.heap.size<w3.heap.size:=hm3.lt
   have a0:=hm3.q 0 rfl;have a1:=hm3.q 1 rfl;have a2:=hm3.q 2 rfl
   have b0:=hm3.q 0 rfl;have b1:=hm3.q 1 rfl;have b2:=hm3.q 2 rfl
   have HM3:=hideIt hm3;have HB3:=hideIt hb3
   have HEV:Hid (∀W,Below wr.heap.size wr W→EnvAt hj W):=hideIt (fun W hW=>C.out.env.to ((HBW.out.trans (hW.mono (Nat.le_of_lt (Nat.lt_of_lt_of_le hsw hsz)))).mono hhj))
   clear hw3 h0 h1 hc2 hb3 hm3
   go_region_held3 (fun w'=>w'.cell? ⟨wr.heap.size,0,none⟩=some (.int .u8 119)∧w'.cell? ⟨wr.heap.size,1,none⟩=some (.bool true)∧w'.cell? ⟨wr.heap.size,2,none⟩=some (.int .u64 (x.v:Int)))
    (first | exact⟨a0,a1,a2⟩ | exact⟨b0,b1,b2⟩ | exact⟨d0,d1,d2⟩ | exact⟨e0,e1,e2⟩ | exact⟨e0a _,e1a _,e2a _⟩ | exact⟨f0,f1,f2⟩)
    (first
     | (go_at_call 34;refine(HS.out _).mono ?_;rintro e wa ⟨hba,rfl⟩;have hSa:=below_of_drew hba;have hSza:w3.heap.size≤wa.heap.size:=hSa.size;have hma:=HM3.out.below hSa hs3;have d0:=hma.q 0 rfl;have d1:=hma.q 1 rfl;have d2:=hma.q 2 rfl;have HBa:=hideIt (HB3.out.trans (hSa.mono (Nat.le_of_lt hs3)));have HMa:=hideIt hma;clear hba hSa hma)
     | (go_at_call 33;refine(txt_num64 (signB x) HSB.out wa (HEV.out _ HBa.out) (by omega)).mono ?_;rintro e wb ⟨hbb,rfl⟩;have hSzb:wa.heap.size≤wb.heap.size:=hbb.size;have hmb:=HMa.out.below hbb (by omega);have e0:=hmb.q 0 rfl;have e1:=hmb.q 1 rfl;have e2:=hmb.q 2 rfl;have e0a: ∀o,(wb.alloc o).cell? ⟨wr.heap.size,0,none⟩=some (.int .u8 119):=fun o=>(hmb.alloc o).cell 0;have e1a: ∀o,(wb.alloc o).cell? ⟨wr.heap.size,1,none⟩=some (.bool true):=fun o=>(hmb.alloc o).cell 1;have e2a: ∀o,(wb.alloc o).cell? ⟨wr.heap.size,2,none⟩=some (.int .u64 (x.v:Int)):=fun o=>(hmb.alloc o).cell 2;have HBb:=hideIt (HBa.out.trans (hbb.mono (by omega)));have HMb:=hideIt hmb;clear hbb hmb)
     | (go_at_call 28;refine(prt_row [globalW,⟨#[119]⟩,varW,bOf (Lib.itoa (signB x))] [globalT,[119],varT,Lib.itoa (signB x)] (by rw [List.map_cons,List.map_cons,List.map_cons,List.map_cons,List.map_nil];simp [bOf];exact⟨rfl,rfl⟩) 4 rfl _ wb (by simp) (HP.out.bld.below HBb.out) (by omega) (Nat.le_trans HL1.out HLEX) (by decide)).mono ?_;rintro e w6 ⟨rfl,hA,hB,hK⟩;have HP6:=hideIt (PR.mk (HP.out.bel.trans ((HBb.out.mono hsz).trans hB)) (HN1.out▸hA));have hm6:=hK.blk HMb.out (by omega) (by decide);have f0:=hm6.q 0 rfl;have f1:=hm6.q 1 rfl;have f2:=hm6.q 2 rfl;clear hA hB hK hm6))
   go_wp2_with fail
   apply HK.out
   ·exact hlt
   ·exact HP6.out
  ·have hG:globT x=lineT [globalT,[108],constT,Lib.itoa (signB x)]:=by unfold globT;rw [hll,hmu];rfl
   have HN1:=HN1.out
   have HL1:=HL1.out
   rw [hG] at HN1 HL1
   have HN1:=hideIt HN1
   have HL1:=hideIt HL1
   have HS:Hid (∀W,Calls prog 34 #[.agg #[.int .u8 108,.bool false,.int .u64 (x.v:Int)]] W fun e w'=>Below W.heap.size W w'∧e= .returned (.int .i64 (signB x))):=hideIt (fun W=>by have:=HSG.out W;rw [hll,hmu] at this;exact this)
   have h0:wr.cell? ⟨bk,ok+k*3,none⟩=some (.int .u8 108):=by rw [hc0,hll];rfl
   have h1:wr.cell? ⟨bk,ok+k*3+1,none⟩=some (.bool false):=by rw [hc1,hmu]
   clear hG hc0 hc1 HSG hll hmu
   go_upto_region 24 with fail
   generalize hw3:World.alloc _ _=w3
   have hb3:Below wr.heap.size wr w3:=by rw [←hw3];exact(Below.refl _ _).alloc (Nat.le_refl _) _
   have hm3:Blk w3 wr.heap.size 82 [.int .u8 108,.bool false,.int .u64 (x.v:Int)]:=by rw [←hw3];exact Blk.new wr _ _
   have hs3:wr.heap.size<w3.heap.size:=hm3.lt
   have a0:=hm3.q 0 rfl;have a1:=hm3.q 1 rfl;have a2:=hm3.q 2 rfl
   have b0:=hm3.q 0 rfl;have b1:=hm3.q 1 rfl;have b2:=hm3.q 2 rfl
   have HM3:=hideIt hm3;have HB3:=hideIt hb3
   have HEV:Hid (∀W,Below wr.heap.size wr W→EnvAt hj W):=hideIt (fun W hW=>C.out.env.to ((HBW.out.trans (hW.mono (Nat.le_of_lt (Nat.lt_of_lt_of_le hsw hsz)))).mono hhj))
   clear hw3 h0 h1 hc2 hb3 hm3
   go_region_held3 (fun w'=>w'.cell? ⟨wr.heap.size,0,none⟩=some (.int .u8 108)∧w'.cell? ⟨wr.heap.size,1,none⟩=some (.bool false)∧w'.cell? ⟨wr.heap.size,2,none⟩=some (.int .u64 (x.v:Int)))
    (first | exact⟨a0,a1,a2⟩ | exact⟨b0,b1,b2⟩ | exact⟨d0,d1,d2⟩ | exact⟨e0,e1,e2⟩ | exact⟨e0a _,e1a _,e2a _⟩ | exact⟨f0,f1,f2⟩)
    (first
     | (go_at_call 34;refine(HS.out _).mono ?_;rintro e wa ⟨hba,rfl⟩;have hSa:=below_of_drew hba;have hSza:w3.heap.size≤wa.heap.size:=hSa.size;have hma:=HM3.out.below hSa hs3;have d0:=hma.q 0 rfl;have d1:=hma.q 1 rfl;have d2:=hma.q 2 rfl;have HBa:=hideIt (HB3.out.trans (hSa.mono (Nat.le_of_lt hs3)));have HMa:=hideIt hma;clear hba hSa hma)
     | (go_at_call 33;refine(txt_num64 (signB x) HSB.out wa (HEV.out _ HBa.out) (by omega)).mono ?_;rintro e wb ⟨hbb,rfl⟩;have hSzb:wa.heap.size≤wb.heap.size:=hbb.size;have hmb:=HMa.out.below hbb (by omega);have e0:=hmb.q 0 rfl;have e1:=hmb.q 1 rfl;have e2:=hmb.q 2 rfl;have e0a: ∀o,(wb.alloc o).cell? ⟨wr.heap.size,0,none⟩=some (.int .u8 108):=fun o=>(hmb.alloc o).cell 0;have e1a: ∀o,(wb.alloc o).cell? ⟨wr.heap.size,1,none⟩=some (.bool false):=fun o=>(hmb.alloc o).cell 1;have e2a: ∀o,(wb.alloc o).cell? ⟨wr.heap.size,2,none⟩=some (.int .u64 (x.v:Int)):=fun o=>(hmb.alloc o).cell 2;have HBb:=hideIt (HBa.out.trans (hbb.mono (by omega)));have HMb:=hideIt hmb;clear hbb hmb)
     | (go_at_call 28;refine(prt_row [globalW,⟨#[108]⟩,constW,bOf (Lib.itoa (signB x))] [globalT,[108],constT,Lib.itoa (signB x)] (by rw [List.map_cons,List.map_cons,List.map_cons,List.map_cons,List.map_nil];simp [bOf];exact⟨rfl,rfl⟩) 4 rfl _ wb (by simp) (HP.out.bld.below HBb.out) (by omega) (Nat.le_trans HL1.out HLEX) (by decide)).mono ?_;rintro e w6 ⟨rfl,hA,hB,hK⟩;have HP6:=hideIt (PR.mk (HP.out.bel.trans ((HBb.out.mono hsz).trans hB)) (HN1.out▸hA));have hm6:=hK.blk HMb.out (by omega) (by decide);have f0:=hm6.q 0 rfl;have f1:=hm6.q 1 rfl;have f2:=hm6.q 2 rfl;clear hA hB hK hm6))
   go_wp2_with fail
   apply HK.out
   ·exact hlt
   ·exact HP6.out
  ·have hG:globT x=lineT [globalT,[108],varT,Lib.itoa (signB x)]:=by unfold globT;rw [hll,hmu];rfl
   have HN1:=HN1.out
   have HL1:=HL1.out
   rw [hG] at HN1 HL1
   have HN1:=hideIt HN1
   have HL1:=hideIt HL1
   have HS:Hid (∀W,Calls prog 34 #[.agg #[.int .u8 108,.bool true,.int .u64 (x.v:Int)]] W fun e w'=>Below W.heap.size W w'∧e= .returned (.int .i64 (signB x))):=hideIt (fun W=>by have:=HSG.out W;rw [hll,hmu] at this;exact this)
   have h0:wr.cell? ⟨bk,ok+k*3,none⟩=some (.int .u8 108):=by rw [hc0,hll];rfl
   have h1:wr.cell? ⟨bk,ok+k*3+1,none⟩=some (.bool true):=by rw [hc1,hmu]
   clear hG hc0 hc1 HSG hll hmu
   go_upto_region 24 with fail
   generalize hw3:World.alloc _ _=w3
   have hb3:Below wr.heap.size wr w3:=by rw [←hw3];exact(Below.refl _ _).alloc (Nat.le_refl _) _
   have hm3:Blk w3 wr.heap.size 82 [.int .u8 108,.bool true,.int .u64 (x.v:Int)]:=by rw [←hw3];exact Blk.new wr _ _
   have hs3:wr.heap.size<w3.heap.size:=hm3.lt
   have a0:=hm3.q 0 rfl;have a1:=hm3.q 1 rfl;have a2:=hm3.q 2 rfl
   have b0:=hm3.q 0 rfl;have b1:=hm3.q 1 rfl;have b2:=hm3.q 2 rfl
   have HM3:=hideIt hm3;have HB3:=hideIt hb3
   have HEV:Hid (∀W,Below wr.heap.size wr W→EnvAt hj W):=hideIt (fun W hW=>C.out.env.to ((HBW.out.trans (hW.mono (Nat.le_of_lt (Nat.lt_of_lt_of_le hsw hsz)))).mono hhj))
   clear hw3 h0 h1 hc2 hb3 hm3
   go_region_held3 (fun w'=>w'.cell? ⟨wr.heap.size,0,none⟩=some (.int .u8 108)∧w'.cell? ⟨wr.heap.size,1,none⟩=some (.bool true)∧w'.cell? ⟨wr.heap.size,2,none⟩=some (.int .u64 (x.v:Int)))
    (first | exact⟨a0,a1,a2⟩ | exact⟨b0,b1,b2⟩ | exact⟨d0,d1,d2⟩ | exact⟨e0,e1,e2⟩ | exact⟨e0a _,e1a _,e2a _⟩ | exact⟨f0,f1,f2⟩)
    (first
     | (go_at_call 34;refine(HS.out _).mono ?_;rintro e wa ⟨hba,rfl⟩;have hSa:=below_of_drew hba;have hSza:w3.heap.size≤wa.heap.size:=hSa.size;have hma:=HM3.out.below hSa hs3;have d0:=hma.q 0 rfl;have d1:=hma.q 1 rfl;have d2:=hma.q 2 rfl;have HBa:=hideIt (HB3.out.trans (hSa.mono (Nat.le_of_lt hs3)));have HMa:=hideIt hma;clear hba hSa hma)
     | (go_at_call 33;refine(txt_num64 (signB x) HSB.out wa (HEV.out _ HBa.out) (by omega)).mono ?_;rintro e wb ⟨hbb,rfl⟩;have hSzb:wa.heap.size≤wb.heap.size:=hbb.size;have hmb:=HMa.out.below hbb (by omega);have e0:=hmb.q 0 rfl;have e1:=hmb.q 1 rfl;have e2:=hmb.q 2 rfl;have e0a: ∀o,(wb.alloc o).cell? ⟨wr.heap.size,0,none⟩=some (.int .u8 108):=fun o=>(hmb.alloc o).cell 0;have e1a: ∀o,(wb.alloc o).cell? ⟨wr.heap.size,1,none⟩=some (.bool true):=fun o=>(hmb.alloc o).cell 1;have e2a: ∀o,(wb.alloc o).cell? ⟨wr.heap.size,2,none⟩=some (.int .u64 (x.v:Int)):=fun o=>(hmb.alloc o).cell 2;have HBb:=hideIt (HBa.out.trans (hbb.mono (by omega)));have HMb:=hideIt hmb;clear hbb hmb)
     | (go_at_call 28;refine(prt_row [globalW,⟨#[108]⟩,varW,bOf (Lib.itoa (signB x))] [globalT,[108],varT,Lib.itoa (signB x)] (by rw [List.map_cons,List.map_cons,List.map_cons,List.map_cons,List.map_nil];simp [bOf];exact⟨rfl,rfl⟩) 4 rfl _ wb (by simp) (HP.out.bld.below HBb.out) (by omega) (Nat.le_trans HL1.out HLEX) (by decide)).mono ?_;rintro e w6 ⟨rfl,hA,hB,hK⟩;have HP6:=hideIt (PR.mk (HP.out.bel.trans ((HBb.out.mono hsz).trans hB)) (HN1.out▸hA));have hm6:=hK.blk HMb.out (by omega) (by decide);have f0:=hm6.q 0 rfl;have f1:=hm6.q 1 rfl;have f2:=hm6.q 2 rfl;clear hA hB hK hm6))
   go_wp2_with fail
   apply HK.out
   ·exact hlt
   ·exact HP6.out
 ·obtain rfl:k=m.globs.length:=by omega
  have hlti:decide ((m.globs.length:Int)<m.globs.length)=false:=decide_eq_false (by omega)
  have HPX:Hid (PR w2 wr (pv3 m)):=hideIt (by have:=HP.out;rw [List.take_length] at this;exact this)
  clear HP HK
  go_wp2_with fail
  apply HX.out
  exact HPX.out
set_option maxRecDepth 1000000 in
theorem prt_globs {w w2:World} {hi hj:Nat} {m:ModV} {A1 A2 A3 A6 A7 A8:Option Addr} {c1 c2 c3 c6 c7 c8:Nat} (C:Hid (PCtx w w2 hi hj m A1 c1 A2 c2 A3 c3 A6 c6 A7 c7 A8 c8)) {wr:World} (HP:Hid (PR w2 wr (pv2 m)))
 (s0 s2 s3 s4 s7 s8 s9 s10 s11 s12 s13 s16 s17 s18 s19 s20 s21 s22 s23 s24 s25 s26 s27 s28 s29 s30 s31 s32 s33 s34 s35 s36 s37 s38 s39 s40 s41 s42 s43 s44 s45 s46 s47 s48 s49 s50 s51 s52 s53 s54 s55 s56 s57 s58 s59 s60 s61 s62 s63 s64 s65 s66 s87 s88 s89 s90 s91 s92 s93 s94 s95 s96 s97 s98 s99 s100 s101 s102 s103 s104 s105 s106 s107 s108 s109 s110 s111 s112 s113 s114 s115 s116 s117 s118 s119 s120 s121 s122 s123 s124 s125 s126 s127 s128 s129 s130 s131 s132 s133 s134 s135 s136 s137 s138 s139 s140 s141 s142 s143 s144 s145 s146 s147 s148 s149 s150 s151 s152 s153 s154 s155 s156 s157 s158 s159 s160 s161 s162 s163 s164 s165 s166 s167 s168 s169 s170 s171 s172 s173 s174 s175 u14 u15 u70 u71 u72 u73 u74 u75 u76 u77 u78 u79 u80 u81 u82 u83 u84 u85 u86:Value) (Q0:Exit→Act→World→Prop) (HX:Hid (∀(u14 u15 u70 u71 u72 u73 u74 u75 u76 u77 u78 u79 u80 u81 u82 u83 u84 u85 u86:Value) (wx:World),PR w2 wx (pv3 m)→Q0 (.exit 4) ⟨(List.toArray (s0::(.pointer (some ⟨w.heap.size,0,none⟩))::s2::s3::s4::(.pointer (some ⟨w2.heap.size,0,none⟩))::(.func (.func 28) #[] #[.pointer (some ⟨w2.heap.size,0,none⟩)])::s7::s8::s9::s10::s11::s12::s13::u14::u15::s16::s17::s18::s19::s20::s21::s22::s23::s24::s25::s26::s27::s28::s29::s30::s31::s32::s33::s34::s35::s36::s37::s38::s39::s40::s41::s42::s43::s44::s45::s46::s47::s48::s49::s50::s51::s52::s53::s54::s55::s56::s57::s58::s59::s60::s61::s62::s63::s64::s65::s66::(.slice A3 m.globs.length c3)::(.int .i64 m.globs.length)::(.int .i64 m.globs.length)::u70::u71::u72::u73::u74::u75::u76::u77::u78::u79::u80::u81::u82::u83::u84::u85::u86::s87::s88::s89::s90::s91::s92::s93::s94::s95::s96::s97::s98::s99::s100::s101::s102::s103::s104::s105::s106::s107::s108::s109::s110::s111::s112::s113::s114::s115::s116::s117::s118::s119::s120::s121::s122::s123::s124::s125::s126::s127::s128::s129::s130::s131::s132::s133::s134::s135::s136::s137::s138::s139::s140::s141::s142::s143::s144::s145::s146::s147::s148::s149::s150::s151::s152::s153::s154::s155::s156::s157::s158::s159::s160::s161::s162::s163::s164::s165::s166::s167::s168::s169::s170::s171::s172::s173::s174::s175:: [])),[]⟩ wx)):
 Code.wp prog (Code.loop (prtLoop 2)) Q0 ⟨(List.toArray (s0::(.pointer (some ⟨w.heap.size,0,none⟩))::s2::s3::s4::(.pointer (some ⟨w2.heap.size,0,none⟩))::(.func (.func 28) #[] #[.pointer (some ⟨w2.heap.size,0,none⟩)])::s7::s8::s9::s10::s11::s12::s13::u14::u15::s16::s17::s18::s19::s20::s21::s22::s23::s24::s25::s26::s27::s28::s29::s30::s31::s32::s33::s34::s35::s36::s37::s38::s39::s40::s41::s42::s43::s44::s45::s46::s47::s48::s49::s50::s51::s52::s53::s54::s55::s56::s57::s58::s59::s60::s61::s62::s63::s64::s65::s66::(.slice A3 m.globs.length c3)::(.int .i64 m.globs.length)::(.int .i64 0)::u70::u71::u72::u73::u74::u75::u76::u77::u78::u79::u80::u81::u82::u83::u84::u85::u86::s87::s88::s89::s90::s91::s92::s93::s94::s95::s96::s97::s98::s99::s100::s101::s102::s103::s104::s105::s106::s107::s108::s109::s110::s111::s112::s113::s114::s115::s116::s117::s118::s119::s120::s121::s122::s123::s124::s125::s126::s127::s128::s129::s130::s131::s132::s133::s134::s135::s136::s137::s138::s139::s140::s141::s142::s143::s144::s145::s146::s147::s148::s149::s150::s151::s152::s153::s154::s155::s156::s157::s158::s159::s160::s161::s162::s163::s164::s165::s166::s167::s168::s169::s170::s171::s172::s173::s174::s175:: [])),[]⟩ wr:=by
 refine wp_loop (fun a wx=> ∃(u14 u15 u70 u71 u72 u73 u74 u75 u76 u77 u78 u79 u80 u81 u82 u83 u84 u85 u86:Value) (k:Nat),k≤m.globs.length∧PR w2 wx (pv2 m++(m.globs.take k).flatMap globT)∧a=⟨(List.toArray (s0::(.pointer (some ⟨w.heap.size,0,none⟩))::s2::s3::s4::(.pointer (some ⟨w2.heap.size,0,none⟩))::(.func (.func 28) #[] #[.pointer (some ⟨w2.heap.size,0,none⟩)])::s7::s8::s9::s10::s11::s12::s13::u14::u15::s16::s17::s18::s19::s20::s21::s22::s23::s24::s25::s26::s27::s28::s29::s30::s31::s32::s33::s34::s35::s36::s37::s38::s39::s40::s41::s42::s43::s44::s45::s46::s47::s48::s49::s50::s51::s52::s53::s54::s55::s56::s57::s58::s59::s60::s61::s62::s63::s64::s65::s66::(.slice A3 m.globs.length c3)::(.int .i64 m.globs.length)::(.int .i64 k)::u70::u71::u72::u73::u74::u75::u76::u77::u78::u79::u80::u81::u82::u83::u84::u85::u86::s87::s88::s89::s90::s91::s92::s93::s94::s95::s96::s97::s98::s99::s100::s101::s102::s103::s104::s105::s106::s107::s108::s109::s110::s111::s112::s113::s114::s115::s116::s117::s118::s119::s120::s121::s122::s123::s124::s125::s126::s127::s128::s129::s130::s131::s132::s133::s134::s135::s136::s137::s138::s139::s140::s141::s142::s143::s144::s145::s146::s147::s148::s149::s150::s151::s152::s153::s154::s155::s156::s157::s158::s159::s160::s161::s162::s163::s164::s165::s166::s167::s168::s169::s170::s171::s172::s173::s174::s175:: [])),[]⟩) (fun a _=>m.globs.length-(intOf (a.tmps.getD 69 undef)).toNat) ?_ ?_
 ·exact⟨u14,u15,u70,u71,u72,u73,u74,u75,u76,u77,u78,u79,u80,u81,u82,u83,u84,u85,u86,0,Nat.zero_le _,by rw [List.take_zero,List.flatMap_nil,List.append_nil];exact HP.out,rfl⟩
 ·intro a wx hI
  obtain⟨u14,hI⟩:=hI
  obtain⟨u15,hI⟩:=hI
  obtain⟨u70,hI⟩:=hI
  obtain⟨u71,hI⟩:=hI
  obtain⟨u72,hI⟩:=hI
  obtain⟨u73,hI⟩:=hI
  obtain⟨u74,hI⟩:=hI
  obtain⟨u75,hI⟩:=hI
  obtain⟨u76,hI⟩:=hI
  obtain⟨u77,hI⟩:=hI
  obtain⟨u78,hI⟩:=hI
  obtain⟨u79,hI⟩:=hI
  obtain⟨u80,hI⟩:=hI
  obtain⟨u81,hI⟩:=hI
  obtain⟨u82,hI⟩:=hI
  obtain⟨u83,hI⟩:=hI
  obtain⟨u84,hI⟩:=hI
  obtain⟨u85,hI⟩:=hI
  obtain⟨u86,hI⟩:=hI
  obtain⟨k,hk,hp,rfl⟩:=hI
  refine prt_globs_round C hk (hideIt hp) _ _ _ _ _ _ _ _ _ _ _ _ _ _ _ _ _ _ _ _ _ _ _ _ _ _ _ _ _ _ _ _ _ _ _ _ _ _ _ _ _ _ _ _ _ _ _ _ _ _ _ _ _ _ _ _ _ _ _ _ _ _ _ _ _ _ _ _ _ _ _ _ _ _ _ _ _ _ _ _ _ _ _ _ _ _ _ _ _ _ _ _ _ _ _ _ _ _ _ _ _ _ _ _ _ _ _ _ _ _ _ _ _ _ _ _ _ _ _ _ _ _ _ _ _ _ _ _ _ _ _ _ _ _ _ _ _ _ _ _ _ _ _ _ _ _ _ _ _ _ _ _ _ _ _ _ _ _ _ _ _ _ _ _ _ _ _ _ _ _ _ _ (hideIt ?_) HX
  intro u14 u15 u70 u71 u72 u73 u74 u75 u76 u77 u78 u79 u80 u81 u82 u83 u84 u85 u86 wy hlt hp2
  refine⟨⟨u14,u15,u70,u71,u72,u73,u74,u75,u76,u77,u78,u79,u80,u81,u82,u83,u84,u85,u86,k+1,hlt,hp2,rfl⟩,?_⟩
  show m.globs.length-(intOf (.int .i64 ((k+1:Nat):Int))).toNat<m.globs.length-(intOf (.int .i64 (k:Int))).toNat
  simp [intOf]
  omega
end Go.Proofs.YtebgikflpgcnlaaGreatDoor
