/- Part 36 of the proof: DecO PrtC -/
import Derived.Test.YtejbcledkhioeaaGreatDoorQ35
namespace Go.Proofs.YtejbcledkhioeaaGreatDoor
set_option linter.unusedVariables false
set_option linter.unusedSimpArgs false
set_option maxRecDepth 100000
set_option maxHeartbeats 4000000
open Go.RowKit Tryz
set_option maxRecDepth 1000000 in
theorem vG {R:RC} {w:World} {q:Nat} (hA:R.At w) (h:HQ R w (MX [] [] [] 0 0) 0 q) (hql:q≤R.l.length):
 Calls prog 63 #[.pointer (some ⟨R.rg,0,none⟩)] w (fun e w'=>Keep (KD R.B R.og R.rg R.Z0) R.w0 w'∧((∃ts hs gs fi mo q',e= .returned (.tuple #[])∧HQ R w' (MX ts hs gs fi mo) 0 q'∧K_ R.l q (Li (MX ts hs gs fi mo)) q'∧JG (MX ts hs gs fi mo)=0)∨Zn e)):=by
 have HH:=AA (h.box hA)
 have hg:=hA.gr
 have HQL:=AA hql
 clear h hA hql
 go_enter func63,ntmps63
 go_upto_region 1 with fail
 rw [←hg] at*
 generalize hw1:World.alloc _ _=w1 at*
 clear hw1 hg
 have P0:=AA HH.out.pr
 refine Aa ?_
 have PC:=AA (P0.out.drew)
 refine wp_region_held_drew (S:=fun W=>W.cell? ⟨R.gr,0,none⟩=some (.pointer (some ⟨R.rg,0,none⟩))) (by kernel_rfl) (Ao.gr HH.out PC.out) (fun hHeld=> ?_)
 generalize w1.drew=CP at*
 refine AB (i:=0) (v:= ?_) rfl (by kernel_rfl) (fun _ _ _ h=>h) (by intro w hSw;(try dsimp only at hSw);go_simp;try with_reducible rfl) hHeld ?_
 refine AB (i:=3) (v:= ?_) rfl (by kernel_rfl) (fun _ _ _ h=>h) (by intro w hSw;(try dsimp only at hSw);go_simp;try with_reducible rfl) hHeld ?_
 refine wpAnyH_ready (rs:= [1]) (by kernel_rfl) (by simp) ?_
 refine AllReadyH.cons rfl (fun K hK=> ?_) AllReadyH.nil
 go_simp
 go_at_call 100
 refine(N9 64 20 _).mono ?_
 rintro e Js ⟨hw,rfl⟩
 have PD:Hid (Ao R _ Js _ _):=AA (by rw [hw];exact(PC.out.alloc _).alloc _)
 have ha:Js.cell? ⟨CP.heap.size,0,none⟩=some (.int .i64 64):=by rw [hw];exact((AL.new CP 3 [.int .i64 64]).alloc _).cell 0
 have hb:Js.cell? ⟨CP.heap.size+1,0,none⟩=some (.int .i64 20):=by rw [hw];have:=(AL.new (CP.alloc (.cells #[.int .i64 64] 3)) 33 [.int .i64 20]).cell 0;rw [World.size_alloc] at this;exact this
 refine hK.out _ _ (Ao.gr HH.out PD.out) (fun Ag=> ?_)
 clear hK K hw
 refine wpAnyH_ready (rs:= [2]) (by kernel_rfl) (by simp) ?_
 refine AllReadyH.cons rfl (fun K hK=> ?_) AllReadyH.nil
 go_simp
 go_at_call 99
 refine(Lx (l:=R.l) (Ao.inp HH.out PD.out) PD.out.rd (by decide) (by decide) (by decide) ha hb).mono ?_
 rintro e wa ⟨hk,⟨v,bs,q1,rfl,⟨n1,rfl,rfl,hu⟩,ha',hr⟩ | ⟨en,a1,h1,rfl⟩⟩
 case inr=>
  have JF:=AA (HH.out.OW (PD.out.kp.trans hk))
  exact BG.thrown (fun ax hd=>And.intro hd (And.intro JF.out (Or.inr ⟨_,_,h1,rfl⟩)))
 have za:=AA (PD.out.V6 hk hr)
 have kJ:=AA hu;have zf:=AA ha'
 refine hK.out _ _ (Ao.gr HH.out za.out) (fun CO=> ?_)
 clear hK K hk hr hu ha' ha hb PC PD
 refine wpAnyH_done (by kernel_rfl) ?_ _
 refine BG.normal ?_
 have HT0:Hid (TyI R q (enc n1) 0 wa):=AA ⟨[],q1,za.out.hr HH.out,rfl,by simpa using zf.out,rfl⟩
 go_wp2_with fail
 refine qK (p0:=q) (b0:=enc n1) (M:=n1) (by have:=kJ.out;omega) HT0 _ _ _ _ _ _ _ _ _ _ _ _ _ _ _ _ _ _ _ _ _ _ _ _ _ _ _ _ _ _ _ _ _ _ _ _ _ _ _ _ _ _ _ _ _ _ _ _ _ _ _ _ _ _ _ _ _ _ _ _ _ _ _ _ _ _ _ _ _ _ _ _ _ _ _ _ _ _ _ _ _ _ _ _ _ _ _ _ _ _ _ _ _ _ _ _ _ _ _ _ _ _ _ _ _ _ _ _ _ _ _ _ _ _ _ _ _ _ _ _ _ _ _ _ _ _ _ _ _ _ _ _ _ _ _ _ _ _ _ _ _ _ _ _ _ _ _ _ _ _ _ _ _ _ _ _ _ _ _ _ _ _ _ _ _ _ _ _ _ _ _ _ _ _ _ _ _ _ _ _ _ _ _ _ _ _ _ _ _ _ _ _ _ _ (AA ?_) (AA ?_)
 ·intro en a1 ax wx hne hd hk
  exact And.intro hd (And.intro hk (Or.inr ⟨en,a1,hne,rfl⟩))
 intro t0 t1 t2 t3 t4 t5 t6 t7 t8 t9 t10 t11 t12 t13 t14 t15 t16 t17 t18 t19 t20 t21 t22 t23 t24 t25 t26 t27 t28 t29 t30 t31 t32 t33 t34 t35 t36 tw hpt
 have wm:=AA hpt
 clear hpt
 obtain⟨ts,q2,ht1,hl1,ha1,he1⟩:=wm.out
 have HT1:=AA ht1;have Pt:=AA ht1.pr;have yZ:=AA hl1;have HAt:=AA ha1;have HEt:=AA he1
 clear ht1 hl1 ha1 he1 wm HT0 HH P0 za
 go_upto_region 9 with fail
 refine Aa ?_
 have PC:=AA (Pt.out.drew)
 refine wp_region_held_drew (S:=fun W=>W.cell? ⟨R.gr,0,none⟩=some (.pointer (some ⟨R.rg,0,none⟩))) (by kernel_rfl) (Ao.gr HT1.out PC.out) (fun hHeld=> ?_)
 generalize tw.drew=CP at*
 refine AB (i:=0) (v:= ?_) rfl (by kernel_rfl) (fun _ _ _ h=>h) (by intro w hSw;(try dsimp only at hSw);go_simp;try with_reducible rfl) hHeld ?_
 refine AB (i:=3) (v:= ?_) rfl (by kernel_rfl) (fun _ _ _ h=>h) (by intro w hSw;(try dsimp only at hSw);go_simp;try with_reducible rfl) hHeld ?_
 refine wpAnyH_ready (rs:= [1]) (by kernel_rfl) (by simp) ?_
 refine AllReadyH.cons rfl (fun K hK=> ?_) AllReadyH.nil
 go_simp
 go_at_call 100
 refine(N9 32 20 _).mono ?_
 rintro e Js ⟨hw,rfl⟩
 have PD:Hid (Ao R _ Js _ _):=AA (by rw [hw];exact(PC.out.alloc _).alloc _)
 have ha:Js.cell? ⟨CP.heap.size,0,none⟩=some (.int .i64 32):=by rw [hw];exact((AL.new CP 3 [.int .i64 32]).alloc _).cell 0
 have hb:Js.cell? ⟨CP.heap.size+1,0,none⟩=some (.int .i64 20):=by rw [hw];have:=(AL.new (CP.alloc (.cells #[.int .i64 32] 3)) 33 [.int .i64 20]).cell 0;rw [World.size_alloc] at this;exact this
 refine hK.out _ _ (Ao.gr HT1.out PD.out) (fun Ag=> ?_)
 clear hK K hw
 refine wpAnyH_ready (rs:= [2]) (by kernel_rfl) (by simp) ?_
 refine AllReadyH.cons rfl (fun K hK=> ?_) AllReadyH.nil
 go_simp
 go_at_call 99
 refine(Lx (l:=R.l) (Ao.inp HT1.out PD.out) PD.out.rd (by decide) (by decide) (by decide) ha hb).mono ?_
 rintro e wb ⟨hk,⟨v,bs,q3,rfl,⟨n2,rfl,rfl,hu⟩,ha',hr⟩ | ⟨en,a1,h1,rfl⟩⟩
 case inr=>
  have JF:=AA (HT1.out.OW (PD.out.kp.trans hk))
  exact BG.thrown (fun ax hd=>And.intro hd (And.intro JF.out (Or.inr ⟨_,_,h1,rfl⟩)))
 have wu:=AA (PD.out.V6 hk hr)
 have qP:=AA hu;have zh:=AA ha'
 refine hK.out _ _ (Ao.gr HT1.out wu.out) (fun CO=> ?_)
 clear hK K hk hr hu ha' ha hb PC PD
 refine wpAnyH_done (by kernel_rfl) ?_ _
 refine BG.normal ?_
 have HH0:Hid (wX R q2 (enc n2) ts 0 wb):=AA ⟨[],q3,wu.out.hr HT1.out,rfl,by simpa using zh.out,rfl⟩
 go_wp2_with fail
 refine qM (p0:=q2) (b0:=enc n2) (ts:=ts) (by have:=kJ.out;have:=yZ.out;omega) (M:=n2) (by have:=qP.out;omega) HH0 _ _ _ _ _ _ _ _ _ _ _ _ _ _ _ _ _ _ _ _ _ _ _ _ _ _ _ _ _ _ _ _ _ _ _ _ _ _ _ _ _ _ _ _ _ _ _ _ _ _ _ _ _ _ _ _ _ _ _ _ _ _ _ _ _ _ _ _ _ _ _ _ _ _ _ _ _ _ _ _ _ _ _ _ _ _ _ _ _ _ _ _ _ _ _ _ _ _ _ _ _ _ _ _ _ _ _ _ _ _ _ _ _ _ _ _ _ _ _ _ _ _ _ _ _ _ _ _ _ _ _ _ _ _ _ _ _ _ _ _ _ _ _ _ _ _ _ _ _ _ _ _ _ _ _ _ _ _ _ _ _ _ _ _ _ _ _ _ _ _ _ _ _ _ _ _ _ _ _ _ _ _ _ _ _ _ _ _ _ _ _ _ _ _ (AA ?_) (AA ?_)
 ·intro en a1 ax wx hne hd hk
  exact And.intro hd (And.intro hk (Or.inr ⟨en,a1,hne,rfl⟩))
 intro h0 h1 h2 h3 h4 h5 h6 h7 h8 h9 h10 h11 h12 h13 h14 h15 h16 h17 h18 h19 h20 h21 h22 h23 h24 h25 h26 h27 h28 h29 hw hph
 have HPh:=AA hph
 clear hph
 obtain⟨hs,q4,ht1,hl1,ha1,he1⟩:=HPh.out
 have zi:=AA ht1;have Ph:=AA ht1.pr;have HLh:=AA hl1;have HAh:=AA ha1;have HEh:=AA he1
 clear ht1 hl1 ha1 he1 HPh HH0 HT1 Pt wu
 go_upto_region 13 with fail
 refine Aa ?_
 have PC:=AA (Ph.out.drew)
 refine wp_region_held_drew (S:=fun W=>W.cell? ⟨R.gr,0,none⟩=some (.pointer (some ⟨R.rg,0,none⟩))) (by kernel_rfl) (Ao.gr zi.out PC.out) (fun hHeld=> ?_)
 generalize hw.drew=CP at*
 refine AB (i:=0) (v:= ?_) rfl (by kernel_rfl) (fun _ _ _ h=>h) (by intro w hSw;(try dsimp only at hSw);go_simp;try with_reducible rfl) hHeld ?_
 refine AB (i:=3) (v:= ?_) rfl (by kernel_rfl) (fun _ _ _ h=>h) (by intro w hSw;(try dsimp only at hSw);go_simp;try with_reducible rfl) hHeld ?_
 refine wpAnyH_ready (rs:= [1]) (by kernel_rfl) (by simp) ?_
 refine AllReadyH.cons rfl (fun K hK=> ?_) AllReadyH.nil
 go_simp
 go_at_call 100
 refine(N9 64 20 _).mono ?_
 rintro e Js ⟨hw,rfl⟩
 have PD:Hid (Ao R _ Js _ _):=AA (by rw [hw];exact(PC.out.alloc _).alloc _)
 have ha:Js.cell? ⟨CP.heap.size,0,none⟩=some (.int .i64 64):=by rw [hw];exact((AL.new CP 3 [.int .i64 64]).alloc _).cell 0
 have hb:Js.cell? ⟨CP.heap.size+1,0,none⟩=some (.int .i64 20):=by rw [hw];have:=(AL.new (CP.alloc (.cells #[.int .i64 64] 3)) 33 [.int .i64 20]).cell 0;rw [World.size_alloc] at this;exact this
 refine hK.out _ _ (Ao.gr zi.out PD.out) (fun Ag=> ?_)
 clear hK K hw
 refine wpAnyH_ready (rs:= [2]) (by kernel_rfl) (by simp) ?_
 refine AllReadyH.cons rfl (fun K hK=> ?_) AllReadyH.nil
 go_simp
 go_at_call 99
 refine(Lx (l:=R.l) (Ao.inp zi.out PD.out) PD.out.rd (by decide) (by decide) (by decide) ha hb).mono ?_
 rintro e wc ⟨hk,⟨v,bs,q5,rfl,⟨n3,rfl,rfl,hu⟩,ha',hr⟩ | ⟨en,a1,h1,rfl⟩⟩
 case inr=>
  have JF:=AA (zi.out.OW (PD.out.kp.trans hk))
  exact BG.thrown (fun ax hd=>And.intro hd (And.intro JF.out (Or.inr ⟨_,_,h1,rfl⟩)))
 have zk:=AA (PD.out.V6 hk hr)
 have qQ:=AA hu;have zm:=AA ha'
 refine hK.out _ _ (Ao.gr zi.out zk.out) (fun CO=> ?_)
 clear hK K hk hr hu ha' ha hb PC PD
 refine wpAnyH_done (by kernel_rfl) ?_ _
 refine BG.normal ?_
 have HG0:Hid (zX R q4 (enc n3) ts hs 0 wc):=AA ⟨[],q5,zk.out.hr zi.out,rfl,by simpa using zm.out,rfl⟩
 go_wp2_with fail
 refine qN (p0:=q4) (b0:=enc n3) (ts:=ts) (hs:=hs) (M:=n3) (by have:=qQ.out;omega) HG0 _ _ _ _ _ _ _ _ _ _ _ _ _ _ _ _ _ _ _ _ _ _ _ _ _ _ _ _ _ _ _ _ _ _ _ _ _ _ _ _ _ _ _ _ _ _ _ _ _ _ _ _ _ _ _ _ _ _ _ _ _ _ _ _ _ _ _ _ _ _ _ _ _ _ _ _ _ _ _ _ _ _ _ _ _ _ _ _ _ _ _ _ _ _ _ _ _ _ _ _ _ _ _ _ _ _ _ _ _ _ _ _ _ _ _ _ _ _ _ _ _ _ _ _ _ _ _ _ _ _ _ _ _ _ _ _ _ _ _ _ _ _ _ _ _ _ _ _ _ _ _ _ _ _ _ _ _ _ _ _ _ _ _ _ _ _ _ _ _ _ _ _ _ _ _ _ _ _ _ _ _ _ _ _ _ _ _ _ _ _ _ _ _ _ (AA ?_) (AA ?_)
 ·intro en a1 ax wx hne hd hk
  exact And.intro hd (And.intro hk (Or.inr ⟨en,a1,hne,rfl⟩))
 intro g0 g1 g2 g3 g4 g5 g6 g7 g8 g9 g10 g11 g12 g13 g14 g15 g16 g17 g18 g19 g20 g21 g22 g23 g24 g25 g26 g27 g28 g29 g30 g31 g32 g33 g34 g35 g36 g37 g38 g39 g40 g41 g42 g43 g44 g45 g46 g47 g48 g49 g50 g51 g52 g53 g54 g55 g56 g57 g58 g59 g60 g61 g62 g63 g64 g65 g66 g67 g68 g69 g70 g71 g72 g73 g74 g75 g76 g77 g78 g79 g80 g81 g82 g83 g84 g85 g86 g87 g88 g89 g90 g91 g92 g93 g94 gw hpg
 have HPg:=AA hpg
 clear hpg
 obtain⟨gs,q6,ht1,hl1,ha1,he1⟩:=HPg.out
 have YT:=AA ht1;have Pg:=AA ht1.pr;have HLg:=AA hl1;have HAg:=AA ha1;have HEg:=AA he1
 clear ht1 hl1 ha1 he1 HPg HG0 zi Ph zk
 go_upto_region 29 with fail
 refine Aa ?_
 have PC:=AA (Pg.out.drew)
 refine wp_region_held_drew (S:=fun W=>W.cell? ⟨R.gr,0,none⟩=some (.pointer (some ⟨R.rg,0,none⟩))∧W.cell? ⟨R.rg,0,none⟩=some (.pointer (some ⟨R.og,0,none⟩))) (by kernel_rfl) ⟨Ao.gr YT.out PC.out,PC.out.r0⟩ (fun hHeld=> ?_)
 generalize gw.drew=CP at*
 refine AB (i:=0) (v:= ?_) rfl (by kernel_rfl) (fun _ _ _ h=>h) (by intro w hSw;(try dsimp only at hSw);go_simp;try with_reducible rfl) hHeld ?_
 refine AB (i:=1) (v:= ?_) rfl (by kernel_rfl) (fun _ _ _ h=>h) (by intro w hSw;(try dsimp only at hSw);go_simp;try with_reducible rfl) hHeld ?_
 refine AB (i:=2) (v:= ?_) rfl (by kernel_rfl) (fun _ _ _ h=>h) (by intro w hSw;(try dsimp only at hSw);go_simp;try with_reducible rfl) hHeld ?_
 refine AB (i:=3) (v:= ?_) rfl (by kernel_rfl) (fun _ _ _ h=>h) (by intro w hSw;(try dsimp only at hSw);go_simp;try with_reducible rfl) hHeld ?_
 refine AB (i:=4) (v:= ?_) rfl (by kernel_rfl) (fun _ _ _ h=>h) (by intro w hSw;(try dsimp only at hSw);go_simp;try with_reducible rfl) hHeld ?_
 refine AB (i:=5) (v:= ?_) rfl (by kernel_rfl) (fun _ _ _ h=>h) (by intro w hSw;(try dsimp only at hSw);go_simp;try with_reducible rfl) hHeld ?_
 refine wpAnyH_ready (rs:= [6]) (by kernel_rfl) (by simp) ?_
 refine AllReadyH.cons rfl (fun K hK=> ?_) AllReadyH.nil
 go_simp
 go_at_call 100
 refine(N9 64 17 _).mono ?_
 rintro e Js ⟨hw,rfl⟩
 have PD:Hid (Ao R _ Js _ _):=AA (by rw [hw];exact(PC.out.alloc _).alloc _)
 have ha:Js.cell? ⟨CP.heap.size,0,none⟩=some (.int .i64 64):=by rw [hw];exact((AL.new CP 3 [.int .i64 64]).alloc _).cell 0
 have hb:Js.cell? ⟨CP.heap.size+1,0,none⟩=some (.int .i64 17):=by rw [hw];have:=(AL.new (CP.alloc (.cells #[.int .i64 64] 3)) 33 [.int .i64 17]).cell 0;rw [World.size_alloc] at this;exact this
 refine hK.out _ _ ⟨Ao.gr YT.out PD.out,PD.out.r0⟩ (fun Ag=> ?_)
 clear hK K hw
 refine wpAnyH_ready (rs:= [7]) (by kernel_rfl) (by simp) ?_
 refine AllReadyH.cons rfl (fun K hK=> ?_) AllReadyH.nil
 go_simp
 go_at_call 99
 refine(Lx (l:=R.l) (Ao.inp YT.out PD.out) PD.out.rd (by decide) (by decide) (by decide) ha hb).mono ?_
 rintro e Rn ⟨hk,⟨v,bs,q7,rfl,⟨fi,rfl,rfl,hu⟩,ha',hr⟩ | ⟨en,a1,h1,rfl⟩⟩
 case inr=>
  have JF:=AA (YT.out.OW (PD.out.kp.trans hk))
  exact BG.thrown (fun ax hd=>And.intro hd (And.intro JF.out (Or.inr ⟨_,_,h1,rfl⟩)))
 have PE:=AA (PD.out.V6 hk hr)
 have gJ:=AA hu;have vH:=AA ha'
 refine hK.out _ _ ⟨Ao.gr YT.out PE.out,PE.out.r0⟩ (fun CO=> ?_)
 clear hK K hk hr hu ha' PC PD ha hb
 refine AB (i:=8) (v:= ?_) rfl (by kernel_rfl) (fun _ _ _ h=>h) (by intro w hSw;(try dsimp only at hSw);go_simp;try with_reducible rfl) CO ?_
 refine AB (i:=9) (v:= ?_) rfl (by kernel_rfl) (fun _ _ _ h=>h) (by intro w hSw;(try dsimp only at hSw);go_simp;try with_reducible rfl) CO ?_
 obtain⟨col,v1,v2,v3,v6,v7,v8,hds⟩:=(PE.out.hr YT.out).ds
 have ys:=hds.out.cell 3;have yf:=hds.out.frozen 3
 have HD:=AA hds
 have HF:=AA (PE.out.hr YT.out)
 clear hds
 refine wpAnyH_ready (rs:= [10]) (by kernel_rfl) (by simp) ?_
 refine AllReadyH.cons rfl (fun K hK=> ?_) AllReadyH.nil
 go_simp
 have L8:=AA (HF.out.step (HD.out.first (fi:Int)))
 refine hK.out _ _ ⟨L8.out.box.cell 0,AL.cell L8.out.rd 0⟩ (fun JY=> ?_)
 clear hK K ys yf HD HF
 refine wpAnyH_done (by kernel_rfl) ?_ _
 refine BG.normal ?_
 generalize hwn:World.setCell _ _ _=w6 at*
 clear hwn
 have P6:=AA L8.out.pr
 have HO3:Hid (∀W,Keep (fun k=>k≠R.rg) w6 W→W.cell? ⟨R.og,3,none⟩=some (.int .i64 (fi:Int))):=AA (fun W hW=>by
  obtain⟨col,v1,v2,v3,v6,v7,v8,hds⟩:=L8.out.ds
  exact(hds.out.keep hW hds.ne).cell 3)
 clear YT Pg PE
 go_upto_region 30 with fail
 refine Aa ?_
 have PC:=AA (P6.out.drew)
 refine wp_region_held_drew (S:=fun W=>W.cell? ⟨R.gr,0,none⟩=some (.pointer (some ⟨R.rg,0,none⟩))∧W.cell? ⟨R.rg,0,none⟩=some (.pointer (some ⟨R.og,0,none⟩))) (by kernel_rfl) ⟨Ao.gr L8.out PC.out,PC.out.r0⟩ (fun hHeld=> ?_)
 generalize w6.drew=CP at*
 refine AB (i:=0) (v:= ?_) rfl (by kernel_rfl) (fun _ _ _ h=>h) (by intro w hSw;(try dsimp only at hSw);go_simp;try with_reducible rfl) hHeld ?_
 refine AB (i:=1) (v:= ?_) rfl (by kernel_rfl) (fun _ _ _ h=>h) (by intro w hSw;(try dsimp only at hSw);go_simp;try with_reducible rfl) hHeld ?_
 refine AB (i:=2) (v:= ?_) rfl (by kernel_rfl) (fun _ _ _ h=>h) (by intro w hSw;(try dsimp only at hSw);go_simp;try with_reducible rfl) hHeld ?_
 refine AB (i:=3) (v:= ?_) rfl (by kernel_rfl) (fun _ _ _ h=>h) (by intro w hSw;(try dsimp only at hSw);go_simp;try with_reducible rfl) hHeld ?_
 refine AB (i:=4) (v:= ?_) rfl (by kernel_rfl) (fun _ _ _ h=>h) (by intro w hSw;(try dsimp only at hSw);go_simp;try with_reducible rfl) hHeld ?_
 refine AB (i:=5) (v:= ?_) rfl (by kernel_rfl) (fun _ _ _ h=>h) (by intro w hSw;(try dsimp only at hSw);go_simp;try with_reducible rfl) hHeld ?_
 refine AB (i:=6) (v:= ?_) rfl (by kernel_rfl) (fun _ _ _ h=>h) (by intro w hSw;(try dsimp only at hSw);go_simp;try with_reducible rfl) hHeld ?_
 have PD:=PC
 generalize CP=Js at*
 refine wpAnyH_ready (rs:= [7]) (by kernel_rfl) (by simp) ?_
 refine AllReadyH.cons rfl (fun K hK=> ?_) AllReadyH.nil
 go_simp
 go_at_call 99
 refine(O_ (l:=R.l) (cap:= #[.pointer (some ⟨R.gr,0,none⟩)]) (Ao.inp L8.out PD.out) PD.out.rd vD (fun u=>fi≤u∧u≤64) (fun u h=>by omega) (fun u hu=>qL u hu q7 fi (by have:=gJ.out;omega) R.gr R.rg R.og _ (Ao.gr L8.out PD.out.drew) PD.out.drew.r0 (HO3.out _ PD.out.drew.kp))).mono ?_
 rintro e Rn ⟨hk,⟨v,bs,q8,rfl,⟨mo,rfl,rfl,hu⟩,ha',hr⟩ | ⟨en,a1,h1,rfl⟩⟩
 case inr=>
  have JF:=AA (L8.out.OW (PD.out.kp.trans hk))
  exact BG.thrown (fun ax hd=>And.intro hd (And.intro JF.out (Or.inr ⟨_,_,h1,rfl⟩)))
 have PE:=AA (PD.out.V6 hk hr)
 have zn:=AA hu;have zo:=AA ha'
 refine hK.out _ _ ⟨Ao.gr L8.out PE.out,PE.out.r0⟩ (fun CO=> ?_)
 clear hK K hk hr hu ha' PC PD
 refine AB (i:=8) (v:= ?_) rfl (by kernel_rfl) (fun _ _ _ h=>h) (by intro w hSw;(try dsimp only at hSw);go_simp;try with_reducible rfl) CO ?_
 refine AB (i:=9) (v:= ?_) rfl (by kernel_rfl) (fun _ _ _ h=>h) (by intro w hSw;(try dsimp only at hSw);go_simp;try with_reducible rfl) CO ?_
 obtain⟨col,v1,v2,v3,v6,v7,v8,hds⟩:=(PE.out.hr L8.out).ds
 have ys:=hds.out.cell 4;have yf:=hds.out.frozen 4
 have HD:=AA hds
 have HF:=AA (PE.out.hr L8.out)
 clear hds
 refine wpAnyH_ready (rs:= [10]) (by kernel_rfl) (by simp) ?_
 refine AllReadyH.cons rfl (fun K hK=> ?_) AllReadyH.nil
 go_simp
 have gK:=AA (HF.out.step (HD.out.most (mo:Int)))
 refine hK.out _ _ ⟨gK.out.box.cell 0,AL.cell gK.out.rd 0⟩ (fun JY=> ?_)
 clear hK K ys yf HD HF
 refine wpAnyH_done (by kernel_rfl) ?_ _
 refine BG.normal ?_
 have NR:Hid (K_ R.l q (Li (MX ts hs gs fi mo)) q8):=AA (by
  have h:=HAt.out.trans (HAh.out.trans (HAg.out.trans (vH.out.trans zo.out)))
  unfold Li Ob Oc Od
  dsimp only
  rw [yZ.out,HLh.out,HLg.out]
  exact h)
 have HED:Hid (JG (MX ts hs gs fi mo)=0):=AA (qF (kC (by show ts.length≤64;have:=yZ.out;have:=kJ.out;omega) HEt.out) (kD (by show hs.length≤32;have:=HLh.out;have:=qP.out;omega) HEh.out) (kE (by show gs.length≤64;have:=HLg.out;have:=qQ.out;omega) HEg.out) (kF (by have h1:=gJ.out;have h2:=zn.out;show(0:Int)≤fi∧(fi:Int)≤64∧(fi:Int)≤mo∧(mo:Int)≤64;omega)))
 go_wp2_with fail
 go_end0
 exact⟨gK.out.kp,.inl ⟨rfl,ts,hs,gs,fi,mo,q8,gK.out.done,NR.out,HED.out⟩⟩
set_option maxRecDepth 1000000 in
theorem Te {w w2:World} {hi hj:Nat} {m:AP} {A1 A2 A3 A6 A7 A8:Option Addr} {c1 c2 c3 c6 c7 c8:Nat} (C:Hid (Ot w w2 hi hj m A1 c1 A2 c2 A3 c3 A6 c6 A7 c7 A8 c8)) {k:Nat} {wr:World} (hk:k≤m.types.length) (HP:Hid (PR w2 wr (kW m++(m.types.take k).flatMap Xm)))
 (s0 s2 s3 s4 s7 s11 s12 s13 Fw s15 s16 En EN GZ s20 Eo Ga EO s24 EP Ep Ea Eb Ec Ed E9 E_ FB FC FD FE s53 Gh Gi Gj Gl Gm Gn Gp Gq Gs Gt Gu Gv Ee Er s68 Fx Fy Fz s72 F4 F5 F6 F7 F8 F9 GA GD GH s82 s83 Gw Gx Gy s87 FH FI FJ FK FL FM FN FP FQ Gz G5 G6 BZ Ba Bb Bc Bd Bf Bg Bh Bj Bl Bn Bo Bp CS CU CV CW CX CY Bz B_ CB CF CG CJ BL BF BM BN BO BP BQ BR BS DX DY DZ Da Db Dc Df Dh Di Dj Dk Dl Dm Dn Dp Dq Cb Cc Ce Cg Ch Ci Cj Ck Cm Bt Cn Co Cq Cr Ct Cu Cv Cw Cx Cy Cz C8 C9 C_ DC Bu u8 u9 bX u40 MH u42 MI u44 u45 u46 MJ u48 u49 Ou u51 MK:Value) (K:Act→World→Prop) (Q:Exit→Act→World→Prop) (HK:Hid (∀(u8 u9 bX u40 MH u42 MI u44 u45 u46 MJ u48 u49 Ou u51 MK:Value) (wx:World),k<m.types.length→PR w2 wx (kW m++(m.types.take (k+1)).flatMap Xm)→K ⟨(List.toArray (s0::(.pointer (some ⟨w.heap.size,0,none⟩))::s2::s3::s4::(.pointer (some ⟨w2.heap.size,0,none⟩))::(.func (.func 28) #[] #[.pointer (some ⟨w2.heap.size,0,none⟩)])::s7::u8::u9::bX::s11::s12::s13::Fw::s15::s16::En::EN::GZ::s20::Eo::Ga::EO::s24::EP::Ep::Ea::Eb::Ec::Ed::E9::E_::FB::FC::FD::FE::(.slice A1 m.types.length c1)::(.int .i64 m.types.length)::(.int .i64 ((k:Int)+1))::u40::MH::u42::MI::u44::u45::u46::MJ::u48::u49::Ou::u51::MK::s53::Gh::Gi::Gj::Gl::Gm::Gn::Gp::Gq::Gs::Gt::Gu::Gv::Ee::Er::s68::Fx::Fy::Fz::s72::F4::F5::F6::F7::F8::F9::GA::GD::GH::s82::s83::Gw::Gx::Gy::s87::FH::FI::FJ::FK::FL::FM::FN::FP::FQ::Gz::G5::G6::BZ::Ba::Bb::Bc::Bd::Bf::Bg::Bh::Bj::Bl::Bn::Bo::Bp::CS::CU::CV::CW::CX::CY::Bz::B_::CB::CF::CG::CJ::BL::BF::BM::BN::BO::BP::BQ::BR::BS::DX::DY::DZ::Da::Db::Dc::Df::Dh::Di::Dj::Dk::Dl::Dm::Dn::Dp::Dq::Cb::Cc::Ce::Cg::Ch::Ci::Cj::Ck::Cm::Bt::Cn::Co::Cq::Cr::Ct::Cu::Cv::Cw::Cx::Cy::Cz::C8::C9::C_::DC::Bu:: [])),[]⟩ wx)) (HX:Hid (∀(u8 u9 bX u40 MH u42 MI u44 u45 u46 MJ u48 u49 Ou u51 MK:Value) (wx:World),PR w2 wx (bT m)→Q (.exit 0) ⟨(List.toArray (s0::(.pointer (some ⟨w.heap.size,0,none⟩))::s2::s3::s4::(.pointer (some ⟨w2.heap.size,0,none⟩))::(.func (.func 28) #[] #[.pointer (some ⟨w2.heap.size,0,none⟩)])::s7::u8::u9::bX::s11::s12::s13::Fw::s15::s16::En::EN::GZ::s20::Eo::Ga::EO::s24::EP::Ep::Ea::Eb::Ec::Ed::E9::E_::FB::FC::FD::FE::(.slice A1 m.types.length c1)::(.int .i64 m.types.length)::(.int .i64 m.types.length)::u40::MH::u42::MI::u44::u45::u46::MJ::u48::u49::Ou::u51::MK::s53::Gh::Gi::Gj::Gl::Gm::Gn::Gp::Gq::Gs::Gt::Gu::Gv::Ee::Er::s68::Fx::Fy::Fz::s72::F4::F5::F6::F7::F8::F9::GA::GD::GH::s82::s83::Gw::Gx::Gy::s87::FH::FI::FJ::FK::FL::FM::FN::FP::FQ::Gz::G5::G6::BZ::Ba::Bb::Bc::Bd::Bf::Bg::Bh::Bj::Bl::Bn::Bo::Bp::CS::CU::CV::CW::CX::CY::Bz::B_::CB::CF::CG::CJ::BL::BF::BM::BN::BO::BP::BQ::BR::BS::DX::DY::DZ::Da::Db::Dc::Df::Dh::Di::Dj::Dk::Dl::Dm::Dn::Dp::Dq::Cb::Cc::Ce::Cg::Ch::Ci::Cj::Ck::Cm::Bt::Cn::Co::Cq::Cr::Ct::Cu::Cv::Cw::Cx::Cy::Cz::C8::C9::C_::DC::Bu:: [])),[]⟩ wx)):
 Code.wp prog (I9 0) (Exit.then K Q) ⟨(List.toArray (s0::(.pointer (some ⟨w.heap.size,0,none⟩))::s2::s3::s4::(.pointer (some ⟨w2.heap.size,0,none⟩))::(.func (.func 28) #[] #[.pointer (some ⟨w2.heap.size,0,none⟩)])::s7::u8::u9::bX::s11::s12::s13::Fw::s15::s16::En::EN::GZ::s20::Eo::Ga::EO::s24::EP::Ep::Ea::Eb::Ec::Ed::E9::E_::FB::FC::FD::FE::(.slice A1 m.types.length c1)::(.int .i64 m.types.length)::(.int .i64 k)::u40::MH::u42::MI::u44::u45::u46::MJ::u48::u49::Ou::u51::MK::s53::Gh::Gi::Gj::Gl::Gm::Gn::Gp::Gq::Gs::Gt::Gu::Gv::Ee::Er::s68::Fx::Fy::Fz::s72::F4::F5::F6::F7::F8::F9::GA::GD::GH::s82::s83::Gw::Gx::Gy::s87::FH::FI::FJ::FK::FL::FM::FN::FP::FQ::Gz::G5::G6::BZ::Ba::Bb::Bc::Bd::Bf::Bg::Bh::Bj::Bl::Bn::Bo::Bp::CS::CU::CV::CW::CX::CY::Bz::B_::CB::CF::CG::CJ::BL::BF::BM::BN::BO::BP::BQ::BR::BS::DX::DY::DZ::Da::Db::Dc::Df::Dh::Di::Dj::Dk::Dl::Dm::Dn::Dp::Dq::Cb::Cc::Ce::Cg::Ch::Ci::Cj::Ck::Cm::Bt::Cn::Co::Cq::Cr::Ct::Cu::Cv::Cw::Cx::Cy::Cz::C8::C9::C_::DC::Bu:: [])),[]⟩ wr:=by
 conv=>arg 2;whnf
 have J_:=AA (C.out.IE.trans (HP.out.IE.mono C.out.IE.size))
 have hsz:w2.heap.size≤wr.heap.size:=HP.out.IE.size
 have hsw:w.heap.size<w2.heap.size:=C.out.lt
 have iK:w2.heap.size<wr.heap.size:=by obtain⟨_,_,hb⟩:=HP.out.YR;exact hb.blk.lt
 have hhi:=C.out.hhi
 have Ms:=C.out.Ms
 have hk0:(0:Int)≤k:=by omega
 by_cases hlt:k<m.types.length
 ·obtain⟨x,hx⟩: ∃x,m.types[k]?=some x:=⟨_,List.getElem?_eq_getElem hlt⟩
  have KU:decide ((k:Int)<m.types.length)=true:=decide_eq_true (by omega)
  have oq:m.types.length≤2147483647:=by have:=C.out.few;unfold Ap at this;omega
  obtain⟨bk,ok,rfl,_,Nw,hc0,hc1,ho0,ho1⟩:=KF (Rd.below C.out.h1 J_.out hhi) hx
  have NS:=AA (Jb (kW m) Xm hx)
  have MG:=AA (GL (kW m) Xm hx)
  have N8:(kW m++m.types.flatMap Xm).length≤1048576:=by have:=VN m C.out.le;first | exact this.2.1 | exact this.2.2.1 | exact this.2.2.2.1 | exact this.2.2.2.2.1 | exact this.2.2.2.2.2.1 | exact this.2.2.2.2.2.2.1 | exact this.2.2.2.2.2.2.2
  have uO:=AA (List.mem_of_getElem? hx)
  clear hx
  have HW:=AA (oo (C.out.fine.types x uO.out).1)
  clear HX
  go_wp2_with fail
  refine(aJ x.p x.r ho0 ho1 _).mono ?_
  rintro e w5 ⟨hb5,rfl⟩
  have hb5:Below wr.heap.size wr w5:=((Below.refl _ _).alloc (Nat.le_refl _) _).trans (hb5.mono (by simp))
  have hs5:wr.heap.size≤w5.heap.size:=hb5.size
  rw [HW.out]
  go_wp2_with fail
  refine(JM [M6,CK (Vm x)] [S_,Vm x] (by rw [List.map_cons,List.map_cons,List.map_nil];simp [CK];rfl) 2 rfl _ w5 (by simp) (HP.out.YR.below hb5) (by omega) (Nat.le_trans MG.out N8) (by decide)).mono ?_
  rintro e w6 ⟨rfl,hA,hB,hK⟩
  have Vk:=AA (PR.mk (HP.out.IE.trans ((hb5.mono hsz).trans hB)) (NS.out▸hA))
  clear hA hB hK
  go_wp2_with fail
  apply HK.out
  ·exact hlt
  ·exact Vk.out
 ·obtain rfl:k=m.types.length:=by omega
  have KU:decide ((m.types.length:Int)<m.types.length)=false:=decide_eq_false (by omega)
  have Zc:Hid (PR w2 wr (bT m)):=AA (by have:=HP.out;rw [List.take_length] at this;exact this)
  clear HP HK
  go_wp2_with fail
  apply HX.out
  exact Zc.out
set_option maxRecDepth 1000000 in
theorem jg {w w2:World} {hi hj:Nat} {m:AP} {A1 A2 A3 A6 A7 A8:Option Addr} {c1 c2 c3 c6 c7 c8:Nat} (C:Hid (Ot w w2 hi hj m A1 c1 A2 c2 A3 c3 A6 c6 A7 c7 A8 c8)) {wr:World} (HP:Hid (PR w2 wr (kW m)))
 (s0 s2 s3 s4 s7 s11 s12 s13 Fw s15 s16 En EN GZ s20 Eo Ga EO s24 EP Ep Ea Eb Ec Ed E9 E_ FB FC FD FE s53 Gh Gi Gj Gl Gm Gn Gp Gq Gs Gt Gu Gv Ee Er s68 Fx Fy Fz s72 F4 F5 F6 F7 F8 F9 GA GD GH s82 s83 Gw Gx Gy s87 FH FI FJ FK FL FM FN FP FQ Gz G5 G6 BZ Ba Bb Bc Bd Bf Bg Bh Bj Bl Bn Bo Bp CS CU CV CW CX CY Bz B_ CB CF CG CJ BL BF BM BN BO BP BQ BR BS DX DY DZ Da Db Dc Df Dh Di Dj Dk Dl Dm Dn Dp Dq Cb Cc Ce Cg Ch Ci Cj Ck Cm Bt Cn Co Cq Cr Ct Cu Cv Cw Cx Cy Cz C8 C9 C_ DC Bu u8 u9 bX u40 MH u42 MI u44 u45 u46 MJ u48 u49 Ou u51 MK:Value) (Q0:Exit→Act→World→Prop) (HX:Hid (∀(u8 u9 bX u40 MH u42 MI u44 u45 u46 MJ u48 u49 Ou u51 MK:Value) (wx:World),PR w2 wx (bT m)→Q0 (.exit 0) ⟨(List.toArray (s0::(.pointer (some ⟨w.heap.size,0,none⟩))::s2::s3::s4::(.pointer (some ⟨w2.heap.size,0,none⟩))::(.func (.func 28) #[] #[.pointer (some ⟨w2.heap.size,0,none⟩)])::s7::u8::u9::bX::s11::s12::s13::Fw::s15::s16::En::EN::GZ::s20::Eo::Ga::EO::s24::EP::Ep::Ea::Eb::Ec::Ed::E9::E_::FB::FC::FD::FE::(.slice A1 m.types.length c1)::(.int .i64 m.types.length)::(.int .i64 m.types.length)::u40::MH::u42::MI::u44::u45::u46::MJ::u48::u49::Ou::u51::MK::s53::Gh::Gi::Gj::Gl::Gm::Gn::Gp::Gq::Gs::Gt::Gu::Gv::Ee::Er::s68::Fx::Fy::Fz::s72::F4::F5::F6::F7::F8::F9::GA::GD::GH::s82::s83::Gw::Gx::Gy::s87::FH::FI::FJ::FK::FL::FM::FN::FP::FQ::Gz::G5::G6::BZ::Ba::Bb::Bc::Bd::Bf::Bg::Bh::Bj::Bl::Bn::Bo::Bp::CS::CU::CV::CW::CX::CY::Bz::B_::CB::CF::CG::CJ::BL::BF::BM::BN::BO::BP::BQ::BR::BS::DX::DY::DZ::Da::Db::Dc::Df::Dh::Di::Dj::Dk::Dl::Dm::Dn::Dp::Dq::Cb::Cc::Ce::Cg::Ch::Ci::Cj::Ck::Cm::Bt::Cn::Co::Cq::Cr::Ct::Cu::Cv::Cw::Cx::Cy::Cz::C8::C9::C_::DC::Bu:: [])),[]⟩ wx)):
 Code.wp prog (Code.loop (I9 0)) Q0 ⟨(List.toArray (s0::(.pointer (some ⟨w.heap.size,0,none⟩))::s2::s3::s4::(.pointer (some ⟨w2.heap.size,0,none⟩))::(.func (.func 28) #[] #[.pointer (some ⟨w2.heap.size,0,none⟩)])::s7::u8::u9::bX::s11::s12::s13::Fw::s15::s16::En::EN::GZ::s20::Eo::Ga::EO::s24::EP::Ep::Ea::Eb::Ec::Ed::E9::E_::FB::FC::FD::FE::(.slice A1 m.types.length c1)::(.int .i64 m.types.length)::(.int .i64 0)::u40::MH::u42::MI::u44::u45::u46::MJ::u48::u49::Ou::u51::MK::s53::Gh::Gi::Gj::Gl::Gm::Gn::Gp::Gq::Gs::Gt::Gu::Gv::Ee::Er::s68::Fx::Fy::Fz::s72::F4::F5::F6::F7::F8::F9::GA::GD::GH::s82::s83::Gw::Gx::Gy::s87::FH::FI::FJ::FK::FL::FM::FN::FP::FQ::Gz::G5::G6::BZ::Ba::Bb::Bc::Bd::Bf::Bg::Bh::Bj::Bl::Bn::Bo::Bp::CS::CU::CV::CW::CX::CY::Bz::B_::CB::CF::CG::CJ::BL::BF::BM::BN::BO::BP::BQ::BR::BS::DX::DY::DZ::Da::Db::Dc::Df::Dh::Di::Dj::Dk::Dl::Dm::Dn::Dp::Dq::Cb::Cc::Ce::Cg::Ch::Ci::Cj::Ck::Cm::Bt::Cn::Co::Cq::Cr::Ct::Cu::Cv::Cw::Cx::Cy::Cz::C8::C9::C_::DC::Bu:: [])),[]⟩ wr:=by
 refine wp_loop (fun a wx=> ∃(u8 u9 bX u40 MH u42 MI u44 u45 u46 MJ u48 u49 Ou u51 MK:Value) (k:Nat),k≤m.types.length∧PR w2 wx (kW m++(m.types.take k).flatMap Xm)∧a=⟨(List.toArray (s0::(.pointer (some ⟨w.heap.size,0,none⟩))::s2::s3::s4::(.pointer (some ⟨w2.heap.size,0,none⟩))::(.func (.func 28) #[] #[.pointer (some ⟨w2.heap.size,0,none⟩)])::s7::u8::u9::bX::s11::s12::s13::Fw::s15::s16::En::EN::GZ::s20::Eo::Ga::EO::s24::EP::Ep::Ea::Eb::Ec::Ed::E9::E_::FB::FC::FD::FE::(.slice A1 m.types.length c1)::(.int .i64 m.types.length)::(.int .i64 k)::u40::MH::u42::MI::u44::u45::u46::MJ::u48::u49::Ou::u51::MK::s53::Gh::Gi::Gj::Gl::Gm::Gn::Gp::Gq::Gs::Gt::Gu::Gv::Ee::Er::s68::Fx::Fy::Fz::s72::F4::F5::F6::F7::F8::F9::GA::GD::GH::s82::s83::Gw::Gx::Gy::s87::FH::FI::FJ::FK::FL::FM::FN::FP::FQ::Gz::G5::G6::BZ::Ba::Bb::Bc::Bd::Bf::Bg::Bh::Bj::Bl::Bn::Bo::Bp::CS::CU::CV::CW::CX::CY::Bz::B_::CB::CF::CG::CJ::BL::BF::BM::BN::BO::BP::BQ::BR::BS::DX::DY::DZ::Da::Db::Dc::Df::Dh::Di::Dj::Dk::Dl::Dm::Dn::Dp::Dq::Cb::Cc::Ce::Cg::Ch::Ci::Cj::Ck::Cm::Bt::Cn::Co::Cq::Cr::Ct::Cu::Cv::Cw::Cx::Cy::Cz::C8::C9::C_::DC::Bu:: [])),[]⟩) (fun a _=>m.types.length-(intOf (a.tmps.getD 39 undef)).toNat) ?_ ?_
 ·exact⟨u8,u9,bX,u40,MH,u42,MI,u44,u45,u46,MJ,u48,u49,Ou,u51,MK,0,Nat.zero_le _,by rw [List.take_zero,List.flatMap_nil,List.append_nil];exact HP.out,rfl⟩
 ·intro a wx hI
  obtain⟨u8,hI⟩:=hI
  obtain⟨u9,hI⟩:=hI
  obtain⟨bX,hI⟩:=hI
  obtain⟨u40,hI⟩:=hI
  obtain⟨MH,hI⟩:=hI
  obtain⟨u42,hI⟩:=hI
  obtain⟨MI,hI⟩:=hI
  obtain⟨u44,hI⟩:=hI
  obtain⟨u45,hI⟩:=hI
  obtain⟨u46,hI⟩:=hI
  obtain⟨MJ,hI⟩:=hI
  obtain⟨u48,hI⟩:=hI
  obtain⟨u49,hI⟩:=hI
  obtain⟨Ou,hI⟩:=hI
  obtain⟨u51,hI⟩:=hI
  obtain⟨MK,hI⟩:=hI
  obtain⟨k,hk,hp,rfl⟩:=hI
  refine Te C hk (AA hp) _ _ _ _ _ _ _ _ _ _ _ _ _ _ _ _ _ _ _ _ _ _ _ _ _ _ _ _ _ _ _ _ _ _ _ _ _ _ _ _ _ _ _ _ _ _ _ _ _ _ _ _ _ _ _ _ _ _ _ _ _ _ _ _ _ _ _ _ _ _ _ _ _ _ _ _ _ _ _ _ _ _ _ _ _ _ _ _ _ _ _ _ _ _ _ _ _ _ _ _ _ _ _ _ _ _ _ _ _ _ _ _ _ _ _ _ _ _ _ _ _ _ _ _ _ _ _ _ _ _ _ _ _ _ _ _ _ _ _ _ _ _ _ _ _ _ _ _ _ _ _ _ _ _ _ _ _ _ _ _ _ _ _ _ _ _ _ _ _ _ _ _ (AA ?_) HX
  intro u8 u9 bX u40 MH u42 MI u44 u45 u46 MJ u48 u49 Ou u51 MK wy hlt hp2
  refine⟨⟨u8,u9,bX,u40,MH,u42,MI,u44,u45,u46,MJ,u48,u49,Ou,u51,MK,k+1,hlt,hp2,rfl⟩,?_⟩
  show m.types.length-(intOf (.int .i64 ((k+1:Nat):Int))).toNat<m.types.length-(intOf (.int .i64 (k:Int))).toNat
  simp [intOf]
  omega
end Go.Proofs.YtejbcledkhioeaaGreatDoor
