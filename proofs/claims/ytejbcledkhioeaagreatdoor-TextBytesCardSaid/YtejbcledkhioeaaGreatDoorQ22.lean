/- Part 22 of the proof: RdrM -/
import Derived.Test.YtejbcledkhioeaaGreatDoorQ21
namespace Go.Proofs.YtejbcledkhioeaaGreatDoor
set_option linter.unusedVariables false
set_option linter.unusedSimpArgs false
set_option maxRecDepth 100000
set_option maxHeartbeats 4000000
open Go.RowKit Tryz
section
variable {B b hi M:Nat} {w:World} {r:Ka} {ln:Nat} {s:ByteArray}
theorem ig (h:kU B b hi M w r ln s) {t:List ByteArray} (hwd:DN s=Iy::t):
 Calls prog 59 #[.pointer (some ⟨b,0,none⟩),.string s,.map (some M)] w (Ei B b w ln (Ar r (DN s))):=by
 have hcall:=Ez s (by have:=h.sz;omega) w
 obtain⟨hws,hpos⟩:=Ey s
 have hsz:=h.sz
 rw [hwd] at hcall hws⊢
 have hlv:Ar r (Iy::t)=if Az 1 r.st=true then(Av 1 r.m t).map (fun m'=>(⟨m',1⟩:Ka)) else none:=by
  have hk:Dx Iy=1:=by kernel_rfl
  unfold Ar
  simp only [hk]
  rw [if_neg (by decide)]
 have TM:=AA hlv
 have HI:=AA h
 have hz0:((((Iy::t).length:Nat):Int)==0)=false:=by rw [beq_eq_false_iff_ne,List.length_cons];omega
 obtain⟨n,hn⟩: ∃n,n=(Iy::t).length:=⟨_,rfl⟩
 rw [←hn] at hz0
 have hn0:0<n:=by rw [hn,List.length_cons];omega
 have OV:=AA hn
 have EF:=AA hcall
 have ZL:=h.mlt
 have hhi:=h.hhi
 have QW:=AA h.map
 obtain⟨col,v1,v2,v3,v6,v7,v8,hr⟩:=h.rd.close
 have hlow:=hr.low
 have htop:=hr.top
 have HR:=AA hr
 clear hcall hlv h hr
 go_enter func59,ntmps59
 go_wp2_with fail
 refine EF.out.mono ?_
 clear EF
 rintro e w1 ⟨A,rfl,hA,ho,hb1⟩
 have hw1:=JI ho hA (List.cons_ne_nil _ _) (by omega)
 have q0:w1.cell? ⟨A,0,none⟩=some (.string ⟨#[102,108,97,103,111,110]⟩):=hw1.at_ 0 _ rfl
 have hlt1:=hw1.lt
 have hbl:=HR.out.blk.lt
 have hsz1:=hb1.size
 have g8:w1.cell? ⟨b,8,none⟩=some (.int .i64 r.st):=(hb1.cell (p:=⟨b,8,none⟩) hbl).trans (HR.out.blk.cell 8)
 have Fv:w1.heap[M]?=some (.map Gf 8):=(hb1.block M ZL).trans QW.out
 have KS:=KR (P:=prog) (W:=w1) (s:=⟨#[102,108,97,103,111,110]⟩) underlying108 underlying9 Fv (i:=0) (v:= .agg #[.int .i64 1,.func (.func 88) #[] #[]]) (by kernel_rfl)
 have HW1:=AA hw1;have HB1:=AA hb1
 rw [←OV.out]
 have Om:(((⟨#[102,108,97,103,111,110]⟩:ByteArray)[0].toNat:Int)==59)=false:=by decide
 clear hn ho hb1 hw1 Fv hws hpos hwd
 go_wp2_with fail
 generalize hw2:World.alloc _ _=w2
 have GY:Below w1.heap.size w1 w2:=by rw [←hw2];exact(Below.refl _ _).alloc (Nat.le_refl _) _
 have hx2:AL w2 w1.heap.size 148 [.int .i64 1,.func (.func 88) #[] #[]]:=by rw [←hw2];exact AL.new w1 _ [.int .i64 1,.func (.func 88) #[] #[]]
 obtain⟨h6,Qy⟩: ∃h6,h6=w1.heap.size:=⟨_,rfl⟩
 rw [←Qy] at hx2⊢
 have YP:w.heap.size≤h6:=by omega
 have HB2:=AA (HB1.out.trans (GY.mono hsz1))
 have HW2:=AA (HW1.out.below GY)
 have x0:=hx2.q 0 rfl
 have x1:=hx2.q 1 rfl
 have y8:w2.cell? ⟨b,8,none⟩=some (.int .i64 r.st):=(HB2.out.cell (p:=⟨b,8,none⟩) hbl).trans (HR.out.blk.cell 8)
 have z8:=(HR.out.blk.below HB2.out hbl).frozen 8
 have OU:=AA hx2
 clear hw2 GY hx2 Qy g8 q0 KS HW1 HB1
 have hbad:Az 1 r.st=false→Hid (Ar r (Iy::t)=none∧Keep (fun k=>k<B∧k≠b) w w2.drew∧w2.drew.cell? ⟨b,9,none⟩=some (.int .i64 ln)):=fun hf=>
  AA ⟨by rw [TM.out,hf];rfl,((Keep.Aq HB2.out).Dt (fun k hk _=>hk)).drew,(HB2.out.cell (p:=⟨b,9,none⟩) hbl).trans (HR.out.blk.cell 9)⟩
 have hN0:((⟨#[102,108,97,103,111,110]⟩:ByteArray)[0].toNat:Int)=102:=by decide
 rw [hN0]
 clear Om hN0
 by_cases hc:1<r.st
 case pos=>
  have HBAD:=hbad (by cases hb:Az 1 r.st with | false=>rfl | true=>exfalso;unfold Az at hb;simp at hb;omega)
  have d0:decide ((r.st:Int)≤1)=false:=decide_eq_false (by omega)
  clear hbad
  refine wp_region_held_drew (S:=fun W=>W.cell? ⟨h6,0,none⟩=some (.int .i64 1)∧W.cell? ⟨b,8,none⟩=some (.int .i64 r.st)) (by kernel_rfl) ⟨x0,y8⟩ (fun hHeld=> ?_)
  refine AB (i:=0) (v:= ?_) rfl (by kernel_rfl) (fun _ _ _ h=>h) (by intro w hSw;(try dsimp only at hSw);go_simp;try with_reducible rfl) hHeld ?_
  refine AB (i:=1) (v:= ?_) rfl (by kernel_rfl) (fun _ _ _ h=>h) (by intro w hSw;(try dsimp only at hSw);go_simp;try with_reducible rfl) hHeld ?_
  refine AB (i:=2) (v:= ?_) rfl (by kernel_rfl) (fun _ _ _ h=>h) (by intro w hSw;(try dsimp only at hSw);go_simp;try with_reducible rfl) hHeld ?_
  refine AB (i:=3) (v:= ?_) rfl (by kernel_rfl) (fun _ _ _ h=>h) (by intro w hSw;(try dsimp only at hSw);go_simp;try with_reducible rfl) hHeld ?_
  refine AB (i:=4) (v:= ?_) rfl (by kernel_rfl) (fun _ _ _ h=>h) (by intro w hSw;(try dsimp only at hSw);go_simp;try with_reducible rfl) hHeld ?_
  refine AB (i:=5) (v:= ?_) rfl (by kernel_rfl) (fun _ _ _ h=>h) (by intro w hSw;(try dsimp only at hSw);go_simp;try with_reducible rfl) hHeld ?_
  refine AB (i:=6) (v:= ?_) rfl (by kernel_rfl) (fun _ _ _ h=>h) (by intro w hSw;(try dsimp only at hSw);go_simp;try with_reducible rfl) hHeld ?_
  refine AB (i:=7) (v:= ?_) rfl (by kernel_rfl) (fun _ _ _ h=>h) (by intro w hSw;(try dsimp only at hSw);go_simp;try with_reducible rfl) hHeld ?_
  refine AJ (i:=8) rfl (by kernel_rfl) (fun _ _ _ h=>h) hHeld ?_
  refine AJ (i:=9) rfl (by kernel_rfl) (fun _ _ _ h=>h) hHeld ?_
  refine AJ (i:=10) rfl (by kernel_rfl) (fun _ _ _ h=>h) hHeld ?_
  refine AJ (i:=11) rfl (by kernel_rfl) (fun _ _ _ h=>h) hHeld ?_
  refine AJ (i:=12) rfl (by kernel_rfl) (fun _ _ _ h=>h) hHeld ?_
  refine AJ (i:=13) rfl (by kernel_rfl) (fun _ _ _ h=>h) hHeld ?_
  refine AJ (i:=14) rfl (by kernel_rfl) (fun _ _ _ h=>h) hHeld ?_
  refine AJ (i:=15) rfl (by kernel_rfl) (fun _ _ _ h=>h) hHeld ?_
  refine AJ (i:=16) rfl (by kernel_rfl) (fun _ _ _ h=>h) hHeld ?_
  refine AJ (i:=17) rfl (by kernel_rfl) (fun _ _ _ h=>h) hHeld ?_
  refine AJ (i:=18) rfl (by kernel_rfl) (fun _ _ _ h=>h) hHeld ?_
  refine AB (i:=19) (v:= ?_) rfl (by kernel_rfl) (fun _ _ _ h=>h) (by intro w hSw;(try dsimp only at hSw);go_simp;try with_reducible rfl) hHeld ?_
  refine wpAnyH_ready (rs:= [20]) (by kernel_rfl) (by simp) ?_
  refine AllReadyH.cons rfl (fun K hK=> ?_) AllReadyH.nil
  go_simp
  refine(AY _).mono ?_
  rintro e w3 ⟨rfl,rfl⟩
  go_wp2_with fail
  exact⟨rfl,HBAD.out.2.1,.inl ⟨HBAD.out.1,rfl,HBAD.out.2.2⟩⟩
 by_cases hc:r.st=1
 case pos=>
  have HBAD:=hbad (by cases hb:Az 1 r.st with | false=>rfl | true=>exfalso;unfold Az at hb;simp at hb;omega)
  have d0:decide ((r.st:Int)≤1)=true:=decide_eq_true (by omega)
  have d1:decide ((r.st:Int)<1)=false:=decide_eq_false (by omega)
  clear hbad
  refine wp_region_held_drew (S:=fun W=>W.cell? ⟨h6,0,none⟩=some (.int .i64 1)∧W.cell? ⟨b,8,none⟩=some (.int .i64 r.st)) (by kernel_rfl) ⟨x0,y8⟩ (fun hHeld=> ?_)
  refine AB (i:=0) (v:= ?_) rfl (by kernel_rfl) (fun _ _ _ h=>h) (by intro w hSw;(try dsimp only at hSw);go_simp;try with_reducible rfl) hHeld ?_
  refine AB (i:=1) (v:= ?_) rfl (by kernel_rfl) (fun _ _ _ h=>h) (by intro w hSw;(try dsimp only at hSw);go_simp;try with_reducible rfl) hHeld ?_
  refine AB (i:=2) (v:= ?_) rfl (by kernel_rfl) (fun _ _ _ h=>h) (by intro w hSw;(try dsimp only at hSw);go_simp;try with_reducible rfl) hHeld ?_
  refine AB (i:=3) (v:= ?_) rfl (by kernel_rfl) (fun _ _ _ h=>h) (by intro w hSw;(try dsimp only at hSw);go_simp;try with_reducible rfl) hHeld ?_
  refine AB (i:=4) (v:= ?_) rfl (by kernel_rfl) (fun _ _ _ h=>h) (by intro w hSw;(try dsimp only at hSw);go_simp;try with_reducible rfl) hHeld ?_
  refine AB (i:=5) (v:= ?_) rfl (by kernel_rfl) (fun _ _ _ h=>h) (by intro w hSw;(try dsimp only at hSw);go_simp;try with_reducible rfl) hHeld ?_
  refine AB (i:=6) (v:= ?_) rfl (by kernel_rfl) (fun _ _ _ h=>h) (by intro w hSw;(try dsimp only at hSw);go_simp;try with_reducible rfl) hHeld ?_
  refine AB (i:=7) (v:= ?_) rfl (by kernel_rfl) (fun _ _ _ h=>h) (by intro w hSw;(try dsimp only at hSw);go_simp;try with_reducible rfl) hHeld ?_
  refine AB (i:=8) (v:= ?_) rfl (by kernel_rfl) (fun _ _ _ h=>h) (by intro w hSw;(try dsimp only at hSw);go_simp;try with_reducible rfl) hHeld ?_
  refine AB (i:=9) (v:= ?_) rfl (by kernel_rfl) (fun _ _ _ h=>h) (by intro w hSw;(try dsimp only at hSw);go_simp;try with_reducible rfl) hHeld ?_
  refine AB (i:=10) (v:= ?_) rfl (by kernel_rfl) (fun _ _ _ h=>h) (by intro w hSw;(try dsimp only at hSw);go_simp;try with_reducible rfl) hHeld ?_
  refine AB (i:=11) (v:= ?_) rfl (by kernel_rfl) (fun _ _ _ h=>h) (by intro w hSw;(try dsimp only at hSw);go_simp;try with_reducible rfl) hHeld ?_
  refine AB (i:=12) (v:= ?_) rfl (by kernel_rfl) (fun _ _ _ h=>h) (by intro w hSw;(try dsimp only at hSw);go_simp;try with_reducible rfl) hHeld ?_
  refine AB (i:=13) (v:= ?_) rfl (by kernel_rfl) (fun _ _ _ h=>h) (by intro w hSw;(try dsimp only at hSw);go_simp;try with_reducible rfl) hHeld ?_
  refine AB (i:=14) (v:= ?_) rfl (by kernel_rfl) (fun _ _ _ h=>h) (by intro w hSw;(try dsimp only at hSw);go_simp;try with_reducible rfl) hHeld ?_
  refine AB (i:=15) (v:= ?_) rfl (by kernel_rfl) (fun _ _ _ h=>h) (by intro w hSw;(try dsimp only at hSw);go_simp;try with_reducible rfl) hHeld ?_
  refine AB (i:=16) (v:= ?_) rfl (by kernel_rfl) (fun _ _ _ h=>h) (by intro w hSw;(try dsimp only at hSw);go_simp;try with_reducible rfl) hHeld ?_
  refine AB (i:=17) (v:= ?_) rfl (by kernel_rfl) (fun _ _ _ h=>h) (by intro w hSw;(try dsimp only at hSw);go_simp;try with_reducible rfl) hHeld ?_
  refine AB (i:=18) (v:= ?_) rfl (by kernel_rfl) (fun _ _ _ h=>h) (by intro w hSw;(try dsimp only at hSw);go_simp;try with_reducible rfl) hHeld ?_
  refine AB (i:=19) (v:= ?_) rfl (by kernel_rfl) (fun _ _ _ h=>h) (by intro w hSw;(try dsimp only at hSw);go_simp;try with_reducible rfl) hHeld ?_
  refine wpAnyH_ready (rs:= [20]) (by kernel_rfl) (by simp) ?_
  refine AllReadyH.cons rfl (fun K hK=> ?_) AllReadyH.nil
  go_simp
  refine(AY _).mono ?_
  rintro e w3 ⟨rfl,rfl⟩
  go_wp2_with fail
  exact⟨rfl,HBAD.out.2.1,.inl ⟨HBAD.out.1,rfl,HBAD.out.2.2⟩⟩
 have d0:decide ((r.st:Int)≤1)=true:=decide_eq_true (by omega)
 have d1:decide ((r.st:Int)<1)=true:=decide_eq_true (by omega)
 have d2:((r.st:Int) !=0)=false:=by rw [bne_eq_false_iff_eq];omega
 have Qz:Hid (Ar r (Iy::t)=(Av 1 r.m t).map (fun m'=>(⟨m',1⟩:Ka))):=AA (by
  have ho:Az 1 r.st=true:=by
   cases hb:Az 1 r.st with
   | true=>rfl
   | false=>exfalso;unfold Az at hb;simp at hb;omega
  rw [TM.out,ho];rfl)
 clear hbad
 refine wp_region_held_drew (S:=fun W=>W.cell? ⟨h6,0,none⟩=some (.int .i64 1)∧W.cell? ⟨b,8,none⟩=some (.int .i64 r.st)) (by kernel_rfl) ⟨x0,y8⟩ (fun hHeld=> ?_)
 refine AB (i:=0) (v:= ?_) rfl (by kernel_rfl) (fun _ _ _ h=>h) (by intro w hSw;(try dsimp only at hSw);go_simp;try with_reducible rfl) hHeld ?_
 refine AB (i:=1) (v:= ?_) rfl (by kernel_rfl) (fun _ _ _ h=>h) (by intro w hSw;(try dsimp only at hSw);go_simp;try with_reducible rfl) hHeld ?_
 refine AB (i:=2) (v:= ?_) rfl (by kernel_rfl) (fun _ _ _ h=>h) (by intro w hSw;(try dsimp only at hSw);go_simp;try with_reducible rfl) hHeld ?_
 refine AB (i:=3) (v:= ?_) rfl (by kernel_rfl) (fun _ _ _ h=>h) (by intro w hSw;(try dsimp only at hSw);go_simp;try with_reducible rfl) hHeld ?_
 refine AB (i:=4) (v:= ?_) rfl (by kernel_rfl) (fun _ _ _ h=>h) (by intro w hSw;(try dsimp only at hSw);go_simp;try with_reducible rfl) hHeld ?_
 refine AB (i:=5) (v:= ?_) rfl (by kernel_rfl) (fun _ _ _ h=>h) (by intro w hSw;(try dsimp only at hSw);go_simp;try with_reducible rfl) hHeld ?_
 refine AB (i:=6) (v:= ?_) rfl (by kernel_rfl) (fun _ _ _ h=>h) (by intro w hSw;(try dsimp only at hSw);go_simp;try with_reducible rfl) hHeld ?_
 refine AB (i:=7) (v:= ?_) rfl (by kernel_rfl) (fun _ _ _ h=>h) (by intro w hSw;(try dsimp only at hSw);go_simp;try with_reducible rfl) hHeld ?_
 refine AB (i:=8) (v:= ?_) rfl (by kernel_rfl) (fun _ _ _ h=>h) (by intro w hSw;(try dsimp only at hSw);go_simp;try with_reducible rfl) hHeld ?_
 refine AB (i:=9) (v:= ?_) rfl (by kernel_rfl) (fun _ _ _ h=>h) (by intro w hSw;(try dsimp only at hSw);go_simp;try with_reducible rfl) hHeld ?_
 refine AB (i:=10) (v:= ?_) rfl (by kernel_rfl) (fun _ _ _ h=>h) (by intro w hSw;(try dsimp only at hSw);go_simp;try with_reducible rfl) hHeld ?_
 refine AB (i:=11) (v:= ?_) rfl (by kernel_rfl) (fun _ _ _ h=>h) (by intro w hSw;(try dsimp only at hSw);go_simp;try with_reducible rfl) hHeld ?_
 refine AB (i:=12) (v:= ?_) rfl (by kernel_rfl) (fun _ _ _ h=>h) (by intro w hSw;(try dsimp only at hSw);go_simp;try with_reducible rfl) hHeld ?_
 refine AB (i:=13) (v:= ?_) rfl (by kernel_rfl) (fun _ _ _ h=>h) (by intro w hSw;(try dsimp only at hSw);go_simp;try with_reducible rfl) hHeld ?_
 refine AB (i:=14) (v:= ?_) rfl (by kernel_rfl) (fun _ _ _ h=>h) (by intro w hSw;(try dsimp only at hSw);go_simp;try with_reducible rfl) hHeld ?_
 refine AB (i:=15) (v:= ?_) rfl (by kernel_rfl) (fun _ _ _ h=>h) (by intro w hSw;(try dsimp only at hSw);go_simp;try with_reducible rfl) hHeld ?_
 refine AB (i:=16) (v:= ?_) rfl (by kernel_rfl) (fun _ _ _ h=>h) (by intro w hSw;(try dsimp only at hSw);go_simp;try with_reducible rfl) hHeld ?_
 refine AB (i:=17) (v:= ?_) rfl (by kernel_rfl) (fun _ _ _ h=>h) (by intro w hSw;(try dsimp only at hSw);go_simp;try with_reducible rfl) hHeld ?_
 refine AB (i:=18) (v:= ?_) rfl (by kernel_rfl) (fun _ _ _ h=>h) (by intro w hSw;(try dsimp only at hSw);go_simp;try with_reducible rfl) hHeld ?_
 refine AB (i:=19) (v:= ?_) rfl (by kernel_rfl) (fun _ _ _ h=>h) (by intro w hSw;(try dsimp only at hSw);go_simp;try with_reducible rfl) hHeld ?_
 refine wpAnyH_ready (rs:= [20]) (by kernel_rfl) (by simp) ?_
 refine AllReadyH.cons rfl (fun K hK=> ?_) AllReadyH.nil
 go_simp
 refine(AO _).mono ?_
 rintro e w3 ⟨rfl,rfl⟩
 refine hK.out _ _ ⟨x0,y8⟩ (fun Ag=> ?_)
 clear hK K
 refine wpAnyH_done (by kernel_rfl) ?_ _
 clear hHeld Ag
 go_wp2_with fail
 refine(AO _).mono ?_
 rintro e w3 ⟨rfl,rfl⟩
 go_wp2_with fail
 refine(AO _).mono ?_
 rintro e w3 ⟨rfl,rfl⟩
 go_upto_region 10 with fail
 have SK:OL B b (w2.setCell ⟨b,8,none⟩ (.int .i64 (1:Nat))).drew _ v1 v2 v3 v6 v7 v8 r.m 1 ln:=((HR.out.below HB2.out).stage 1).below ((Below.refl _ _).drew)
 have hx5:AL (w2.setCell ⟨b,8,none⟩ (.int .i64 (1:Nat))).drew h6 148 [.int .i64 1,.func (.func 88) #[] #[]]:=(OU.out.far (p:=⟨b,8,none⟩) (by show h6≠b;omega) _).drewN 1
 have U6:Keep (fun k=>k<B∧k≠b) w (w2.setCell ⟨b,8,none⟩ (.int .i64 (1:Nat))).drew:=(((Keep.Aq HB2.out).Dt (fun k hk _=>hk)).setCell (p:=⟨b,8,none⟩) (fun e=>e.2 rfl) _).drew
 have U7:ED (w2.setCell ⟨b,8,none⟩ (.int .i64 (1:Nat))).drew A (Iy::t):=(HW2.out.keep (K:=fun k=>k≠b) (((Keep.refl _ w2).setCell (p:=⟨b,8,none⟩) (fun e=>e rfl) _).drew) (by omega))
 have U8:Dv hi (w2.setCell ⟨b,8,none⟩ (.int .i64 (1:Nat))).drew:=HI.out.env.to (((HB2.out.mono (show hi≤w.heap.size by omega)).setCell (p:=⟨b,8,none⟩) hhi _).drew)
 generalize World.drew (w2.setCell _ _)=w5 at*
 have x1:=hx5.q 1 rfl
 have Pw:=AA SK;have Qf:=AA U6;have bF:=AA U7;have bG:=AA U8
 clear SK U6 U7 U8 hx5 x0 y8 z8 OU HW2
 go_wp2_with fail
 rw [OV.out]
 refine(mZ ⟨Pw.out,bF.out,bG.out,hhi,HI.out.lens,by omega⟩ (List.cons_ne_nil _ _)).mono ?_
 rintro e w6 hm
 have hpost:Ei B b w ln (Ar r (Iy::t)) e w6:=by
  rcases hm with⟨h1,h2,h3⟩ | ⟨m',h1,h2,h3,h4⟩
  ·refine⟨Qf.out.trans ((Keep.Aq h3).Dt (fun k hk _=>hk)),.inl ⟨?_,h2,(h3.cell (p:=⟨b,9,none⟩) Pw.out.blk.lt).trans (Pw.out.blk.cell 9)⟩⟩
   rw [Qz.out];rw [List.tail_cons] at h1;rw [h1];rfl
  ·refine⟨Qf.out.trans h3,.inr ⟨⟨m',1⟩,?_,h2,?_⟩⟩
   ·rw [Qz.out];rw [List.tail_cons] at h1;rw [h1];rfl
   ·exact .inl ⟨(show(1:Nat)≠6 by decide),h4⟩
 have HP:=AA hpost
 rcases hm with⟨_,rfl,_⟩ | ⟨m',_,rfl,_,_⟩
 ·go_wp2_with fail
  exact⟨rfl,HP.out⟩
 ·go_wp2_with fail
  go_end0
  exact HP.out
theorem iq (h:kU B b hi M w r ln s) {t:List ByteArray} (hwd:DN s=M6::t):
 Calls prog 59 #[.pointer (some ⟨b,0,none⟩),.string s,.map (some M)] w (Ei B b w ln (Ar r (DN s))):=by
 have hcall:=Ez s (by have:=h.sz;omega) w
 obtain⟨hws,hpos⟩:=Ey s
 have hsz:=h.sz
 rw [hwd] at hcall hws⊢
 have hlv:Ar r (M6::t)=if Az 2 r.st=true then(Av 2 r.m t).map (fun m'=>(⟨m',2⟩:Ka)) else none:=by
  have hk:Dx M6=2:=by kernel_rfl
  unfold Ar
  simp only [hk]
  rw [if_neg (by decide)]
 have TM:=AA hlv
 have HI:=AA h
 have hz0:((((M6::t).length:Nat):Int)==0)=false:=by rw [beq_eq_false_iff_ne,List.length_cons];omega
 obtain⟨n,hn⟩: ∃n,n=(M6::t).length:=⟨_,rfl⟩
 rw [←hn] at hz0
 have hn0:0<n:=by rw [hn,List.length_cons];omega
 have OV:=AA hn
 have EF:=AA hcall
 have ZL:=h.mlt
 have hhi:=h.hhi
 have QW:=AA h.map
 obtain⟨col,v1,v2,v3,v6,v7,v8,hr⟩:=h.rd.close
 have hlow:=hr.low
 have htop:=hr.top
 have HR:=AA hr
 clear hcall hlv h hr
 go_enter func59,ntmps59
 go_wp2_with fail
 refine EF.out.mono ?_
 clear EF
 rintro e w1 ⟨A,rfl,hA,ho,hb1⟩
 have hw1:=JI ho hA (List.cons_ne_nil _ _) (by omega)
 have q0:w1.cell? ⟨A,0,none⟩=some (.string ⟨#[116,121,112,101]⟩):=hw1.at_ 0 _ rfl
 have hlt1:=hw1.lt
 have hbl:=HR.out.blk.lt
 have hsz1:=hb1.size
 have g8:w1.cell? ⟨b,8,none⟩=some (.int .i64 r.st):=(hb1.cell (p:=⟨b,8,none⟩) hbl).trans (HR.out.blk.cell 8)
 have Fv:w1.heap[M]?=some (.map Gf 8):=(hb1.block M ZL).trans QW.out
 have KS:=KR (P:=prog) (W:=w1) (s:=⟨#[116,121,112,101]⟩) underlying108 underlying9 Fv (i:=1) (v:= .agg #[.int .i64 2,.func (.func 89) #[] #[]]) (by kernel_rfl)
 have HW1:=AA hw1;have HB1:=AA hb1
 rw [←OV.out]
 have Om:(((⟨#[116,121,112,101]⟩:ByteArray)[0].toNat:Int)==59)=false:=by decide
 clear hn ho hb1 hw1 Fv hws hpos hwd
 go_wp2_with fail
 generalize hw2:World.alloc _ _=w2
 have GY:Below w1.heap.size w1 w2:=by rw [←hw2];exact(Below.refl _ _).alloc (Nat.le_refl _) _
 have hx2:AL w2 w1.heap.size 148 [.int .i64 2,.func (.func 89) #[] #[]]:=by rw [←hw2];exact AL.new w1 _ [.int .i64 2,.func (.func 89) #[] #[]]
 obtain⟨h6,Qy⟩: ∃h6,h6=w1.heap.size:=⟨_,rfl⟩
 rw [←Qy] at hx2⊢
 have YP:w.heap.size≤h6:=by omega
 have HB2:=AA (HB1.out.trans (GY.mono hsz1))
 have HW2:=AA (HW1.out.below GY)
 have x0:=hx2.q 0 rfl
 have x1:=hx2.q 1 rfl
 have y8:w2.cell? ⟨b,8,none⟩=some (.int .i64 r.st):=(HB2.out.cell (p:=⟨b,8,none⟩) hbl).trans (HR.out.blk.cell 8)
 have z8:=(HR.out.blk.below HB2.out hbl).frozen 8
 have OU:=AA hx2
 clear hw2 GY hx2 Qy g8 q0 KS HW1 HB1
 have hbad:Az 2 r.st=false→Hid (Ar r (M6::t)=none∧Keep (fun k=>k<B∧k≠b) w w2.drew∧w2.drew.cell? ⟨b,9,none⟩=some (.int .i64 ln)):=fun hf=>
  AA ⟨by rw [TM.out,hf];rfl,((Keep.Aq HB2.out).Dt (fun k hk _=>hk)).drew,(HB2.out.cell (p:=⟨b,9,none⟩) hbl).trans (HR.out.blk.cell 9)⟩
 have hN0:((⟨#[116,121,112,101]⟩:ByteArray)[0].toNat:Int)=116:=by decide
 rw [hN0]
 clear Om hN0
 by_cases hc:2<r.st
 case pos=>
  have HBAD:=hbad (by cases hb:Az 2 r.st with | false=>rfl | true=>exfalso;unfold Az at hb;simp at hb;omega)
  have d0:decide ((r.st:Int)≤2)=false:=decide_eq_false (by omega)
  clear hbad
  refine wp_region_held_drew (S:=fun W=>W.cell? ⟨h6,0,none⟩=some (.int .i64 2)∧W.cell? ⟨b,8,none⟩=some (.int .i64 r.st)) (by kernel_rfl) ⟨x0,y8⟩ (fun hHeld=> ?_)
  refine AB (i:=0) (v:= ?_) rfl (by kernel_rfl) (fun _ _ _ h=>h) (by intro w hSw;(try dsimp only at hSw);go_simp;try with_reducible rfl) hHeld ?_
  refine AB (i:=1) (v:= ?_) rfl (by kernel_rfl) (fun _ _ _ h=>h) (by intro w hSw;(try dsimp only at hSw);go_simp;try with_reducible rfl) hHeld ?_
  refine AB (i:=2) (v:= ?_) rfl (by kernel_rfl) (fun _ _ _ h=>h) (by intro w hSw;(try dsimp only at hSw);go_simp;try with_reducible rfl) hHeld ?_
  refine AB (i:=3) (v:= ?_) rfl (by kernel_rfl) (fun _ _ _ h=>h) (by intro w hSw;(try dsimp only at hSw);go_simp;try with_reducible rfl) hHeld ?_
  refine AB (i:=4) (v:= ?_) rfl (by kernel_rfl) (fun _ _ _ h=>h) (by intro w hSw;(try dsimp only at hSw);go_simp;try with_reducible rfl) hHeld ?_
  refine AB (i:=5) (v:= ?_) rfl (by kernel_rfl) (fun _ _ _ h=>h) (by intro w hSw;(try dsimp only at hSw);go_simp;try with_reducible rfl) hHeld ?_
  refine AB (i:=6) (v:= ?_) rfl (by kernel_rfl) (fun _ _ _ h=>h) (by intro w hSw;(try dsimp only at hSw);go_simp;try with_reducible rfl) hHeld ?_
  refine AB (i:=7) (v:= ?_) rfl (by kernel_rfl) (fun _ _ _ h=>h) (by intro w hSw;(try dsimp only at hSw);go_simp;try with_reducible rfl) hHeld ?_
  refine AJ (i:=8) rfl (by kernel_rfl) (fun _ _ _ h=>h) hHeld ?_
  refine AJ (i:=9) rfl (by kernel_rfl) (fun _ _ _ h=>h) hHeld ?_
  refine AJ (i:=10) rfl (by kernel_rfl) (fun _ _ _ h=>h) hHeld ?_
  refine AJ (i:=11) rfl (by kernel_rfl) (fun _ _ _ h=>h) hHeld ?_
  refine AJ (i:=12) rfl (by kernel_rfl) (fun _ _ _ h=>h) hHeld ?_
  refine AJ (i:=13) rfl (by kernel_rfl) (fun _ _ _ h=>h) hHeld ?_
  refine AJ (i:=14) rfl (by kernel_rfl) (fun _ _ _ h=>h) hHeld ?_
  refine AJ (i:=15) rfl (by kernel_rfl) (fun _ _ _ h=>h) hHeld ?_
  refine AJ (i:=16) rfl (by kernel_rfl) (fun _ _ _ h=>h) hHeld ?_
  refine AJ (i:=17) rfl (by kernel_rfl) (fun _ _ _ h=>h) hHeld ?_
  refine AJ (i:=18) rfl (by kernel_rfl) (fun _ _ _ h=>h) hHeld ?_
  refine AB (i:=19) (v:= ?_) rfl (by kernel_rfl) (fun _ _ _ h=>h) (by intro w hSw;(try dsimp only at hSw);go_simp;try with_reducible rfl) hHeld ?_
  refine wpAnyH_ready (rs:= [20]) (by kernel_rfl) (by simp) ?_
  refine AllReadyH.cons rfl (fun K hK=> ?_) AllReadyH.nil
  go_simp
  refine(AY _).mono ?_
  rintro e w3 ⟨rfl,rfl⟩
  go_wp2_with fail
  exact⟨rfl,HBAD.out.2.1,.inl ⟨HBAD.out.1,rfl,HBAD.out.2.2⟩⟩
 by_cases hc:r.st=0
 case pos=>
  have HBAD:=hbad (by cases hb:Az 2 r.st with | false=>rfl | true=>exfalso;unfold Az at hb;simp at hb;omega)
  have d0:decide ((r.st:Int)≤2)=true:=decide_eq_true (by omega)
  have d1:((r.st:Int) !=0)=false:=by rw [bne_eq_false_iff_eq];omega
  clear hbad
  refine wp_region_held_drew (S:=fun W=>W.cell? ⟨h6,0,none⟩=some (.int .i64 2)∧W.cell? ⟨b,8,none⟩=some (.int .i64 r.st)) (by kernel_rfl) ⟨x0,y8⟩ (fun hHeld=> ?_)
  refine AB (i:=0) (v:= ?_) rfl (by kernel_rfl) (fun _ _ _ h=>h) (by intro w hSw;(try dsimp only at hSw);go_simp;try with_reducible rfl) hHeld ?_
  refine AB (i:=1) (v:= ?_) rfl (by kernel_rfl) (fun _ _ _ h=>h) (by intro w hSw;(try dsimp only at hSw);go_simp;try with_reducible rfl) hHeld ?_
  refine AB (i:=2) (v:= ?_) rfl (by kernel_rfl) (fun _ _ _ h=>h) (by intro w hSw;(try dsimp only at hSw);go_simp;try with_reducible rfl) hHeld ?_
  refine AB (i:=3) (v:= ?_) rfl (by kernel_rfl) (fun _ _ _ h=>h) (by intro w hSw;(try dsimp only at hSw);go_simp;try with_reducible rfl) hHeld ?_
  refine AB (i:=4) (v:= ?_) rfl (by kernel_rfl) (fun _ _ _ h=>h) (by intro w hSw;(try dsimp only at hSw);go_simp;try with_reducible rfl) hHeld ?_
  refine AB (i:=5) (v:= ?_) rfl (by kernel_rfl) (fun _ _ _ h=>h) (by intro w hSw;(try dsimp only at hSw);go_simp;try with_reducible rfl) hHeld ?_
  refine AB (i:=6) (v:= ?_) rfl (by kernel_rfl) (fun _ _ _ h=>h) (by intro w hSw;(try dsimp only at hSw);go_simp;try with_reducible rfl) hHeld ?_
  refine AB (i:=7) (v:= ?_) rfl (by kernel_rfl) (fun _ _ _ h=>h) (by intro w hSw;(try dsimp only at hSw);go_simp;try with_reducible rfl) hHeld ?_
  refine AB (i:=8) (v:= ?_) rfl (by kernel_rfl) (fun _ _ _ h=>h) (by intro w hSw;(try dsimp only at hSw);go_simp;try with_reducible rfl) hHeld ?_
  refine AB (i:=9) (v:= ?_) rfl (by kernel_rfl) (fun _ _ _ h=>h) (by intro w hSw;(try dsimp only at hSw);go_simp;try with_reducible rfl) hHeld ?_
  refine AB (i:=10) (v:= ?_) rfl (by kernel_rfl) (fun _ _ _ h=>h) (by intro w hSw;(try dsimp only at hSw);go_simp;try with_reducible rfl) hHeld ?_
  refine AJ (i:=11) rfl (by kernel_rfl) (fun _ _ _ h=>h) hHeld ?_
  refine AJ (i:=12) rfl (by kernel_rfl) (fun _ _ _ h=>h) hHeld ?_
  refine AJ (i:=13) rfl (by kernel_rfl) (fun _ _ _ h=>h) hHeld ?_
  refine AJ (i:=14) rfl (by kernel_rfl) (fun _ _ _ h=>h) hHeld ?_
  refine AJ (i:=15) rfl (by kernel_rfl) (fun _ _ _ h=>h) hHeld ?_
  refine AJ (i:=16) rfl (by kernel_rfl) (fun _ _ _ h=>h) hHeld ?_
  refine AJ (i:=17) rfl (by kernel_rfl) (fun _ _ _ h=>h) hHeld ?_
  refine AB (i:=18) (v:= ?_) rfl (by kernel_rfl) (fun _ _ _ h=>h) (by intro w hSw;(try dsimp only at hSw);go_simp;try with_reducible rfl) hHeld ?_
  refine AB (i:=19) (v:= ?_) rfl (by kernel_rfl) (fun _ _ _ h=>h) (by intro w hSw;(try dsimp only at hSw);go_simp;try with_reducible rfl) hHeld ?_
  refine wpAnyH_ready (rs:= [20]) (by kernel_rfl) (by simp) ?_
  refine AllReadyH.cons rfl (fun K hK=> ?_) AllReadyH.nil
  go_simp
  refine(AO _).mono ?_
  rintro e w3 ⟨rfl,rfl⟩
  refine hK.out _ _ ⟨x0,y8⟩ (fun Ag=> ?_)
  clear hK K
  refine wpAnyH_done (by kernel_rfl) ?_ _
  clear hHeld Ag
  go_wp2_with fail
  refine(AY _).mono ?_
  rintro e w3 ⟨rfl,rfl⟩
  go_wp2_with fail
  exact⟨rfl,HBAD.out.2.1,.inl ⟨HBAD.out.1,rfl,HBAD.out.2.2⟩⟩
 have d0:decide ((r.st:Int)≤2)=true:=decide_eq_true (by omega)
 have d1:((r.st:Int) !=0)=true:=by rw [bne_iff_ne];omega
 have Qz:Hid (Ar r (M6::t)=(Av 2 r.m t).map (fun m'=>(⟨m',2⟩:Ka))):=AA (by
  have ho:Az 2 r.st=true:=by
   cases hb:Az 2 r.st with
   | true=>rfl
   | false=>exfalso;unfold Az at hb;simp at hb;omega
  rw [TM.out,ho];rfl)
 clear hbad
 refine wp_region_held_drew (S:=fun W=>W.cell? ⟨h6,0,none⟩=some (.int .i64 2)∧W.cell? ⟨b,8,none⟩=some (.int .i64 r.st)) (by kernel_rfl) ⟨x0,y8⟩ (fun hHeld=> ?_)
 refine AB (i:=0) (v:= ?_) rfl (by kernel_rfl) (fun _ _ _ h=>h) (by intro w hSw;(try dsimp only at hSw);go_simp;try with_reducible rfl) hHeld ?_
 refine AB (i:=1) (v:= ?_) rfl (by kernel_rfl) (fun _ _ _ h=>h) (by intro w hSw;(try dsimp only at hSw);go_simp;try with_reducible rfl) hHeld ?_
 refine AB (i:=2) (v:= ?_) rfl (by kernel_rfl) (fun _ _ _ h=>h) (by intro w hSw;(try dsimp only at hSw);go_simp;try with_reducible rfl) hHeld ?_
 refine AB (i:=3) (v:= ?_) rfl (by kernel_rfl) (fun _ _ _ h=>h) (by intro w hSw;(try dsimp only at hSw);go_simp;try with_reducible rfl) hHeld ?_
 refine AB (i:=4) (v:= ?_) rfl (by kernel_rfl) (fun _ _ _ h=>h) (by intro w hSw;(try dsimp only at hSw);go_simp;try with_reducible rfl) hHeld ?_
 refine AB (i:=5) (v:= ?_) rfl (by kernel_rfl) (fun _ _ _ h=>h) (by intro w hSw;(try dsimp only at hSw);go_simp;try with_reducible rfl) hHeld ?_
 refine AB (i:=6) (v:= ?_) rfl (by kernel_rfl) (fun _ _ _ h=>h) (by intro w hSw;(try dsimp only at hSw);go_simp;try with_reducible rfl) hHeld ?_
 refine AB (i:=7) (v:= ?_) rfl (by kernel_rfl) (fun _ _ _ h=>h) (by intro w hSw;(try dsimp only at hSw);go_simp;try with_reducible rfl) hHeld ?_
 refine AB (i:=8) (v:= ?_) rfl (by kernel_rfl) (fun _ _ _ h=>h) (by intro w hSw;(try dsimp only at hSw);go_simp;try with_reducible rfl) hHeld ?_
 refine AB (i:=9) (v:= ?_) rfl (by kernel_rfl) (fun _ _ _ h=>h) (by intro w hSw;(try dsimp only at hSw);go_simp;try with_reducible rfl) hHeld ?_
 refine AB (i:=10) (v:= ?_) rfl (by kernel_rfl) (fun _ _ _ h=>h) (by intro w hSw;(try dsimp only at hSw);go_simp;try with_reducible rfl) hHeld ?_
 refine AJ (i:=11) rfl (by kernel_rfl) (fun _ _ _ h=>h) hHeld ?_
 refine AJ (i:=12) rfl (by kernel_rfl) (fun _ _ _ h=>h) hHeld ?_
 refine AJ (i:=13) rfl (by kernel_rfl) (fun _ _ _ h=>h) hHeld ?_
 refine AJ (i:=14) rfl (by kernel_rfl) (fun _ _ _ h=>h) hHeld ?_
 refine AJ (i:=15) rfl (by kernel_rfl) (fun _ _ _ h=>h) hHeld ?_
 refine AJ (i:=16) rfl (by kernel_rfl) (fun _ _ _ h=>h) hHeld ?_
 refine AJ (i:=17) rfl (by kernel_rfl) (fun _ _ _ h=>h) hHeld ?_
 refine AB (i:=18) (v:= ?_) rfl (by kernel_rfl) (fun _ _ _ h=>h) (by intro w hSw;(try dsimp only at hSw);go_simp;try with_reducible rfl) hHeld ?_
 refine AB (i:=19) (v:= ?_) rfl (by kernel_rfl) (fun _ _ _ h=>h) (by intro w hSw;(try dsimp only at hSw);go_simp;try with_reducible rfl) hHeld ?_
 refine wpAnyH_ready (rs:= [20]) (by kernel_rfl) (by simp) ?_
 refine AllReadyH.cons rfl (fun K hK=> ?_) AllReadyH.nil
 go_simp
 refine(AO _).mono ?_
 rintro e w3 ⟨rfl,rfl⟩
 refine hK.out _ _ ⟨x0,y8⟩ (fun Ag=> ?_)
 clear hK K
 refine wpAnyH_done (by kernel_rfl) ?_ _
 clear hHeld Ag
 go_wp2_with fail
 refine(AO _).mono ?_
 rintro e w3 ⟨rfl,rfl⟩
 go_wp2_with fail
 refine(AO _).mono ?_
 rintro e w3 ⟨rfl,rfl⟩
 go_upto_region 10 with fail
 have SK:OL B b (w2.setCell ⟨b,8,none⟩ (.int .i64 (2:Nat))).drew _ v1 v2 v3 v6 v7 v8 r.m 2 ln:=((HR.out.below HB2.out).stage 2).below ((Below.refl _ _).drew)
 have hx5:AL (w2.setCell ⟨b,8,none⟩ (.int .i64 (2:Nat))).drew h6 148 [.int .i64 2,.func (.func 89) #[] #[]]:=(OU.out.far (p:=⟨b,8,none⟩) (by show h6≠b;omega) _).drewN 1
 have U6:Keep (fun k=>k<B∧k≠b) w (w2.setCell ⟨b,8,none⟩ (.int .i64 (2:Nat))).drew:=(((Keep.Aq HB2.out).Dt (fun k hk _=>hk)).setCell (p:=⟨b,8,none⟩) (fun e=>e.2 rfl) _).drew
 have U7:ED (w2.setCell ⟨b,8,none⟩ (.int .i64 (2:Nat))).drew A (M6::t):=(HW2.out.keep (K:=fun k=>k≠b) (((Keep.refl _ w2).setCell (p:=⟨b,8,none⟩) (fun e=>e rfl) _).drew) (by omega))
 have U8:Dv hi (w2.setCell ⟨b,8,none⟩ (.int .i64 (2:Nat))).drew:=HI.out.env.to (((HB2.out.mono (show hi≤w.heap.size by omega)).setCell (p:=⟨b,8,none⟩) hhi _).drew)
 generalize World.drew (w2.setCell _ _)=w5 at*
 have x1:=hx5.q 1 rfl
 have Pw:=AA SK;have Qf:=AA U6;have bF:=AA U7;have bG:=AA U8
 clear SK U6 U7 U8 hx5 x0 y8 z8 OU HW2
 go_wp2_with fail
 rw [OV.out]
 refine(mq ⟨Pw.out,bF.out,bG.out,hhi,HI.out.lens,by omega⟩ (List.cons_ne_nil _ _)).mono ?_
 rintro e w6 hm
 have hpost:Ei B b w ln (Ar r (M6::t)) e w6:=by
  rcases hm with⟨h1,h2,h3⟩ | ⟨m',h1,h2,h3,h4⟩
  ·refine⟨Qf.out.trans ((Keep.Aq h3).Dt (fun k hk _=>hk)),.inl ⟨?_,h2,(h3.cell (p:=⟨b,9,none⟩) Pw.out.blk.lt).trans (Pw.out.blk.cell 9)⟩⟩
   rw [Qz.out];rw [List.tail_cons] at h1;rw [h1];rfl
  ·refine⟨Qf.out.trans h3,.inr ⟨⟨m',2⟩,?_,h2,?_⟩⟩
   ·rw [Qz.out];rw [List.tail_cons] at h1;rw [h1];rfl
   ·exact .inl ⟨(show(2:Nat)≠6 by decide),h4⟩
 have HP:=AA hpost
 rcases hm with⟨_,rfl,_⟩ | ⟨m',_,rfl,_,_⟩
 ·go_wp2_with fail
  exact⟨rfl,HP.out⟩
 ·go_wp2_with fail
  go_end0
  exact HP.out
theorem iw (h:kU B b hi M w r ln s) {t:List ByteArray} (hwd:DN s=Iz::t):
 Calls prog 59 #[.pointer (some ⟨b,0,none⟩),.string s,.map (some M)] w (Ei B b w ln (Ar r (DN s))):=by
 have hcall:=Ez s (by have:=h.sz;omega) w
 obtain⟨hws,hpos⟩:=Ey s
 have hsz:=h.sz
 rw [hwd] at hcall hws⊢
 have hlv:Ar r (Iz::t)=if Az 3 r.st=true then(Av 3 r.m t).map (fun m'=>(⟨m',3⟩:Ka)) else none:=by
  have hk:Dx Iz=3:=by kernel_rfl
  unfold Ar
  simp only [hk]
  rw [if_neg (by decide)]
 have TM:=AA hlv
 have HI:=AA h
 have hz0:((((Iz::t).length:Nat):Int)==0)=false:=by rw [beq_eq_false_iff_ne,List.length_cons];omega
 obtain⟨n,hn⟩: ∃n,n=(Iz::t).length:=⟨_,rfl⟩
 rw [←hn] at hz0
 have hn0:0<n:=by rw [hn,List.length_cons];omega
 have OV:=AA hn
 have EF:=AA hcall
 have ZL:=h.mlt
 have hhi:=h.hhi
 have QW:=AA h.map
 obtain⟨col,v1,v2,v3,v6,v7,v8,hr⟩:=h.rd.close
 have hlow:=hr.low
 have htop:=hr.top
 have HR:=AA hr
 clear hcall hlv h hr
 go_enter func59,ntmps59
 go_wp2_with fail
 refine EF.out.mono ?_
 clear EF
 rintro e w1 ⟨A,rfl,hA,ho,hb1⟩
 have hw1:=JI ho hA (List.cons_ne_nil _ _) (by omega)
 have q0:w1.cell? ⟨A,0,none⟩=some (.string ⟨#[101,120,116,101,114,110]⟩):=hw1.at_ 0 _ rfl
 have hlt1:=hw1.lt
 have hbl:=HR.out.blk.lt
 have hsz1:=hb1.size
 have g8:w1.cell? ⟨b,8,none⟩=some (.int .i64 r.st):=(hb1.cell (p:=⟨b,8,none⟩) hbl).trans (HR.out.blk.cell 8)
 have Fv:w1.heap[M]?=some (.map Gf 8):=(hb1.block M ZL).trans QW.out
 have KS:=KR (P:=prog) (W:=w1) (s:=⟨#[101,120,116,101,114,110]⟩) underlying108 underlying9 Fv (i:=2) (v:= .agg #[.int .i64 3,.func (.func 90) #[] #[]]) (by kernel_rfl)
 have HW1:=AA hw1;have HB1:=AA hb1
 rw [←OV.out]
 have Om:(((⟨#[101,120,116,101,114,110]⟩:ByteArray)[0].toNat:Int)==59)=false:=by decide
 clear hn ho hb1 hw1 Fv hws hpos hwd
 go_wp2_with fail
 generalize hw2:World.alloc _ _=w2
 have GY:Below w1.heap.size w1 w2:=by rw [←hw2];exact(Below.refl _ _).alloc (Nat.le_refl _) _
 have hx2:AL w2 w1.heap.size 148 [.int .i64 3,.func (.func 90) #[] #[]]:=by rw [←hw2];exact AL.new w1 _ [.int .i64 3,.func (.func 90) #[] #[]]
 obtain⟨h6,Qy⟩: ∃h6,h6=w1.heap.size:=⟨_,rfl⟩
 rw [←Qy] at hx2⊢
 have YP:w.heap.size≤h6:=by omega
 have HB2:=AA (HB1.out.trans (GY.mono hsz1))
 have HW2:=AA (HW1.out.below GY)
 have x0:=hx2.q 0 rfl
 have x1:=hx2.q 1 rfl
 have y8:w2.cell? ⟨b,8,none⟩=some (.int .i64 r.st):=(HB2.out.cell (p:=⟨b,8,none⟩) hbl).trans (HR.out.blk.cell 8)
 have z8:=(HR.out.blk.below HB2.out hbl).frozen 8
 have OU:=AA hx2
 clear hw2 GY hx2 Qy g8 q0 KS HW1 HB1
 have hbad:Az 3 r.st=false→Hid (Ar r (Iz::t)=none∧Keep (fun k=>k<B∧k≠b) w w2.drew∧w2.drew.cell? ⟨b,9,none⟩=some (.int .i64 ln)):=fun hf=>
  AA ⟨by rw [TM.out,hf];rfl,((Keep.Aq HB2.out).Dt (fun k hk _=>hk)).drew,(HB2.out.cell (p:=⟨b,9,none⟩) hbl).trans (HR.out.blk.cell 9)⟩
 have hN0:((⟨#[101,120,116,101,114,110]⟩:ByteArray)[0].toNat:Int)=101:=by decide
 rw [hN0]
 clear Om hN0
 by_cases hc:3<r.st
 case pos=>
  have HBAD:=hbad (by cases hb:Az 3 r.st with | false=>rfl | true=>exfalso;unfold Az at hb;simp at hb;omega)
  have d0:decide ((r.st:Int)≤3)=false:=decide_eq_false (by omega)
  clear hbad
  refine wp_region_held_drew (S:=fun W=>W.cell? ⟨h6,0,none⟩=some (.int .i64 3)∧W.cell? ⟨b,8,none⟩=some (.int .i64 r.st)) (by kernel_rfl) ⟨x0,y8⟩ (fun hHeld=> ?_)
  refine AB (i:=0) (v:= ?_) rfl (by kernel_rfl) (fun _ _ _ h=>h) (by intro w hSw;(try dsimp only at hSw);go_simp;try with_reducible rfl) hHeld ?_
  refine AB (i:=1) (v:= ?_) rfl (by kernel_rfl) (fun _ _ _ h=>h) (by intro w hSw;(try dsimp only at hSw);go_simp;try with_reducible rfl) hHeld ?_
  refine AB (i:=2) (v:= ?_) rfl (by kernel_rfl) (fun _ _ _ h=>h) (by intro w hSw;(try dsimp only at hSw);go_simp;try with_reducible rfl) hHeld ?_
  refine AB (i:=3) (v:= ?_) rfl (by kernel_rfl) (fun _ _ _ h=>h) (by intro w hSw;(try dsimp only at hSw);go_simp;try with_reducible rfl) hHeld ?_
  refine AB (i:=4) (v:= ?_) rfl (by kernel_rfl) (fun _ _ _ h=>h) (by intro w hSw;(try dsimp only at hSw);go_simp;try with_reducible rfl) hHeld ?_
  refine AB (i:=5) (v:= ?_) rfl (by kernel_rfl) (fun _ _ _ h=>h) (by intro w hSw;(try dsimp only at hSw);go_simp;try with_reducible rfl) hHeld ?_
  refine AB (i:=6) (v:= ?_) rfl (by kernel_rfl) (fun _ _ _ h=>h) (by intro w hSw;(try dsimp only at hSw);go_simp;try with_reducible rfl) hHeld ?_
  refine AB (i:=7) (v:= ?_) rfl (by kernel_rfl) (fun _ _ _ h=>h) (by intro w hSw;(try dsimp only at hSw);go_simp;try with_reducible rfl) hHeld ?_
  refine AJ (i:=8) rfl (by kernel_rfl) (fun _ _ _ h=>h) hHeld ?_
  refine AJ (i:=9) rfl (by kernel_rfl) (fun _ _ _ h=>h) hHeld ?_
  refine AJ (i:=10) rfl (by kernel_rfl) (fun _ _ _ h=>h) hHeld ?_
  refine AJ (i:=11) rfl (by kernel_rfl) (fun _ _ _ h=>h) hHeld ?_
  refine AJ (i:=12) rfl (by kernel_rfl) (fun _ _ _ h=>h) hHeld ?_
  refine AJ (i:=13) rfl (by kernel_rfl) (fun _ _ _ h=>h) hHeld ?_
  refine AJ (i:=14) rfl (by kernel_rfl) (fun _ _ _ h=>h) hHeld ?_
  refine AJ (i:=15) rfl (by kernel_rfl) (fun _ _ _ h=>h) hHeld ?_
  refine AJ (i:=16) rfl (by kernel_rfl) (fun _ _ _ h=>h) hHeld ?_
  refine AJ (i:=17) rfl (by kernel_rfl) (fun _ _ _ h=>h) hHeld ?_
  refine AJ (i:=18) rfl (by kernel_rfl) (fun _ _ _ h=>h) hHeld ?_
  refine AB (i:=19) (v:= ?_) rfl (by kernel_rfl) (fun _ _ _ h=>h) (by intro w hSw;(try dsimp only at hSw);go_simp;try with_reducible rfl) hHeld ?_
  refine wpAnyH_ready (rs:= [20]) (by kernel_rfl) (by simp) ?_
  refine AllReadyH.cons rfl (fun K hK=> ?_) AllReadyH.nil
  go_simp
  refine(AY _).mono ?_
  rintro e w3 ⟨rfl,rfl⟩
  go_wp2_with fail
  exact⟨rfl,HBAD.out.2.1,.inl ⟨HBAD.out.1,rfl,HBAD.out.2.2⟩⟩
 by_cases hc:r.st=0
 case pos=>
  have HBAD:=hbad (by cases hb:Az 3 r.st with | false=>rfl | true=>exfalso;unfold Az at hb;simp at hb;omega)
  have d0:decide ((r.st:Int)≤3)=true:=decide_eq_true (by omega)
  have d1:((r.st:Int) !=0)=false:=by rw [bne_eq_false_iff_eq];omega
  clear hbad
  refine wp_region_held_drew (S:=fun W=>W.cell? ⟨h6,0,none⟩=some (.int .i64 3)∧W.cell? ⟨b,8,none⟩=some (.int .i64 r.st)) (by kernel_rfl) ⟨x0,y8⟩ (fun hHeld=> ?_)
  refine AB (i:=0) (v:= ?_) rfl (by kernel_rfl) (fun _ _ _ h=>h) (by intro w hSw;(try dsimp only at hSw);go_simp;try with_reducible rfl) hHeld ?_
  refine AB (i:=1) (v:= ?_) rfl (by kernel_rfl) (fun _ _ _ h=>h) (by intro w hSw;(try dsimp only at hSw);go_simp;try with_reducible rfl) hHeld ?_
  refine AB (i:=2) (v:= ?_) rfl (by kernel_rfl) (fun _ _ _ h=>h) (by intro w hSw;(try dsimp only at hSw);go_simp;try with_reducible rfl) hHeld ?_
  refine AB (i:=3) (v:= ?_) rfl (by kernel_rfl) (fun _ _ _ h=>h) (by intro w hSw;(try dsimp only at hSw);go_simp;try with_reducible rfl) hHeld ?_
  refine AB (i:=4) (v:= ?_) rfl (by kernel_rfl) (fun _ _ _ h=>h) (by intro w hSw;(try dsimp only at hSw);go_simp;try with_reducible rfl) hHeld ?_
  refine AB (i:=5) (v:= ?_) rfl (by kernel_rfl) (fun _ _ _ h=>h) (by intro w hSw;(try dsimp only at hSw);go_simp;try with_reducible rfl) hHeld ?_
  refine AB (i:=6) (v:= ?_) rfl (by kernel_rfl) (fun _ _ _ h=>h) (by intro w hSw;(try dsimp only at hSw);go_simp;try with_reducible rfl) hHeld ?_
  refine AB (i:=7) (v:= ?_) rfl (by kernel_rfl) (fun _ _ _ h=>h) (by intro w hSw;(try dsimp only at hSw);go_simp;try with_reducible rfl) hHeld ?_
  refine AB (i:=8) (v:= ?_) rfl (by kernel_rfl) (fun _ _ _ h=>h) (by intro w hSw;(try dsimp only at hSw);go_simp;try with_reducible rfl) hHeld ?_
  refine AB (i:=9) (v:= ?_) rfl (by kernel_rfl) (fun _ _ _ h=>h) (by intro w hSw;(try dsimp only at hSw);go_simp;try with_reducible rfl) hHeld ?_
  refine AB (i:=10) (v:= ?_) rfl (by kernel_rfl) (fun _ _ _ h=>h) (by intro w hSw;(try dsimp only at hSw);go_simp;try with_reducible rfl) hHeld ?_
  refine AJ (i:=11) rfl (by kernel_rfl) (fun _ _ _ h=>h) hHeld ?_
  refine AJ (i:=12) rfl (by kernel_rfl) (fun _ _ _ h=>h) hHeld ?_
  refine AJ (i:=13) rfl (by kernel_rfl) (fun _ _ _ h=>h) hHeld ?_
  refine AJ (i:=14) rfl (by kernel_rfl) (fun _ _ _ h=>h) hHeld ?_
  refine AJ (i:=15) rfl (by kernel_rfl) (fun _ _ _ h=>h) hHeld ?_
  refine AJ (i:=16) rfl (by kernel_rfl) (fun _ _ _ h=>h) hHeld ?_
  refine AJ (i:=17) rfl (by kernel_rfl) (fun _ _ _ h=>h) hHeld ?_
  refine AB (i:=18) (v:= ?_) rfl (by kernel_rfl) (fun _ _ _ h=>h) (by intro w hSw;(try dsimp only at hSw);go_simp;try with_reducible rfl) hHeld ?_
  refine AB (i:=19) (v:= ?_) rfl (by kernel_rfl) (fun _ _ _ h=>h) (by intro w hSw;(try dsimp only at hSw);go_simp;try with_reducible rfl) hHeld ?_
  refine wpAnyH_ready (rs:= [20]) (by kernel_rfl) (by simp) ?_
  refine AllReadyH.cons rfl (fun K hK=> ?_) AllReadyH.nil
  go_simp
  refine(AO _).mono ?_
  rintro e w3 ⟨rfl,rfl⟩
  refine hK.out _ _ ⟨x0,y8⟩ (fun Ag=> ?_)
  clear hK K
  refine wpAnyH_done (by kernel_rfl) ?_ _
  clear hHeld Ag
  go_wp2_with fail
  refine(AY _).mono ?_
  rintro e w3 ⟨rfl,rfl⟩
  go_wp2_with fail
  exact⟨rfl,HBAD.out.2.1,.inl ⟨HBAD.out.1,rfl,HBAD.out.2.2⟩⟩
 have d0:decide ((r.st:Int)≤3)=true:=decide_eq_true (by omega)
 have d1:((r.st:Int) !=0)=true:=by rw [bne_iff_ne];omega
 have Qz:Hid (Ar r (Iz::t)=(Av 3 r.m t).map (fun m'=>(⟨m',3⟩:Ka))):=AA (by
  have ho:Az 3 r.st=true:=by
   cases hb:Az 3 r.st with
   | true=>rfl
   | false=>exfalso;unfold Az at hb;simp at hb;omega
  rw [TM.out,ho];rfl)
 clear hbad
 refine wp_region_held_drew (S:=fun W=>W.cell? ⟨h6,0,none⟩=some (.int .i64 3)∧W.cell? ⟨b,8,none⟩=some (.int .i64 r.st)) (by kernel_rfl) ⟨x0,y8⟩ (fun hHeld=> ?_)
 refine AB (i:=0) (v:= ?_) rfl (by kernel_rfl) (fun _ _ _ h=>h) (by intro w hSw;(try dsimp only at hSw);go_simp;try with_reducible rfl) hHeld ?_
 refine AB (i:=1) (v:= ?_) rfl (by kernel_rfl) (fun _ _ _ h=>h) (by intro w hSw;(try dsimp only at hSw);go_simp;try with_reducible rfl) hHeld ?_
 refine AB (i:=2) (v:= ?_) rfl (by kernel_rfl) (fun _ _ _ h=>h) (by intro w hSw;(try dsimp only at hSw);go_simp;try with_reducible rfl) hHeld ?_
 refine AB (i:=3) (v:= ?_) rfl (by kernel_rfl) (fun _ _ _ h=>h) (by intro w hSw;(try dsimp only at hSw);go_simp;try with_reducible rfl) hHeld ?_
 refine AB (i:=4) (v:= ?_) rfl (by kernel_rfl) (fun _ _ _ h=>h) (by intro w hSw;(try dsimp only at hSw);go_simp;try with_reducible rfl) hHeld ?_
 refine AB (i:=5) (v:= ?_) rfl (by kernel_rfl) (fun _ _ _ h=>h) (by intro w hSw;(try dsimp only at hSw);go_simp;try with_reducible rfl) hHeld ?_
 refine AB (i:=6) (v:= ?_) rfl (by kernel_rfl) (fun _ _ _ h=>h) (by intro w hSw;(try dsimp only at hSw);go_simp;try with_reducible rfl) hHeld ?_
 refine AB (i:=7) (v:= ?_) rfl (by kernel_rfl) (fun _ _ _ h=>h) (by intro w hSw;(try dsimp only at hSw);go_simp;try with_reducible rfl) hHeld ?_
 refine AB (i:=8) (v:= ?_) rfl (by kernel_rfl) (fun _ _ _ h=>h) (by intro w hSw;(try dsimp only at hSw);go_simp;try with_reducible rfl) hHeld ?_
 refine AB (i:=9) (v:= ?_) rfl (by kernel_rfl) (fun _ _ _ h=>h) (by intro w hSw;(try dsimp only at hSw);go_simp;try with_reducible rfl) hHeld ?_
 refine AB (i:=10) (v:= ?_) rfl (by kernel_rfl) (fun _ _ _ h=>h) (by intro w hSw;(try dsimp only at hSw);go_simp;try with_reducible rfl) hHeld ?_
 refine AJ (i:=11) rfl (by kernel_rfl) (fun _ _ _ h=>h) hHeld ?_
 refine AJ (i:=12) rfl (by kernel_rfl) (fun _ _ _ h=>h) hHeld ?_
 refine AJ (i:=13) rfl (by kernel_rfl) (fun _ _ _ h=>h) hHeld ?_
 refine AJ (i:=14) rfl (by kernel_rfl) (fun _ _ _ h=>h) hHeld ?_
 refine AJ (i:=15) rfl (by kernel_rfl) (fun _ _ _ h=>h) hHeld ?_
 refine AJ (i:=16) rfl (by kernel_rfl) (fun _ _ _ h=>h) hHeld ?_
 refine AJ (i:=17) rfl (by kernel_rfl) (fun _ _ _ h=>h) hHeld ?_
 refine AB (i:=18) (v:= ?_) rfl (by kernel_rfl) (fun _ _ _ h=>h) (by intro w hSw;(try dsimp only at hSw);go_simp;try with_reducible rfl) hHeld ?_
 refine AB (i:=19) (v:= ?_) rfl (by kernel_rfl) (fun _ _ _ h=>h) (by intro w hSw;(try dsimp only at hSw);go_simp;try with_reducible rfl) hHeld ?_
 refine wpAnyH_ready (rs:= [20]) (by kernel_rfl) (by simp) ?_
 refine AllReadyH.cons rfl (fun K hK=> ?_) AllReadyH.nil
 go_simp
 refine(AO _).mono ?_
 rintro e w3 ⟨rfl,rfl⟩
 refine hK.out _ _ ⟨x0,y8⟩ (fun Ag=> ?_)
 clear hK K
 refine wpAnyH_done (by kernel_rfl) ?_ _
 clear hHeld Ag
 go_wp2_with fail
 refine(AO _).mono ?_
 rintro e w3 ⟨rfl,rfl⟩
 go_wp2_with fail
 refine(AO _).mono ?_
 rintro e w3 ⟨rfl,rfl⟩
 go_upto_region 10 with fail
 have SK:OL B b (w2.setCell ⟨b,8,none⟩ (.int .i64 (3:Nat))).drew _ v1 v2 v3 v6 v7 v8 r.m 3 ln:=((HR.out.below HB2.out).stage 3).below ((Below.refl _ _).drew)
 have hx5:AL (w2.setCell ⟨b,8,none⟩ (.int .i64 (3:Nat))).drew h6 148 [.int .i64 3,.func (.func 90) #[] #[]]:=(OU.out.far (p:=⟨b,8,none⟩) (by show h6≠b;omega) _).drewN 1
 have U6:Keep (fun k=>k<B∧k≠b) w (w2.setCell ⟨b,8,none⟩ (.int .i64 (3:Nat))).drew:=(((Keep.Aq HB2.out).Dt (fun k hk _=>hk)).setCell (p:=⟨b,8,none⟩) (fun e=>e.2 rfl) _).drew
 have U7:ED (w2.setCell ⟨b,8,none⟩ (.int .i64 (3:Nat))).drew A (Iz::t):=(HW2.out.keep (K:=fun k=>k≠b) (((Keep.refl _ w2).setCell (p:=⟨b,8,none⟩) (fun e=>e rfl) _).drew) (by omega))
 have U8:Dv hi (w2.setCell ⟨b,8,none⟩ (.int .i64 (3:Nat))).drew:=HI.out.env.to (((HB2.out.mono (show hi≤w.heap.size by omega)).setCell (p:=⟨b,8,none⟩) hhi _).drew)
 generalize World.drew (w2.setCell _ _)=w5 at*
 have x1:=hx5.q 1 rfl
 have Pw:=AA SK;have Qf:=AA U6;have bF:=AA U7;have bG:=AA U8
 clear SK U6 U7 U8 hx5 x0 y8 z8 OU HW2
 go_wp2_with fail
 rw [OV.out]
 refine(sM ⟨Pw.out,bF.out,bG.out,hhi,HI.out.lens,by omega⟩ (List.cons_ne_nil _ _)).mono ?_
 rintro e w6 hm
 have hpost:Ei B b w ln (Ar r (Iz::t)) e w6:=by
  rcases hm with⟨h1,h2,h3⟩ | ⟨m',h1,h2,h3,h4⟩
  ·refine⟨Qf.out.trans ((Keep.Aq h3).Dt (fun k hk _=>hk)),.inl ⟨?_,h2,(h3.cell (p:=⟨b,9,none⟩) Pw.out.blk.lt).trans (Pw.out.blk.cell 9)⟩⟩
   rw [Qz.out];rw [List.tail_cons] at h1;rw [h1];rfl
  ·refine⟨Qf.out.trans h3,.inr ⟨⟨m',3⟩,?_,h2,?_⟩⟩
   ·rw [Qz.out];rw [List.tail_cons] at h1;rw [h1];rfl
   ·exact .inl ⟨(show(3:Nat)≠6 by decide),h4⟩
 have HP:=AA hpost
 rcases hm with⟨_,rfl,_⟩ | ⟨m',_,rfl,_,_⟩
 ·go_wp2_with fail
  exact⟨rfl,HP.out⟩
 ·go_wp2_with fail
  go_end0
  exact HP.out
theorem iy (h:kU B b hi M w r ln s) {t:List ByteArray} (hwd:DN s=Et::t):
 Calls prog 59 #[.pointer (some ⟨b,0,none⟩),.string s,.map (some M)] w (Ei B b w ln (Ar r (DN s))):=by
 have hcall:=Ez s (by have:=h.sz;omega) w
 obtain⟨hws,hpos⟩:=Ey s
 have hsz:=h.sz
 rw [hwd] at hcall hws⊢
 have hlv:Ar r (Et::t)=if Az 4 r.st=true then(Av 4 r.m t).map (fun m'=>(⟨m',4⟩:Ka)) else none:=by
  have hk:Dx Et=4:=by kernel_rfl
  unfold Ar
  simp only [hk]
  rw [if_neg (by decide)]
 have TM:=AA hlv
 have HI:=AA h
 have hz0:((((Et::t).length:Nat):Int)==0)=false:=by rw [beq_eq_false_iff_ne,List.length_cons];omega
 obtain⟨n,hn⟩: ∃n,n=(Et::t).length:=⟨_,rfl⟩
 rw [←hn] at hz0
 have hn0:0<n:=by rw [hn,List.length_cons];omega
 have OV:=AA hn
 have EF:=AA hcall
 have ZL:=h.mlt
 have hhi:=h.hhi
 have QW:=AA h.map
 obtain⟨col,v1,v2,v3,v6,v7,v8,hr⟩:=h.rd.close
 have hlow:=hr.low
 have htop:=hr.top
 have HR:=AA hr
 clear hcall hlv h hr
 go_enter func59,ntmps59
 go_wp2_with fail
 refine EF.out.mono ?_
 clear EF
 rintro e w1 ⟨A,rfl,hA,ho,hb1⟩
 have hw1:=JI ho hA (List.cons_ne_nil _ _) (by omega)
 have q0:w1.cell? ⟨A,0,none⟩=some (.string ⟨#[103,108,111,98,97,108]⟩):=hw1.at_ 0 _ rfl
 have hlt1:=hw1.lt
 have hbl:=HR.out.blk.lt
 have hsz1:=hb1.size
 have g8:w1.cell? ⟨b,8,none⟩=some (.int .i64 r.st):=(hb1.cell (p:=⟨b,8,none⟩) hbl).trans (HR.out.blk.cell 8)
 have Fv:w1.heap[M]?=some (.map Gf 8):=(hb1.block M ZL).trans QW.out
 have KS:=KR (P:=prog) (W:=w1) (s:=⟨#[103,108,111,98,97,108]⟩) underlying108 underlying9 Fv (i:=3) (v:= .agg #[.int .i64 4,.func (.func 91) #[] #[]]) (by kernel_rfl)
 have HW1:=AA hw1;have HB1:=AA hb1
 rw [←OV.out]
 have Om:(((⟨#[103,108,111,98,97,108]⟩:ByteArray)[0].toNat:Int)==59)=false:=by decide
 clear hn ho hb1 hw1 Fv hws hpos hwd
 go_wp2_with fail
 generalize hw2:World.alloc _ _=w2
 have GY:Below w1.heap.size w1 w2:=by rw [←hw2];exact(Below.refl _ _).alloc (Nat.le_refl _) _
 have hx2:AL w2 w1.heap.size 148 [.int .i64 4,.func (.func 91) #[] #[]]:=by rw [←hw2];exact AL.new w1 _ [.int .i64 4,.func (.func 91) #[] #[]]
 obtain⟨h6,Qy⟩: ∃h6,h6=w1.heap.size:=⟨_,rfl⟩
 rw [←Qy] at hx2⊢
 have YP:w.heap.size≤h6:=by omega
 have HB2:=AA (HB1.out.trans (GY.mono hsz1))
 have HW2:=AA (HW1.out.below GY)
 have x0:=hx2.q 0 rfl
 have x1:=hx2.q 1 rfl
 have y8:w2.cell? ⟨b,8,none⟩=some (.int .i64 r.st):=(HB2.out.cell (p:=⟨b,8,none⟩) hbl).trans (HR.out.blk.cell 8)
 have z8:=(HR.out.blk.below HB2.out hbl).frozen 8
 have OU:=AA hx2
 clear hw2 GY hx2 Qy g8 q0 KS HW1 HB1
 have hbad:Az 4 r.st=false→Hid (Ar r (Et::t)=none∧Keep (fun k=>k<B∧k≠b) w w2.drew∧w2.drew.cell? ⟨b,9,none⟩=some (.int .i64 ln)):=fun hf=>
  AA ⟨by rw [TM.out,hf];rfl,((Keep.Aq HB2.out).Dt (fun k hk _=>hk)).drew,(HB2.out.cell (p:=⟨b,9,none⟩) hbl).trans (HR.out.blk.cell 9)⟩
 have hN0:((⟨#[103,108,111,98,97,108]⟩:ByteArray)[0].toNat:Int)=103:=by decide
 rw [hN0]
 clear Om hN0
 by_cases hc:4<r.st
 case pos=>
  have HBAD:=hbad (by cases hb:Az 4 r.st with | false=>rfl | true=>exfalso;unfold Az at hb;simp at hb;omega)
  have d0:decide ((r.st:Int)≤4)=false:=decide_eq_false (by omega)
  clear hbad
  refine wp_region_held_drew (S:=fun W=>W.cell? ⟨h6,0,none⟩=some (.int .i64 4)∧W.cell? ⟨b,8,none⟩=some (.int .i64 r.st)) (by kernel_rfl) ⟨x0,y8⟩ (fun hHeld=> ?_)
  refine AB (i:=0) (v:= ?_) rfl (by kernel_rfl) (fun _ _ _ h=>h) (by intro w hSw;(try dsimp only at hSw);go_simp;try with_reducible rfl) hHeld ?_
  refine AB (i:=1) (v:= ?_) rfl (by kernel_rfl) (fun _ _ _ h=>h) (by intro w hSw;(try dsimp only at hSw);go_simp;try with_reducible rfl) hHeld ?_
  refine AB (i:=2) (v:= ?_) rfl (by kernel_rfl) (fun _ _ _ h=>h) (by intro w hSw;(try dsimp only at hSw);go_simp;try with_reducible rfl) hHeld ?_
  refine AB (i:=3) (v:= ?_) rfl (by kernel_rfl) (fun _ _ _ h=>h) (by intro w hSw;(try dsimp only at hSw);go_simp;try with_reducible rfl) hHeld ?_
  refine AB (i:=4) (v:= ?_) rfl (by kernel_rfl) (fun _ _ _ h=>h) (by intro w hSw;(try dsimp only at hSw);go_simp;try with_reducible rfl) hHeld ?_
  refine AB (i:=5) (v:= ?_) rfl (by kernel_rfl) (fun _ _ _ h=>h) (by intro w hSw;(try dsimp only at hSw);go_simp;try with_reducible rfl) hHeld ?_
  refine AB (i:=6) (v:= ?_) rfl (by kernel_rfl) (fun _ _ _ h=>h) (by intro w hSw;(try dsimp only at hSw);go_simp;try with_reducible rfl) hHeld ?_
  refine AB (i:=7) (v:= ?_) rfl (by kernel_rfl) (fun _ _ _ h=>h) (by intro w hSw;(try dsimp only at hSw);go_simp;try with_reducible rfl) hHeld ?_
  refine AJ (i:=8) rfl (by kernel_rfl) (fun _ _ _ h=>h) hHeld ?_
  refine AJ (i:=9) rfl (by kernel_rfl) (fun _ _ _ h=>h) hHeld ?_
  refine AJ (i:=10) rfl (by kernel_rfl) (fun _ _ _ h=>h) hHeld ?_
  refine AJ (i:=11) rfl (by kernel_rfl) (fun _ _ _ h=>h) hHeld ?_
  refine AJ (i:=12) rfl (by kernel_rfl) (fun _ _ _ h=>h) hHeld ?_
  refine AJ (i:=13) rfl (by kernel_rfl) (fun _ _ _ h=>h) hHeld ?_
  refine AJ (i:=14) rfl (by kernel_rfl) (fun _ _ _ h=>h) hHeld ?_
  refine AJ (i:=15) rfl (by kernel_rfl) (fun _ _ _ h=>h) hHeld ?_
  refine AJ (i:=16) rfl (by kernel_rfl) (fun _ _ _ h=>h) hHeld ?_
  refine AJ (i:=17) rfl (by kernel_rfl) (fun _ _ _ h=>h) hHeld ?_
  refine AJ (i:=18) rfl (by kernel_rfl) (fun _ _ _ h=>h) hHeld ?_
  refine AB (i:=19) (v:= ?_) rfl (by kernel_rfl) (fun _ _ _ h=>h) (by intro w hSw;(try dsimp only at hSw);go_simp;try with_reducible rfl) hHeld ?_
  refine wpAnyH_ready (rs:= [20]) (by kernel_rfl) (by simp) ?_
  refine AllReadyH.cons rfl (fun K hK=> ?_) AllReadyH.nil
  go_simp
  refine(AY _).mono ?_
  rintro e w3 ⟨rfl,rfl⟩
  go_wp2_with fail
  exact⟨rfl,HBAD.out.2.1,.inl ⟨HBAD.out.1,rfl,HBAD.out.2.2⟩⟩
 by_cases hc:r.st=0
 case pos=>
  have HBAD:=hbad (by cases hb:Az 4 r.st with | false=>rfl | true=>exfalso;unfold Az at hb;simp at hb;omega)
  have d0:decide ((r.st:Int)≤4)=true:=decide_eq_true (by omega)
  have d1:((r.st:Int) !=0)=false:=by rw [bne_eq_false_iff_eq];omega
  clear hbad
  refine wp_region_held_drew (S:=fun W=>W.cell? ⟨h6,0,none⟩=some (.int .i64 4)∧W.cell? ⟨b,8,none⟩=some (.int .i64 r.st)) (by kernel_rfl) ⟨x0,y8⟩ (fun hHeld=> ?_)
  refine AB (i:=0) (v:= ?_) rfl (by kernel_rfl) (fun _ _ _ h=>h) (by intro w hSw;(try dsimp only at hSw);go_simp;try with_reducible rfl) hHeld ?_
  refine AB (i:=1) (v:= ?_) rfl (by kernel_rfl) (fun _ _ _ h=>h) (by intro w hSw;(try dsimp only at hSw);go_simp;try with_reducible rfl) hHeld ?_
  refine AB (i:=2) (v:= ?_) rfl (by kernel_rfl) (fun _ _ _ h=>h) (by intro w hSw;(try dsimp only at hSw);go_simp;try with_reducible rfl) hHeld ?_
  refine AB (i:=3) (v:= ?_) rfl (by kernel_rfl) (fun _ _ _ h=>h) (by intro w hSw;(try dsimp only at hSw);go_simp;try with_reducible rfl) hHeld ?_
  refine AB (i:=4) (v:= ?_) rfl (by kernel_rfl) (fun _ _ _ h=>h) (by intro w hSw;(try dsimp only at hSw);go_simp;try with_reducible rfl) hHeld ?_
  refine AB (i:=5) (v:= ?_) rfl (by kernel_rfl) (fun _ _ _ h=>h) (by intro w hSw;(try dsimp only at hSw);go_simp;try with_reducible rfl) hHeld ?_
  refine AB (i:=6) (v:= ?_) rfl (by kernel_rfl) (fun _ _ _ h=>h) (by intro w hSw;(try dsimp only at hSw);go_simp;try with_reducible rfl) hHeld ?_
  refine AB (i:=7) (v:= ?_) rfl (by kernel_rfl) (fun _ _ _ h=>h) (by intro w hSw;(try dsimp only at hSw);go_simp;try with_reducible rfl) hHeld ?_
  refine AB (i:=8) (v:= ?_) rfl (by kernel_rfl) (fun _ _ _ h=>h) (by intro w hSw;(try dsimp only at hSw);go_simp;try with_reducible rfl) hHeld ?_
  refine AB (i:=9) (v:= ?_) rfl (by kernel_rfl) (fun _ _ _ h=>h) (by intro w hSw;(try dsimp only at hSw);go_simp;try with_reducible rfl) hHeld ?_
  refine AB (i:=10) (v:= ?_) rfl (by kernel_rfl) (fun _ _ _ h=>h) (by intro w hSw;(try dsimp only at hSw);go_simp;try with_reducible rfl) hHeld ?_
  refine AJ (i:=11) rfl (by kernel_rfl) (fun _ _ _ h=>h) hHeld ?_
  refine AJ (i:=12) rfl (by kernel_rfl) (fun _ _ _ h=>h) hHeld ?_
  refine AJ (i:=13) rfl (by kernel_rfl) (fun _ _ _ h=>h) hHeld ?_
  refine AJ (i:=14) rfl (by kernel_rfl) (fun _ _ _ h=>h) hHeld ?_
  refine AJ (i:=15) rfl (by kernel_rfl) (fun _ _ _ h=>h) hHeld ?_
  refine AJ (i:=16) rfl (by kernel_rfl) (fun _ _ _ h=>h) hHeld ?_
  refine AJ (i:=17) rfl (by kernel_rfl) (fun _ _ _ h=>h) hHeld ?_
  refine AB (i:=18) (v:= ?_) rfl (by kernel_rfl) (fun _ _ _ h=>h) (by intro w hSw;(try dsimp only at hSw);go_simp;try with_reducible rfl) hHeld ?_
  refine AB (i:=19) (v:= ?_) rfl (by kernel_rfl) (fun _ _ _ h=>h) (by intro w hSw;(try dsimp only at hSw);go_simp;try with_reducible rfl) hHeld ?_
  refine wpAnyH_ready (rs:= [20]) (by kernel_rfl) (by simp) ?_
  refine AllReadyH.cons rfl (fun K hK=> ?_) AllReadyH.nil
  go_simp
  refine(AO _).mono ?_
  rintro e w3 ⟨rfl,rfl⟩
  refine hK.out _ _ ⟨x0,y8⟩ (fun Ag=> ?_)
  clear hK K
  refine wpAnyH_done (by kernel_rfl) ?_ _
  clear hHeld Ag
  go_wp2_with fail
  refine(AY _).mono ?_
  rintro e w3 ⟨rfl,rfl⟩
  go_wp2_with fail
  exact⟨rfl,HBAD.out.2.1,.inl ⟨HBAD.out.1,rfl,HBAD.out.2.2⟩⟩
 have d0:decide ((r.st:Int)≤4)=true:=decide_eq_true (by omega)
 have d1:((r.st:Int) !=0)=true:=by rw [bne_iff_ne];omega
 have Qz:Hid (Ar r (Et::t)=(Av 4 r.m t).map (fun m'=>(⟨m',4⟩:Ka))):=AA (by
  have ho:Az 4 r.st=true:=by
   cases hb:Az 4 r.st with
   | true=>rfl
   | false=>exfalso;unfold Az at hb;simp at hb;omega
  rw [TM.out,ho];rfl)
 clear hbad
 refine wp_region_held_drew (S:=fun W=>W.cell? ⟨h6,0,none⟩=some (.int .i64 4)∧W.cell? ⟨b,8,none⟩=some (.int .i64 r.st)) (by kernel_rfl) ⟨x0,y8⟩ (fun hHeld=> ?_)
 refine AB (i:=0) (v:= ?_) rfl (by kernel_rfl) (fun _ _ _ h=>h) (by intro w hSw;(try dsimp only at hSw);go_simp;try with_reducible rfl) hHeld ?_
 refine AB (i:=1) (v:= ?_) rfl (by kernel_rfl) (fun _ _ _ h=>h) (by intro w hSw;(try dsimp only at hSw);go_simp;try with_reducible rfl) hHeld ?_
 refine AB (i:=2) (v:= ?_) rfl (by kernel_rfl) (fun _ _ _ h=>h) (by intro w hSw;(try dsimp only at hSw);go_simp;try with_reducible rfl) hHeld ?_
 refine AB (i:=3) (v:= ?_) rfl (by kernel_rfl) (fun _ _ _ h=>h) (by intro w hSw;(try dsimp only at hSw);go_simp;try with_reducible rfl) hHeld ?_
 refine AB (i:=4) (v:= ?_) rfl (by kernel_rfl) (fun _ _ _ h=>h) (by intro w hSw;(try dsimp only at hSw);go_simp;try with_reducible rfl) hHeld ?_
 refine AB (i:=5) (v:= ?_) rfl (by kernel_rfl) (fun _ _ _ h=>h) (by intro w hSw;(try dsimp only at hSw);go_simp;try with_reducible rfl) hHeld ?_
 refine AB (i:=6) (v:= ?_) rfl (by kernel_rfl) (fun _ _ _ h=>h) (by intro w hSw;(try dsimp only at hSw);go_simp;try with_reducible rfl) hHeld ?_
 refine AB (i:=7) (v:= ?_) rfl (by kernel_rfl) (fun _ _ _ h=>h) (by intro w hSw;(try dsimp only at hSw);go_simp;try with_reducible rfl) hHeld ?_
 refine AB (i:=8) (v:= ?_) rfl (by kernel_rfl) (fun _ _ _ h=>h) (by intro w hSw;(try dsimp only at hSw);go_simp;try with_reducible rfl) hHeld ?_
 refine AB (i:=9) (v:= ?_) rfl (by kernel_rfl) (fun _ _ _ h=>h) (by intro w hSw;(try dsimp only at hSw);go_simp;try with_reducible rfl) hHeld ?_
 refine AB (i:=10) (v:= ?_) rfl (by kernel_rfl) (fun _ _ _ h=>h) (by intro w hSw;(try dsimp only at hSw);go_simp;try with_reducible rfl) hHeld ?_
 refine AJ (i:=11) rfl (by kernel_rfl) (fun _ _ _ h=>h) hHeld ?_
 refine AJ (i:=12) rfl (by kernel_rfl) (fun _ _ _ h=>h) hHeld ?_
 refine AJ (i:=13) rfl (by kernel_rfl) (fun _ _ _ h=>h) hHeld ?_
 refine AJ (i:=14) rfl (by kernel_rfl) (fun _ _ _ h=>h) hHeld ?_
 refine AJ (i:=15) rfl (by kernel_rfl) (fun _ _ _ h=>h) hHeld ?_
 refine AJ (i:=16) rfl (by kernel_rfl) (fun _ _ _ h=>h) hHeld ?_
 refine AJ (i:=17) rfl (by kernel_rfl) (fun _ _ _ h=>h) hHeld ?_
 refine AB (i:=18) (v:= ?_) rfl (by kernel_rfl) (fun _ _ _ h=>h) (by intro w hSw;(try dsimp only at hSw);go_simp;try with_reducible rfl) hHeld ?_
 refine AB (i:=19) (v:= ?_) rfl (by kernel_rfl) (fun _ _ _ h=>h) (by intro w hSw;(try dsimp only at hSw);go_simp;try with_reducible rfl) hHeld ?_
 refine wpAnyH_ready (rs:= [20]) (by kernel_rfl) (by simp) ?_
 refine AllReadyH.cons rfl (fun K hK=> ?_) AllReadyH.nil
 go_simp
 refine(AO _).mono ?_
 rintro e w3 ⟨rfl,rfl⟩
 refine hK.out _ _ ⟨x0,y8⟩ (fun Ag=> ?_)
 clear hK K
 refine wpAnyH_done (by kernel_rfl) ?_ _
 clear hHeld Ag
 go_wp2_with fail
 refine(AO _).mono ?_
 rintro e w3 ⟨rfl,rfl⟩
 go_wp2_with fail
 refine(AO _).mono ?_
 rintro e w3 ⟨rfl,rfl⟩
 go_upto_region 10 with fail
 have SK:OL B b (w2.setCell ⟨b,8,none⟩ (.int .i64 (4:Nat))).drew _ v1 v2 v3 v6 v7 v8 r.m 4 ln:=((HR.out.below HB2.out).stage 4).below ((Below.refl _ _).drew)
 have hx5:AL (w2.setCell ⟨b,8,none⟩ (.int .i64 (4:Nat))).drew h6 148 [.int .i64 4,.func (.func 91) #[] #[]]:=(OU.out.far (p:=⟨b,8,none⟩) (by show h6≠b;omega) _).drewN 1
 have U6:Keep (fun k=>k<B∧k≠b) w (w2.setCell ⟨b,8,none⟩ (.int .i64 (4:Nat))).drew:=(((Keep.Aq HB2.out).Dt (fun k hk _=>hk)).setCell (p:=⟨b,8,none⟩) (fun e=>e.2 rfl) _).drew
 have U7:ED (w2.setCell ⟨b,8,none⟩ (.int .i64 (4:Nat))).drew A (Et::t):=(HW2.out.keep (K:=fun k=>k≠b) (((Keep.refl _ w2).setCell (p:=⟨b,8,none⟩) (fun e=>e rfl) _).drew) (by omega))
 have U8:Dv hi (w2.setCell ⟨b,8,none⟩ (.int .i64 (4:Nat))).drew:=HI.out.env.to (((HB2.out.mono (show hi≤w.heap.size by omega)).setCell (p:=⟨b,8,none⟩) hhi _).drew)
 generalize World.drew (w2.setCell _ _)=w5 at*
 have x1:=hx5.q 1 rfl
 have Pw:=AA SK;have Qf:=AA U6;have bF:=AA U7;have bG:=AA U8
 clear SK U6 U7 U8 hx5 x0 y8 z8 OU HW2
 go_wp2_with fail
 rw [OV.out]
 refine(iG ⟨Pw.out,bF.out,bG.out,hhi,HI.out.lens,by omega⟩ (List.cons_ne_nil _ _)).mono ?_
 rintro e w6 hm
 have hpost:Ei B b w ln (Ar r (Et::t)) e w6:=by
  rcases hm with⟨h1,h2,h3⟩ | ⟨m',h1,h2,h3,h4⟩
  ·refine⟨Qf.out.trans ((Keep.Aq h3).Dt (fun k hk _=>hk)),.inl ⟨?_,h2,(h3.cell (p:=⟨b,9,none⟩) Pw.out.blk.lt).trans (Pw.out.blk.cell 9)⟩⟩
   rw [Qz.out];rw [List.tail_cons] at h1;rw [h1];rfl
  ·refine⟨Qf.out.trans h3,.inr ⟨⟨m',4⟩,?_,h2,?_⟩⟩
   ·rw [Qz.out];rw [List.tail_cons] at h1;rw [h1];rfl
   ·exact .inl ⟨(show(4:Nat)≠6 by decide),h4⟩
 have HP:=AA hpost
 rcases hm with⟨_,rfl,_⟩ | ⟨m',_,rfl,_,_⟩
 ·go_wp2_with fail
  exact⟨rfl,HP.out⟩
 ·go_wp2_with fail
  go_end0
  exact HP.out
end
end Go.Proofs.YtejbcledkhioeaaGreatDoor
