/- Part 34 of the proof: RdrM -/
import Derived.Test.YtebgikflpgcnlaaGreatDoorP33
namespace Go.Proofs.YtebgikflpgcnlaaGreatDoor
set_option linter.unusedVariables false
set_option linter.unusedSimpArgs false
set_option maxRecDepth 100000
set_option maxHeartbeats 4000000
open Go.RowKit Tryz
section
variable {B b hi M:Nat} {w:World} {r:Nb} {ln:Nat} {s:ByteArray}
theorem nE (h:qE B b hi M w r ln s) {t:List ByteArray} (hwd:EP s=Jj::t):
 Calls prog 59 #[.pointer (some ⟨b,0,none⟩),.string s,.map (some M)] w (Gw B b w ln (Ai r (EP s))):=by
 have hcall:=Hq s (by have:=h.sz;omega) w
 obtain⟨hws,hpos⟩:=Ho s
 have hsz:=h.sz
 rw [hwd] at hcall hws⊢
 have hlv:Ai r (Jj::t)=if BD 1 r.st=true then(Ar 1 r.m t).map (fun m'=>(⟨m',1⟩:Nb)) else none:=by
  have hk:EX Jj=1:=by kernel_rfl
  unfold Ai
  simp only [hk]
  rw [if_neg (by decide)]
 have VI:=AA hlv
 have HI:=AA h
 have hz0:((((Jj::t).length:Nat):Int)==0)=false:=by rw [beq_eq_false_iff_ne,List.length_cons];omega
 obtain⟨n,hn⟩: ∃n,n=(Jj::t).length:=⟨_,rfl⟩
 rw [←hn] at hz0
 have hn0:0<n:=by rw [hn,List.length_cons];omega
 have RH:=AA hn
 have Es:=AA hcall
 have dM:=h.mlt
 have hhi:=h.hhi
 have R7:=AA h.map
 obtain⟨col,v1,v2,v3,v6,v7,v8,hr⟩:=h.rd.close
 have hlow:=hr.low
 have htop:=hr.top
 have HR:=AA hr
 clear hcall hlv h hr
 go_enter func59,ntmps59
 go_wp2_with fail
 refine Es.out.mono ?_
 clear Es
 rintro e w1 ⟨A,rfl,hA,ho,hb1⟩
 have hw1:=KY ho hA (List.cons_ne_nil _ _) (by omega)
 have q0:w1.cell? ⟨A,0,none⟩=some (.string ⟨#[102,108,97,103,111,110]⟩):=hw1.at_ 0 _ rfl
 have hlt1:=hw1.lt
 have hbl:=HR.out.blk.lt
 have hsz1:=hb1.size
 have g8:w1.cell? ⟨b,8,none⟩=some (.int .i64 r.st):=(hb1.cell (p:=⟨b,8,none⟩) hbl).trans (HR.out.blk.cell 8)
 have Ie:w1.heap[M]?=some (.map JD 8):=(hb1.block M dM).trans R7.out
 have M6:=M5 (P:=prog) (W:=w1) (s:=⟨#[102,108,97,103,111,110]⟩) underlying108 underlying9 Ie (i:=0) (v:= .agg #[.int .i64 1,.func (.func 88) #[] #[]]) (by kernel_rfl)
 have HW1:=AA hw1;have HB1:=AA hb1
 rw [←RH.out]
 have Qw:(((⟨#[102,108,97,103,111,110]⟩:ByteArray)[0].toNat:Int)==59)=false:=by decide
 clear hn ho hb1 hw1 Ie hws hpos hwd
 go_wp2_with fail
 generalize hw2:World.alloc _ _=w2
 have I5:Below w1.heap.size w1 w2:=by rw [←hw2];exact(Below.refl _ _).alloc (Nat.le_refl _) _
 have hx2:AV w2 w1.heap.size 148 [.int .i64 1,.func (.func 88) #[] #[]]:=by rw [←hw2];exact AV.new w1 _ [.int .i64 1,.func (.func 88) #[] #[]]
 obtain⟨h6,TL⟩: ∃h6,h6=w1.heap.size:=⟨_,rfl⟩
 rw [←TL] at hx2⊢
 have dA:w.heap.size≤h6:=by omega
 have HB2:=AA (HB1.out.trans (I5.mono hsz1))
 have HW2:=AA (HW1.out.below I5)
 have x0:=hx2.q 0 rfl
 have x1:=hx2.q 1 rfl
 have y8:w2.cell? ⟨b,8,none⟩=some (.int .i64 r.st):=(HB2.out.cell (p:=⟨b,8,none⟩) hbl).trans (HR.out.blk.cell 8)
 have z8:=(HR.out.blk.below HB2.out hbl).frozen 8
 have RG:=AA hx2
 clear hw2 I5 hx2 TL g8 q0 M6 HW1 HB1
 have hbad:BD 1 r.st=false→Hid (Ai r (Jj::t)=none∧Keep (fun k=>k<B∧k≠b) w w2.drew∧w2.drew.cell? ⟨b,9,none⟩=some (.int .i64 ln)):=fun hf=>
  AA ⟨by rw [VI.out,hf];rfl,((Keep.Am HB2.out).ER (fun k hk _=>hk)).drew,(HB2.out.cell (p:=⟨b,9,none⟩) hbl).trans (HR.out.blk.cell 9)⟩
 have hN0:((⟨#[102,108,97,103,111,110]⟩:ByteArray)[0].toNat:Int)=102:=by decide
 rw [hN0]
 clear Qw hN0
 by_cases hc:1<r.st
 case pos=>
  have HBAD:=hbad (by cases hb:BD 1 r.st with | false=>rfl | true=>exfalso;unfold BD at hb;simp at hb;omega)
  have d0:decide ((r.st:Int)≤1)=false:=decide_eq_false (by omega)
  clear hbad
  refine wp_region_held_drew (S:=fun W=>W.cell? ⟨h6,0,none⟩=some (.int .i64 1)∧W.cell? ⟨b,8,none⟩=some (.int .i64 r.st)) (by kernel_rfl) ⟨x0,y8⟩ (fun hHeld=> ?_)
  refine AB (i:=0) (v:= ?_) rfl (by kernel_rfl) (fun _ _ _ h=>h) (by intro w hSw;(try dsimp only at hSw);go_simp;try with_reducible rfl) hHeld ?_
  refine AB (i:=1) (v:= ?_) rfl (by kernel_rfl) (fun _ _ _ h=>h) (by intro w hSw;(try dsimp only at hSw);go_simp;try with_reducible rfl) hHeld ?_
  refine AB (i:=2) (v:= ?_) rfl (by kernel_rfl) (fun _ _ _ h=>h) (by intro w hSw;(try dsimp only at hSw);go_simp;try with_reducible rfl) hHeld ?_
  refine AB (i:=3) (v:= ?_) rfl (by kernel_rfl) (fun _ _ _ h=>h) (by intro w hSw;(try dsimp only at hSw);go_simp;try with_reducible rfl) hHeld ?_
  refine AB (i:=4) (v:= ?_) rfl (by kernel_rfl) (fun _ _ _ h=>h) (by intro w hSw;(try dsimp only at hSw);go_simp;try with_reducible rfl) hHeld ?_
  refine AB (i:=5) (v:= ?_) rfl (by kernel_rfl) (fun _ _ _ h=>h) (by intro w hSw;(try dsimp only at hSw);go_simp;try with_reducible rfl) hHeld ?_
  refine AB (i:=6) (v:= ?_) rfl (by kernel_rfl) (fun _ _ _ h=>h) (by intro w hSw;(try dsimp only at hSw);go_simp;try with_reducible rfl) hHeld ?_
  refine AB (i:=7) (v:= ?_) rfl (by kernel_rfl) (fun _ _ _ h=>h) (by intro w hSw;(try dsimp only at hSw);go_simp;try with_reducible rfl) hHeld ?_
  refine AJ (i:=8) rfl (by kernel_rfl) (fun _ _ _ h=>h) hHeld ?_
  refine AJ (i:=9) rfl (by kernel_rfl) (fun _ _ _ h=>h) hHeld ?_
  refine AJ (i:=10) rfl (by kernel_rfl) (fun _ _ _ h=>h) hHeld ?_
  refine AJ (i:=11) rfl (by kernel_rfl) (fun _ _ _ h=>h) hHeld ?_
  refine AJ (i:=12) rfl (by kernel_rfl) (fun _ _ _ h=>h) hHeld ?_
  refine AJ (i:=13) rfl (by kernel_rfl) (fun _ _ _ h=>h) hHeld ?_
  refine AJ (i:=14) rfl (by kernel_rfl) (fun _ _ _ h=>h) hHeld ?_
  refine AJ (i:=15) rfl (by kernel_rfl) (fun _ _ _ h=>h) hHeld ?_
  refine AJ (i:=16) rfl (by kernel_rfl) (fun _ _ _ h=>h) hHeld ?_
  refine AJ (i:=17) rfl (by kernel_rfl) (fun _ _ _ h=>h) hHeld ?_
  refine AJ (i:=18) rfl (by kernel_rfl) (fun _ _ _ h=>h) hHeld ?_
  refine AB (i:=19) (v:= ?_) rfl (by kernel_rfl) (fun _ _ _ h=>h) (by intro w hSw;(try dsimp only at hSw);go_simp;try with_reducible rfl) hHeld ?_
  refine wpAnyH_ready (rs:= [20]) (by kernel_rfl) (by simp) ?_
  refine AllReadyH.cons rfl (fun K hK=> ?_) AllReadyH.nil
  go_simp
  refine(AZ _).mono ?_
  rintro e w3 ⟨rfl,rfl⟩
  go_wp2_with fail
  exact⟨rfl,HBAD.out.2.1,.inl ⟨HBAD.out.1,rfl,HBAD.out.2.2⟩⟩
 by_cases hc:r.st=1
 case pos=>
  have HBAD:=hbad (by cases hb:BD 1 r.st with | false=>rfl | true=>exfalso;unfold BD at hb;simp at hb;omega)
  have d0:decide ((r.st:Int)≤1)=true:=decide_eq_true (by omega)
  have d1:decide ((r.st:Int)<1)=false:=decide_eq_false (by omega)
  clear hbad
  refine wp_region_held_drew (S:=fun W=>W.cell? ⟨h6,0,none⟩=some (.int .i64 1)∧W.cell? ⟨b,8,none⟩=some (.int .i64 r.st)) (by kernel_rfl) ⟨x0,y8⟩ (fun hHeld=> ?_)
  refine AB (i:=0) (v:= ?_) rfl (by kernel_rfl) (fun _ _ _ h=>h) (by intro w hSw;(try dsimp only at hSw);go_simp;try with_reducible rfl) hHeld ?_
  refine AB (i:=1) (v:= ?_) rfl (by kernel_rfl) (fun _ _ _ h=>h) (by intro w hSw;(try dsimp only at hSw);go_simp;try with_reducible rfl) hHeld ?_
  refine AB (i:=2) (v:= ?_) rfl (by kernel_rfl) (fun _ _ _ h=>h) (by intro w hSw;(try dsimp only at hSw);go_simp;try with_reducible rfl) hHeld ?_
  refine AB (i:=3) (v:= ?_) rfl (by kernel_rfl) (fun _ _ _ h=>h) (by intro w hSw;(try dsimp only at hSw);go_simp;try with_reducible rfl) hHeld ?_
  refine AB (i:=4) (v:= ?_) rfl (by kernel_rfl) (fun _ _ _ h=>h) (by intro w hSw;(try dsimp only at hSw);go_simp;try with_reducible rfl) hHeld ?_
  refine AB (i:=5) (v:= ?_) rfl (by kernel_rfl) (fun _ _ _ h=>h) (by intro w hSw;(try dsimp only at hSw);go_simp;try with_reducible rfl) hHeld ?_
  refine AB (i:=6) (v:= ?_) rfl (by kernel_rfl) (fun _ _ _ h=>h) (by intro w hSw;(try dsimp only at hSw);go_simp;try with_reducible rfl) hHeld ?_
  refine AB (i:=7) (v:= ?_) rfl (by kernel_rfl) (fun _ _ _ h=>h) (by intro w hSw;(try dsimp only at hSw);go_simp;try with_reducible rfl) hHeld ?_
  refine AB (i:=8) (v:= ?_) rfl (by kernel_rfl) (fun _ _ _ h=>h) (by intro w hSw;(try dsimp only at hSw);go_simp;try with_reducible rfl) hHeld ?_
  refine AB (i:=9) (v:= ?_) rfl (by kernel_rfl) (fun _ _ _ h=>h) (by intro w hSw;(try dsimp only at hSw);go_simp;try with_reducible rfl) hHeld ?_
  refine AB (i:=10) (v:= ?_) rfl (by kernel_rfl) (fun _ _ _ h=>h) (by intro w hSw;(try dsimp only at hSw);go_simp;try with_reducible rfl) hHeld ?_
  refine AB (i:=11) (v:= ?_) rfl (by kernel_rfl) (fun _ _ _ h=>h) (by intro w hSw;(try dsimp only at hSw);go_simp;try with_reducible rfl) hHeld ?_
  refine AB (i:=12) (v:= ?_) rfl (by kernel_rfl) (fun _ _ _ h=>h) (by intro w hSw;(try dsimp only at hSw);go_simp;try with_reducible rfl) hHeld ?_
  refine AB (i:=13) (v:= ?_) rfl (by kernel_rfl) (fun _ _ _ h=>h) (by intro w hSw;(try dsimp only at hSw);go_simp;try with_reducible rfl) hHeld ?_
  refine AB (i:=14) (v:= ?_) rfl (by kernel_rfl) (fun _ _ _ h=>h) (by intro w hSw;(try dsimp only at hSw);go_simp;try with_reducible rfl) hHeld ?_
  refine AB (i:=15) (v:= ?_) rfl (by kernel_rfl) (fun _ _ _ h=>h) (by intro w hSw;(try dsimp only at hSw);go_simp;try with_reducible rfl) hHeld ?_
  refine AB (i:=16) (v:= ?_) rfl (by kernel_rfl) (fun _ _ _ h=>h) (by intro w hSw;(try dsimp only at hSw);go_simp;try with_reducible rfl) hHeld ?_
  refine AB (i:=17) (v:= ?_) rfl (by kernel_rfl) (fun _ _ _ h=>h) (by intro w hSw;(try dsimp only at hSw);go_simp;try with_reducible rfl) hHeld ?_
  refine AB (i:=18) (v:= ?_) rfl (by kernel_rfl) (fun _ _ _ h=>h) (by intro w hSw;(try dsimp only at hSw);go_simp;try with_reducible rfl) hHeld ?_
  refine AB (i:=19) (v:= ?_) rfl (by kernel_rfl) (fun _ _ _ h=>h) (by intro w hSw;(try dsimp only at hSw);go_simp;try with_reducible rfl) hHeld ?_
  refine wpAnyH_ready (rs:= [20]) (by kernel_rfl) (by simp) ?_
  refine AllReadyH.cons rfl (fun K hK=> ?_) AllReadyH.nil
  go_simp
  refine(AZ _).mono ?_
  rintro e w3 ⟨rfl,rfl⟩
  go_wp2_with fail
  exact⟨rfl,HBAD.out.2.1,.inl ⟨HBAD.out.1,rfl,HBAD.out.2.2⟩⟩
 have d0:decide ((r.st:Int)≤1)=true:=decide_eq_true (by omega)
 have d1:decide ((r.st:Int)<1)=true:=decide_eq_true (by omega)
 have d2:((r.st:Int) !=0)=false:=by rw [bne_eq_false_iff_eq];omega
 have XW:Hid (Ai r (Jj::t)=(Ar 1 r.m t).map (fun m'=>(⟨m',1⟩:Nb))):=AA (by
  have ho:BD 1 r.st=true:=by
   cases hb:BD 1 r.st with
   | true=>rfl
   | false=>exfalso;unfold BD at hb;simp at hb;omega
  rw [VI.out,ho];rfl)
 clear hbad
 refine wp_region_held_drew (S:=fun W=>W.cell? ⟨h6,0,none⟩=some (.int .i64 1)∧W.cell? ⟨b,8,none⟩=some (.int .i64 r.st)) (by kernel_rfl) ⟨x0,y8⟩ (fun hHeld=> ?_)
 refine AB (i:=0) (v:= ?_) rfl (by kernel_rfl) (fun _ _ _ h=>h) (by intro w hSw;(try dsimp only at hSw);go_simp;try with_reducible rfl) hHeld ?_
 refine AB (i:=1) (v:= ?_) rfl (by kernel_rfl) (fun _ _ _ h=>h) (by intro w hSw;(try dsimp only at hSw);go_simp;try with_reducible rfl) hHeld ?_
 refine AB (i:=2) (v:= ?_) rfl (by kernel_rfl) (fun _ _ _ h=>h) (by intro w hSw;(try dsimp only at hSw);go_simp;try with_reducible rfl) hHeld ?_
 refine AB (i:=3) (v:= ?_) rfl (by kernel_rfl) (fun _ _ _ h=>h) (by intro w hSw;(try dsimp only at hSw);go_simp;try with_reducible rfl) hHeld ?_
 refine AB (i:=4) (v:= ?_) rfl (by kernel_rfl) (fun _ _ _ h=>h) (by intro w hSw;(try dsimp only at hSw);go_simp;try with_reducible rfl) hHeld ?_
 refine AB (i:=5) (v:= ?_) rfl (by kernel_rfl) (fun _ _ _ h=>h) (by intro w hSw;(try dsimp only at hSw);go_simp;try with_reducible rfl) hHeld ?_
 refine AB (i:=6) (v:= ?_) rfl (by kernel_rfl) (fun _ _ _ h=>h) (by intro w hSw;(try dsimp only at hSw);go_simp;try with_reducible rfl) hHeld ?_
 refine AB (i:=7) (v:= ?_) rfl (by kernel_rfl) (fun _ _ _ h=>h) (by intro w hSw;(try dsimp only at hSw);go_simp;try with_reducible rfl) hHeld ?_
 refine AB (i:=8) (v:= ?_) rfl (by kernel_rfl) (fun _ _ _ h=>h) (by intro w hSw;(try dsimp only at hSw);go_simp;try with_reducible rfl) hHeld ?_
 refine AB (i:=9) (v:= ?_) rfl (by kernel_rfl) (fun _ _ _ h=>h) (by intro w hSw;(try dsimp only at hSw);go_simp;try with_reducible rfl) hHeld ?_
 refine AB (i:=10) (v:= ?_) rfl (by kernel_rfl) (fun _ _ _ h=>h) (by intro w hSw;(try dsimp only at hSw);go_simp;try with_reducible rfl) hHeld ?_
 refine AB (i:=11) (v:= ?_) rfl (by kernel_rfl) (fun _ _ _ h=>h) (by intro w hSw;(try dsimp only at hSw);go_simp;try with_reducible rfl) hHeld ?_
 refine AB (i:=12) (v:= ?_) rfl (by kernel_rfl) (fun _ _ _ h=>h) (by intro w hSw;(try dsimp only at hSw);go_simp;try with_reducible rfl) hHeld ?_
 refine AB (i:=13) (v:= ?_) rfl (by kernel_rfl) (fun _ _ _ h=>h) (by intro w hSw;(try dsimp only at hSw);go_simp;try with_reducible rfl) hHeld ?_
 refine AB (i:=14) (v:= ?_) rfl (by kernel_rfl) (fun _ _ _ h=>h) (by intro w hSw;(try dsimp only at hSw);go_simp;try with_reducible rfl) hHeld ?_
 refine AB (i:=15) (v:= ?_) rfl (by kernel_rfl) (fun _ _ _ h=>h) (by intro w hSw;(try dsimp only at hSw);go_simp;try with_reducible rfl) hHeld ?_
 refine AB (i:=16) (v:= ?_) rfl (by kernel_rfl) (fun _ _ _ h=>h) (by intro w hSw;(try dsimp only at hSw);go_simp;try with_reducible rfl) hHeld ?_
 refine AB (i:=17) (v:= ?_) rfl (by kernel_rfl) (fun _ _ _ h=>h) (by intro w hSw;(try dsimp only at hSw);go_simp;try with_reducible rfl) hHeld ?_
 refine AB (i:=18) (v:= ?_) rfl (by kernel_rfl) (fun _ _ _ h=>h) (by intro w hSw;(try dsimp only at hSw);go_simp;try with_reducible rfl) hHeld ?_
 refine AB (i:=19) (v:= ?_) rfl (by kernel_rfl) (fun _ _ _ h=>h) (by intro w hSw;(try dsimp only at hSw);go_simp;try with_reducible rfl) hHeld ?_
 refine wpAnyH_ready (rs:= [20]) (by kernel_rfl) (by simp) ?_
 refine AllReadyH.cons rfl (fun K hK=> ?_) AllReadyH.nil
 go_simp
 refine(AP _).mono ?_
 rintro e w3 ⟨rfl,rfl⟩
 refine hK.out _ _ ⟨x0,y8⟩ (fun AX=> ?_)
 clear hK K
 refine wpAnyH_done (by kernel_rfl) ?_ _
 clear hHeld AX
 go_wp2_with fail
 refine(AP _).mono ?_
 rintro e w3 ⟨rfl,rfl⟩
 go_wp2_with fail
 refine(AP _).mono ?_
 rintro e w3 ⟨rfl,rfl⟩
 go_upto_region 10 with fail
 have Un:QZ B b (w2.setCell ⟨b,8,none⟩ (.int .i64 (1:Nat))).drew _ v1 v2 v3 v6 v7 v8 r.m 1 ln:=((HR.out.below HB2.out).stage 1).below ((Below.refl _ _).drew)
 have hx5:AV (w2.setCell ⟨b,8,none⟩ (.int .i64 (1:Nat))).drew h6 148 [.int .i64 1,.func (.func 88) #[] #[]]:=(RG.out.far (p:=⟨b,8,none⟩) (by show h6≠b;omega) _).drewN 1
 have XY:Keep (fun k=>k<B∧k≠b) w (w2.setCell ⟨b,8,none⟩ (.int .i64 (1:Nat))).drew:=(((Keep.Am HB2.out).ER (fun k hk _=>hk)).setCell (p:=⟨b,8,none⟩) (fun e=>e.2 rfl) _).drew
 have XZ:En (w2.setCell ⟨b,8,none⟩ (.int .i64 (1:Nat))).drew A (Jj::t):=(HW2.out.keep (K:=fun k=>k≠b) (((Keep.refl _ w2).setCell (p:=⟨b,8,none⟩) (fun e=>e rfl) _).drew) (by omega))
 have Xa:Dt hi (w2.setCell ⟨b,8,none⟩ (.int .i64 (1:Nat))).drew:=HI.out.env.to (((HB2.out.mono (show hi≤w.heap.size by omega)).setCell (p:=⟨b,8,none⟩) hhi _).drew)
 generalize World.drew (w2.setCell _ _)=w5 at*
 have x1:=hx5.q 1 rfl
 have Ra:=AA Un;have Rb:=AA XY;have iD:=AA XZ;have Zt:=AA Xa
 clear Un XY XZ Xa hx5 x0 y8 z8 RG HW2
 go_wp2_with fail
 rw [RH.out]
 refine(sV ⟨Ra.out,iD.out,Zt.out,hhi,HI.out.lens,by omega⟩ (List.cons_ne_nil _ _)).mono ?_
 rintro e w6 hm
 have hpost:Gw B b w ln (Ai r (Jj::t)) e w6:=by
  rcases hm with⟨h1,h2,h3⟩ | ⟨m',h1,h2,h3,h4⟩
  ·refine⟨Rb.out.trans ((Keep.Am h3).ER (fun k hk _=>hk)),.inl ⟨?_,h2,(h3.cell (p:=⟨b,9,none⟩) Ra.out.blk.lt).trans (Ra.out.blk.cell 9)⟩⟩
   rw [XW.out];rw [List.tail_cons] at h1;rw [h1];rfl
  ·refine⟨Rb.out.trans h3,.inr ⟨⟨m',1⟩,?_,h2,?_⟩⟩
   ·rw [XW.out];rw [List.tail_cons] at h1;rw [h1];rfl
   ·exact .inl ⟨(show(1:Nat)≠6 by decide),h4⟩
 have HP:=AA hpost
 rcases hm with⟨_,rfl,_⟩ | ⟨m',_,rfl,_,_⟩
 ·go_wp2_with fail
  exact⟨rfl,HP.out⟩
 ·go_wp2_with fail
  go_end0
  exact HP.out
theorem nG (h:qE B b hi M w r ln s) {t:List ByteArray} (hwd:EP s=PU::t):
 Calls prog 59 #[.pointer (some ⟨b,0,none⟩),.string s,.map (some M)] w (Gw B b w ln (Ai r (EP s))):=by
 have hcall:=Hq s (by have:=h.sz;omega) w
 obtain⟨hws,hpos⟩:=Ho s
 have hsz:=h.sz
 rw [hwd] at hcall hws⊢
 have hlv:Ai r (PU::t)=if BD 2 r.st=true then(Ar 2 r.m t).map (fun m'=>(⟨m',2⟩:Nb)) else none:=by
  have hk:EX PU=2:=by kernel_rfl
  unfold Ai
  simp only [hk]
  rw [if_neg (by decide)]
 have VI:=AA hlv
 have HI:=AA h
 have hz0:((((PU::t).length:Nat):Int)==0)=false:=by rw [beq_eq_false_iff_ne,List.length_cons];omega
 obtain⟨n,hn⟩: ∃n,n=(PU::t).length:=⟨_,rfl⟩
 rw [←hn] at hz0
 have hn0:0<n:=by rw [hn,List.length_cons];omega
 have RH:=AA hn
 have Es:=AA hcall
 have dM:=h.mlt
 have hhi:=h.hhi
 have R7:=AA h.map
 obtain⟨col,v1,v2,v3,v6,v7,v8,hr⟩:=h.rd.close
 have hlow:=hr.low
 have htop:=hr.top
 have HR:=AA hr
 clear hcall hlv h hr
 go_enter func59,ntmps59
 go_wp2_with fail
 refine Es.out.mono ?_
 clear Es
 rintro e w1 ⟨A,rfl,hA,ho,hb1⟩
 have hw1:=KY ho hA (List.cons_ne_nil _ _) (by omega)
 have q0:w1.cell? ⟨A,0,none⟩=some (.string ⟨#[116,121,112,101]⟩):=hw1.at_ 0 _ rfl
 have hlt1:=hw1.lt
 have hbl:=HR.out.blk.lt
 have hsz1:=hb1.size
 have g8:w1.cell? ⟨b,8,none⟩=some (.int .i64 r.st):=(hb1.cell (p:=⟨b,8,none⟩) hbl).trans (HR.out.blk.cell 8)
 have Ie:w1.heap[M]?=some (.map JD 8):=(hb1.block M dM).trans R7.out
 have M6:=M5 (P:=prog) (W:=w1) (s:=⟨#[116,121,112,101]⟩) underlying108 underlying9 Ie (i:=1) (v:= .agg #[.int .i64 2,.func (.func 89) #[] #[]]) (by kernel_rfl)
 have HW1:=AA hw1;have HB1:=AA hb1
 rw [←RH.out]
 have Qw:(((⟨#[116,121,112,101]⟩:ByteArray)[0].toNat:Int)==59)=false:=by decide
 clear hn ho hb1 hw1 Ie hws hpos hwd
 go_wp2_with fail
 generalize hw2:World.alloc _ _=w2
 have I5:Below w1.heap.size w1 w2:=by rw [←hw2];exact(Below.refl _ _).alloc (Nat.le_refl _) _
 have hx2:AV w2 w1.heap.size 148 [.int .i64 2,.func (.func 89) #[] #[]]:=by rw [←hw2];exact AV.new w1 _ [.int .i64 2,.func (.func 89) #[] #[]]
 obtain⟨h6,TL⟩: ∃h6,h6=w1.heap.size:=⟨_,rfl⟩
 rw [←TL] at hx2⊢
 have dA:w.heap.size≤h6:=by omega
 have HB2:=AA (HB1.out.trans (I5.mono hsz1))
 have HW2:=AA (HW1.out.below I5)
 have x0:=hx2.q 0 rfl
 have x1:=hx2.q 1 rfl
 have y8:w2.cell? ⟨b,8,none⟩=some (.int .i64 r.st):=(HB2.out.cell (p:=⟨b,8,none⟩) hbl).trans (HR.out.blk.cell 8)
 have z8:=(HR.out.blk.below HB2.out hbl).frozen 8
 have RG:=AA hx2
 clear hw2 I5 hx2 TL g8 q0 M6 HW1 HB1
 have hbad:BD 2 r.st=false→Hid (Ai r (PU::t)=none∧Keep (fun k=>k<B∧k≠b) w w2.drew∧w2.drew.cell? ⟨b,9,none⟩=some (.int .i64 ln)):=fun hf=>
  AA ⟨by rw [VI.out,hf];rfl,((Keep.Am HB2.out).ER (fun k hk _=>hk)).drew,(HB2.out.cell (p:=⟨b,9,none⟩) hbl).trans (HR.out.blk.cell 9)⟩
 have hN0:((⟨#[116,121,112,101]⟩:ByteArray)[0].toNat:Int)=116:=by decide
 rw [hN0]
 clear Qw hN0
 by_cases hc:2<r.st
 case pos=>
  have HBAD:=hbad (by cases hb:BD 2 r.st with | false=>rfl | true=>exfalso;unfold BD at hb;simp at hb;omega)
  have d0:decide ((r.st:Int)≤2)=false:=decide_eq_false (by omega)
  clear hbad
  refine wp_region_held_drew (S:=fun W=>W.cell? ⟨h6,0,none⟩=some (.int .i64 2)∧W.cell? ⟨b,8,none⟩=some (.int .i64 r.st)) (by kernel_rfl) ⟨x0,y8⟩ (fun hHeld=> ?_)
  refine AB (i:=0) (v:= ?_) rfl (by kernel_rfl) (fun _ _ _ h=>h) (by intro w hSw;(try dsimp only at hSw);go_simp;try with_reducible rfl) hHeld ?_
  refine AB (i:=1) (v:= ?_) rfl (by kernel_rfl) (fun _ _ _ h=>h) (by intro w hSw;(try dsimp only at hSw);go_simp;try with_reducible rfl) hHeld ?_
  refine AB (i:=2) (v:= ?_) rfl (by kernel_rfl) (fun _ _ _ h=>h) (by intro w hSw;(try dsimp only at hSw);go_simp;try with_reducible rfl) hHeld ?_
  refine AB (i:=3) (v:= ?_) rfl (by kernel_rfl) (fun _ _ _ h=>h) (by intro w hSw;(try dsimp only at hSw);go_simp;try with_reducible rfl) hHeld ?_
  refine AB (i:=4) (v:= ?_) rfl (by kernel_rfl) (fun _ _ _ h=>h) (by intro w hSw;(try dsimp only at hSw);go_simp;try with_reducible rfl) hHeld ?_
  refine AB (i:=5) (v:= ?_) rfl (by kernel_rfl) (fun _ _ _ h=>h) (by intro w hSw;(try dsimp only at hSw);go_simp;try with_reducible rfl) hHeld ?_
  refine AB (i:=6) (v:= ?_) rfl (by kernel_rfl) (fun _ _ _ h=>h) (by intro w hSw;(try dsimp only at hSw);go_simp;try with_reducible rfl) hHeld ?_
  refine AB (i:=7) (v:= ?_) rfl (by kernel_rfl) (fun _ _ _ h=>h) (by intro w hSw;(try dsimp only at hSw);go_simp;try with_reducible rfl) hHeld ?_
  refine AJ (i:=8) rfl (by kernel_rfl) (fun _ _ _ h=>h) hHeld ?_
  refine AJ (i:=9) rfl (by kernel_rfl) (fun _ _ _ h=>h) hHeld ?_
  refine AJ (i:=10) rfl (by kernel_rfl) (fun _ _ _ h=>h) hHeld ?_
  refine AJ (i:=11) rfl (by kernel_rfl) (fun _ _ _ h=>h) hHeld ?_
  refine AJ (i:=12) rfl (by kernel_rfl) (fun _ _ _ h=>h) hHeld ?_
  refine AJ (i:=13) rfl (by kernel_rfl) (fun _ _ _ h=>h) hHeld ?_
  refine AJ (i:=14) rfl (by kernel_rfl) (fun _ _ _ h=>h) hHeld ?_
  refine AJ (i:=15) rfl (by kernel_rfl) (fun _ _ _ h=>h) hHeld ?_
  refine AJ (i:=16) rfl (by kernel_rfl) (fun _ _ _ h=>h) hHeld ?_
  refine AJ (i:=17) rfl (by kernel_rfl) (fun _ _ _ h=>h) hHeld ?_
  refine AJ (i:=18) rfl (by kernel_rfl) (fun _ _ _ h=>h) hHeld ?_
  refine AB (i:=19) (v:= ?_) rfl (by kernel_rfl) (fun _ _ _ h=>h) (by intro w hSw;(try dsimp only at hSw);go_simp;try with_reducible rfl) hHeld ?_
  refine wpAnyH_ready (rs:= [20]) (by kernel_rfl) (by simp) ?_
  refine AllReadyH.cons rfl (fun K hK=> ?_) AllReadyH.nil
  go_simp
  refine(AZ _).mono ?_
  rintro e w3 ⟨rfl,rfl⟩
  go_wp2_with fail
  exact⟨rfl,HBAD.out.2.1,.inl ⟨HBAD.out.1,rfl,HBAD.out.2.2⟩⟩
 by_cases hc:r.st=0
 case pos=>
  have HBAD:=hbad (by cases hb:BD 2 r.st with | false=>rfl | true=>exfalso;unfold BD at hb;simp at hb;omega)
  have d0:decide ((r.st:Int)≤2)=true:=decide_eq_true (by omega)
  have d1:((r.st:Int) !=0)=false:=by rw [bne_eq_false_iff_eq];omega
  clear hbad
  refine wp_region_held_drew (S:=fun W=>W.cell? ⟨h6,0,none⟩=some (.int .i64 2)∧W.cell? ⟨b,8,none⟩=some (.int .i64 r.st)) (by kernel_rfl) ⟨x0,y8⟩ (fun hHeld=> ?_)
  refine AB (i:=0) (v:= ?_) rfl (by kernel_rfl) (fun _ _ _ h=>h) (by intro w hSw;(try dsimp only at hSw);go_simp;try with_reducible rfl) hHeld ?_
  refine AB (i:=1) (v:= ?_) rfl (by kernel_rfl) (fun _ _ _ h=>h) (by intro w hSw;(try dsimp only at hSw);go_simp;try with_reducible rfl) hHeld ?_
  refine AB (i:=2) (v:= ?_) rfl (by kernel_rfl) (fun _ _ _ h=>h) (by intro w hSw;(try dsimp only at hSw);go_simp;try with_reducible rfl) hHeld ?_
  refine AB (i:=3) (v:= ?_) rfl (by kernel_rfl) (fun _ _ _ h=>h) (by intro w hSw;(try dsimp only at hSw);go_simp;try with_reducible rfl) hHeld ?_
  refine AB (i:=4) (v:= ?_) rfl (by kernel_rfl) (fun _ _ _ h=>h) (by intro w hSw;(try dsimp only at hSw);go_simp;try with_reducible rfl) hHeld ?_
  refine AB (i:=5) (v:= ?_) rfl (by kernel_rfl) (fun _ _ _ h=>h) (by intro w hSw;(try dsimp only at hSw);go_simp;try with_reducible rfl) hHeld ?_
  refine AB (i:=6) (v:= ?_) rfl (by kernel_rfl) (fun _ _ _ h=>h) (by intro w hSw;(try dsimp only at hSw);go_simp;try with_reducible rfl) hHeld ?_
  refine AB (i:=7) (v:= ?_) rfl (by kernel_rfl) (fun _ _ _ h=>h) (by intro w hSw;(try dsimp only at hSw);go_simp;try with_reducible rfl) hHeld ?_
  refine AB (i:=8) (v:= ?_) rfl (by kernel_rfl) (fun _ _ _ h=>h) (by intro w hSw;(try dsimp only at hSw);go_simp;try with_reducible rfl) hHeld ?_
  refine AB (i:=9) (v:= ?_) rfl (by kernel_rfl) (fun _ _ _ h=>h) (by intro w hSw;(try dsimp only at hSw);go_simp;try with_reducible rfl) hHeld ?_
  refine AB (i:=10) (v:= ?_) rfl (by kernel_rfl) (fun _ _ _ h=>h) (by intro w hSw;(try dsimp only at hSw);go_simp;try with_reducible rfl) hHeld ?_
  refine AJ (i:=11) rfl (by kernel_rfl) (fun _ _ _ h=>h) hHeld ?_
  refine AJ (i:=12) rfl (by kernel_rfl) (fun _ _ _ h=>h) hHeld ?_
  refine AJ (i:=13) rfl (by kernel_rfl) (fun _ _ _ h=>h) hHeld ?_
  refine AJ (i:=14) rfl (by kernel_rfl) (fun _ _ _ h=>h) hHeld ?_
  refine AJ (i:=15) rfl (by kernel_rfl) (fun _ _ _ h=>h) hHeld ?_
  refine AJ (i:=16) rfl (by kernel_rfl) (fun _ _ _ h=>h) hHeld ?_
  refine AJ (i:=17) rfl (by kernel_rfl) (fun _ _ _ h=>h) hHeld ?_
  refine AB (i:=18) (v:= ?_) rfl (by kernel_rfl) (fun _ _ _ h=>h) (by intro w hSw;(try dsimp only at hSw);go_simp;try with_reducible rfl) hHeld ?_
  refine AB (i:=19) (v:= ?_) rfl (by kernel_rfl) (fun _ _ _ h=>h) (by intro w hSw;(try dsimp only at hSw);go_simp;try with_reducible rfl) hHeld ?_
  refine wpAnyH_ready (rs:= [20]) (by kernel_rfl) (by simp) ?_
  refine AllReadyH.cons rfl (fun K hK=> ?_) AllReadyH.nil
  go_simp
  refine(AP _).mono ?_
  rintro e w3 ⟨rfl,rfl⟩
  refine hK.out _ _ ⟨x0,y8⟩ (fun AX=> ?_)
  clear hK K
  refine wpAnyH_done (by kernel_rfl) ?_ _
  clear hHeld AX
  go_wp2_with fail
  refine(AZ _).mono ?_
  rintro e w3 ⟨rfl,rfl⟩
  go_wp2_with fail
  exact⟨rfl,HBAD.out.2.1,.inl ⟨HBAD.out.1,rfl,HBAD.out.2.2⟩⟩
 have d0:decide ((r.st:Int)≤2)=true:=decide_eq_true (by omega)
 have d1:((r.st:Int) !=0)=true:=by rw [bne_iff_ne];omega
 have XW:Hid (Ai r (PU::t)=(Ar 2 r.m t).map (fun m'=>(⟨m',2⟩:Nb))):=AA (by
  have ho:BD 2 r.st=true:=by
   cases hb:BD 2 r.st with
   | true=>rfl
   | false=>exfalso;unfold BD at hb;simp at hb;omega
  rw [VI.out,ho];rfl)
 clear hbad
 refine wp_region_held_drew (S:=fun W=>W.cell? ⟨h6,0,none⟩=some (.int .i64 2)∧W.cell? ⟨b,8,none⟩=some (.int .i64 r.st)) (by kernel_rfl) ⟨x0,y8⟩ (fun hHeld=> ?_)
 refine AB (i:=0) (v:= ?_) rfl (by kernel_rfl) (fun _ _ _ h=>h) (by intro w hSw;(try dsimp only at hSw);go_simp;try with_reducible rfl) hHeld ?_
 refine AB (i:=1) (v:= ?_) rfl (by kernel_rfl) (fun _ _ _ h=>h) (by intro w hSw;(try dsimp only at hSw);go_simp;try with_reducible rfl) hHeld ?_
 refine AB (i:=2) (v:= ?_) rfl (by kernel_rfl) (fun _ _ _ h=>h) (by intro w hSw;(try dsimp only at hSw);go_simp;try with_reducible rfl) hHeld ?_
 refine AB (i:=3) (v:= ?_) rfl (by kernel_rfl) (fun _ _ _ h=>h) (by intro w hSw;(try dsimp only at hSw);go_simp;try with_reducible rfl) hHeld ?_
 refine AB (i:=4) (v:= ?_) rfl (by kernel_rfl) (fun _ _ _ h=>h) (by intro w hSw;(try dsimp only at hSw);go_simp;try with_reducible rfl) hHeld ?_
 refine AB (i:=5) (v:= ?_) rfl (by kernel_rfl) (fun _ _ _ h=>h) (by intro w hSw;(try dsimp only at hSw);go_simp;try with_reducible rfl) hHeld ?_
 refine AB (i:=6) (v:= ?_) rfl (by kernel_rfl) (fun _ _ _ h=>h) (by intro w hSw;(try dsimp only at hSw);go_simp;try with_reducible rfl) hHeld ?_
 refine AB (i:=7) (v:= ?_) rfl (by kernel_rfl) (fun _ _ _ h=>h) (by intro w hSw;(try dsimp only at hSw);go_simp;try with_reducible rfl) hHeld ?_
 refine AB (i:=8) (v:= ?_) rfl (by kernel_rfl) (fun _ _ _ h=>h) (by intro w hSw;(try dsimp only at hSw);go_simp;try with_reducible rfl) hHeld ?_
 refine AB (i:=9) (v:= ?_) rfl (by kernel_rfl) (fun _ _ _ h=>h) (by intro w hSw;(try dsimp only at hSw);go_simp;try with_reducible rfl) hHeld ?_
 refine AB (i:=10) (v:= ?_) rfl (by kernel_rfl) (fun _ _ _ h=>h) (by intro w hSw;(try dsimp only at hSw);go_simp;try with_reducible rfl) hHeld ?_
 refine AJ (i:=11) rfl (by kernel_rfl) (fun _ _ _ h=>h) hHeld ?_
 refine AJ (i:=12) rfl (by kernel_rfl) (fun _ _ _ h=>h) hHeld ?_
 refine AJ (i:=13) rfl (by kernel_rfl) (fun _ _ _ h=>h) hHeld ?_
 refine AJ (i:=14) rfl (by kernel_rfl) (fun _ _ _ h=>h) hHeld ?_
 refine AJ (i:=15) rfl (by kernel_rfl) (fun _ _ _ h=>h) hHeld ?_
 refine AJ (i:=16) rfl (by kernel_rfl) (fun _ _ _ h=>h) hHeld ?_
 refine AJ (i:=17) rfl (by kernel_rfl) (fun _ _ _ h=>h) hHeld ?_
 refine AB (i:=18) (v:= ?_) rfl (by kernel_rfl) (fun _ _ _ h=>h) (by intro w hSw;(try dsimp only at hSw);go_simp;try with_reducible rfl) hHeld ?_
 refine AB (i:=19) (v:= ?_) rfl (by kernel_rfl) (fun _ _ _ h=>h) (by intro w hSw;(try dsimp only at hSw);go_simp;try with_reducible rfl) hHeld ?_
 refine wpAnyH_ready (rs:= [20]) (by kernel_rfl) (by simp) ?_
 refine AllReadyH.cons rfl (fun K hK=> ?_) AllReadyH.nil
 go_simp
 refine(AP _).mono ?_
 rintro e w3 ⟨rfl,rfl⟩
 refine hK.out _ _ ⟨x0,y8⟩ (fun AX=> ?_)
 clear hK K
 refine wpAnyH_done (by kernel_rfl) ?_ _
 clear hHeld AX
 go_wp2_with fail
 refine(AP _).mono ?_
 rintro e w3 ⟨rfl,rfl⟩
 go_wp2_with fail
 refine(AP _).mono ?_
 rintro e w3 ⟨rfl,rfl⟩
 go_upto_region 10 with fail
 have Un:QZ B b (w2.setCell ⟨b,8,none⟩ (.int .i64 (2:Nat))).drew _ v1 v2 v3 v6 v7 v8 r.m 2 ln:=((HR.out.below HB2.out).stage 2).below ((Below.refl _ _).drew)
 have hx5:AV (w2.setCell ⟨b,8,none⟩ (.int .i64 (2:Nat))).drew h6 148 [.int .i64 2,.func (.func 89) #[] #[]]:=(RG.out.far (p:=⟨b,8,none⟩) (by show h6≠b;omega) _).drewN 1
 have XY:Keep (fun k=>k<B∧k≠b) w (w2.setCell ⟨b,8,none⟩ (.int .i64 (2:Nat))).drew:=(((Keep.Am HB2.out).ER (fun k hk _=>hk)).setCell (p:=⟨b,8,none⟩) (fun e=>e.2 rfl) _).drew
 have XZ:En (w2.setCell ⟨b,8,none⟩ (.int .i64 (2:Nat))).drew A (PU::t):=(HW2.out.keep (K:=fun k=>k≠b) (((Keep.refl _ w2).setCell (p:=⟨b,8,none⟩) (fun e=>e rfl) _).drew) (by omega))
 have Xa:Dt hi (w2.setCell ⟨b,8,none⟩ (.int .i64 (2:Nat))).drew:=HI.out.env.to (((HB2.out.mono (show hi≤w.heap.size by omega)).setCell (p:=⟨b,8,none⟩) hhi _).drew)
 generalize World.drew (w2.setCell _ _)=w5 at*
 have x1:=hx5.q 1 rfl
 have Ra:=AA Un;have Rb:=AA XY;have iD:=AA XZ;have Zt:=AA Xa
 clear Un XY XZ Xa hx5 x0 y8 z8 RG HW2
 go_wp2_with fail
 rw [RH.out]
 refine(sj ⟨Ra.out,iD.out,Zt.out,hhi,HI.out.lens,by omega⟩ (List.cons_ne_nil _ _)).mono ?_
 rintro e w6 hm
 have hpost:Gw B b w ln (Ai r (PU::t)) e w6:=by
  rcases hm with⟨h1,h2,h3⟩ | ⟨m',h1,h2,h3,h4⟩
  ·refine⟨Rb.out.trans ((Keep.Am h3).ER (fun k hk _=>hk)),.inl ⟨?_,h2,(h3.cell (p:=⟨b,9,none⟩) Ra.out.blk.lt).trans (Ra.out.blk.cell 9)⟩⟩
   rw [XW.out];rw [List.tail_cons] at h1;rw [h1];rfl
  ·refine⟨Rb.out.trans h3,.inr ⟨⟨m',2⟩,?_,h2,?_⟩⟩
   ·rw [XW.out];rw [List.tail_cons] at h1;rw [h1];rfl
   ·exact .inl ⟨(show(2:Nat)≠6 by decide),h4⟩
 have HP:=AA hpost
 rcases hm with⟨_,rfl,_⟩ | ⟨m',_,rfl,_,_⟩
 ·go_wp2_with fail
  exact⟨rfl,HP.out⟩
 ·go_wp2_with fail
  go_end0
  exact HP.out
theorem nH (h:qE B b hi M w r ln s) {t:List ByteArray} (hwd:EP s=Jk::t):
 Calls prog 59 #[.pointer (some ⟨b,0,none⟩),.string s,.map (some M)] w (Gw B b w ln (Ai r (EP s))):=by
 have hcall:=Hq s (by have:=h.sz;omega) w
 obtain⟨hws,hpos⟩:=Ho s
 have hsz:=h.sz
 rw [hwd] at hcall hws⊢
 have hlv:Ai r (Jk::t)=if BD 3 r.st=true then(Ar 3 r.m t).map (fun m'=>(⟨m',3⟩:Nb)) else none:=by
  have hk:EX Jk=3:=by kernel_rfl
  unfold Ai
  simp only [hk]
  rw [if_neg (by decide)]
 have VI:=AA hlv
 have HI:=AA h
 have hz0:((((Jk::t).length:Nat):Int)==0)=false:=by rw [beq_eq_false_iff_ne,List.length_cons];omega
 obtain⟨n,hn⟩: ∃n,n=(Jk::t).length:=⟨_,rfl⟩
 rw [←hn] at hz0
 have hn0:0<n:=by rw [hn,List.length_cons];omega
 have RH:=AA hn
 have Es:=AA hcall
 have dM:=h.mlt
 have hhi:=h.hhi
 have R7:=AA h.map
 obtain⟨col,v1,v2,v3,v6,v7,v8,hr⟩:=h.rd.close
 have hlow:=hr.low
 have htop:=hr.top
 have HR:=AA hr
 clear hcall hlv h hr
 go_enter func59,ntmps59
 go_wp2_with fail
 refine Es.out.mono ?_
 clear Es
 rintro e w1 ⟨A,rfl,hA,ho,hb1⟩
 have hw1:=KY ho hA (List.cons_ne_nil _ _) (by omega)
 have q0:w1.cell? ⟨A,0,none⟩=some (.string ⟨#[101,120,116,101,114,110]⟩):=hw1.at_ 0 _ rfl
 have hlt1:=hw1.lt
 have hbl:=HR.out.blk.lt
 have hsz1:=hb1.size
 have g8:w1.cell? ⟨b,8,none⟩=some (.int .i64 r.st):=(hb1.cell (p:=⟨b,8,none⟩) hbl).trans (HR.out.blk.cell 8)
 have Ie:w1.heap[M]?=some (.map JD 8):=(hb1.block M dM).trans R7.out
 have M6:=M5 (P:=prog) (W:=w1) (s:=⟨#[101,120,116,101,114,110]⟩) underlying108 underlying9 Ie (i:=2) (v:= .agg #[.int .i64 3,.func (.func 90) #[] #[]]) (by kernel_rfl)
 have HW1:=AA hw1;have HB1:=AA hb1
 rw [←RH.out]
 have Qw:(((⟨#[101,120,116,101,114,110]⟩:ByteArray)[0].toNat:Int)==59)=false:=by decide
 clear hn ho hb1 hw1 Ie hws hpos hwd
 go_wp2_with fail
 generalize hw2:World.alloc _ _=w2
 have I5:Below w1.heap.size w1 w2:=by rw [←hw2];exact(Below.refl _ _).alloc (Nat.le_refl _) _
 have hx2:AV w2 w1.heap.size 148 [.int .i64 3,.func (.func 90) #[] #[]]:=by rw [←hw2];exact AV.new w1 _ [.int .i64 3,.func (.func 90) #[] #[]]
 obtain⟨h6,TL⟩: ∃h6,h6=w1.heap.size:=⟨_,rfl⟩
 rw [←TL] at hx2⊢
 have dA:w.heap.size≤h6:=by omega
 have HB2:=AA (HB1.out.trans (I5.mono hsz1))
 have HW2:=AA (HW1.out.below I5)
 have x0:=hx2.q 0 rfl
 have x1:=hx2.q 1 rfl
 have y8:w2.cell? ⟨b,8,none⟩=some (.int .i64 r.st):=(HB2.out.cell (p:=⟨b,8,none⟩) hbl).trans (HR.out.blk.cell 8)
 have z8:=(HR.out.blk.below HB2.out hbl).frozen 8
 have RG:=AA hx2
 clear hw2 I5 hx2 TL g8 q0 M6 HW1 HB1
 have hbad:BD 3 r.st=false→Hid (Ai r (Jk::t)=none∧Keep (fun k=>k<B∧k≠b) w w2.drew∧w2.drew.cell? ⟨b,9,none⟩=some (.int .i64 ln)):=fun hf=>
  AA ⟨by rw [VI.out,hf];rfl,((Keep.Am HB2.out).ER (fun k hk _=>hk)).drew,(HB2.out.cell (p:=⟨b,9,none⟩) hbl).trans (HR.out.blk.cell 9)⟩
 have hN0:((⟨#[101,120,116,101,114,110]⟩:ByteArray)[0].toNat:Int)=101:=by decide
 rw [hN0]
 clear Qw hN0
 by_cases hc:3<r.st
 case pos=>
  have HBAD:=hbad (by cases hb:BD 3 r.st with | false=>rfl | true=>exfalso;unfold BD at hb;simp at hb;omega)
  have d0:decide ((r.st:Int)≤3)=false:=decide_eq_false (by omega)
  clear hbad
  refine wp_region_held_drew (S:=fun W=>W.cell? ⟨h6,0,none⟩=some (.int .i64 3)∧W.cell? ⟨b,8,none⟩=some (.int .i64 r.st)) (by kernel_rfl) ⟨x0,y8⟩ (fun hHeld=> ?_)
  refine AB (i:=0) (v:= ?_) rfl (by kernel_rfl) (fun _ _ _ h=>h) (by intro w hSw;(try dsimp only at hSw);go_simp;try with_reducible rfl) hHeld ?_
  refine AB (i:=1) (v:= ?_) rfl (by kernel_rfl) (fun _ _ _ h=>h) (by intro w hSw;(try dsimp only at hSw);go_simp;try with_reducible rfl) hHeld ?_
  refine AB (i:=2) (v:= ?_) rfl (by kernel_rfl) (fun _ _ _ h=>h) (by intro w hSw;(try dsimp only at hSw);go_simp;try with_reducible rfl) hHeld ?_
  refine AB (i:=3) (v:= ?_) rfl (by kernel_rfl) (fun _ _ _ h=>h) (by intro w hSw;(try dsimp only at hSw);go_simp;try with_reducible rfl) hHeld ?_
  refine AB (i:=4) (v:= ?_) rfl (by kernel_rfl) (fun _ _ _ h=>h) (by intro w hSw;(try dsimp only at hSw);go_simp;try with_reducible rfl) hHeld ?_
  refine AB (i:=5) (v:= ?_) rfl (by kernel_rfl) (fun _ _ _ h=>h) (by intro w hSw;(try dsimp only at hSw);go_simp;try with_reducible rfl) hHeld ?_
  refine AB (i:=6) (v:= ?_) rfl (by kernel_rfl) (fun _ _ _ h=>h) (by intro w hSw;(try dsimp only at hSw);go_simp;try with_reducible rfl) hHeld ?_
  refine AB (i:=7) (v:= ?_) rfl (by kernel_rfl) (fun _ _ _ h=>h) (by intro w hSw;(try dsimp only at hSw);go_simp;try with_reducible rfl) hHeld ?_
  refine AJ (i:=8) rfl (by kernel_rfl) (fun _ _ _ h=>h) hHeld ?_
  refine AJ (i:=9) rfl (by kernel_rfl) (fun _ _ _ h=>h) hHeld ?_
  refine AJ (i:=10) rfl (by kernel_rfl) (fun _ _ _ h=>h) hHeld ?_
  refine AJ (i:=11) rfl (by kernel_rfl) (fun _ _ _ h=>h) hHeld ?_
  refine AJ (i:=12) rfl (by kernel_rfl) (fun _ _ _ h=>h) hHeld ?_
  refine AJ (i:=13) rfl (by kernel_rfl) (fun _ _ _ h=>h) hHeld ?_
  refine AJ (i:=14) rfl (by kernel_rfl) (fun _ _ _ h=>h) hHeld ?_
  refine AJ (i:=15) rfl (by kernel_rfl) (fun _ _ _ h=>h) hHeld ?_
  refine AJ (i:=16) rfl (by kernel_rfl) (fun _ _ _ h=>h) hHeld ?_
  refine AJ (i:=17) rfl (by kernel_rfl) (fun _ _ _ h=>h) hHeld ?_
  refine AJ (i:=18) rfl (by kernel_rfl) (fun _ _ _ h=>h) hHeld ?_
  refine AB (i:=19) (v:= ?_) rfl (by kernel_rfl) (fun _ _ _ h=>h) (by intro w hSw;(try dsimp only at hSw);go_simp;try with_reducible rfl) hHeld ?_
  refine wpAnyH_ready (rs:= [20]) (by kernel_rfl) (by simp) ?_
  refine AllReadyH.cons rfl (fun K hK=> ?_) AllReadyH.nil
  go_simp
  refine(AZ _).mono ?_
  rintro e w3 ⟨rfl,rfl⟩
  go_wp2_with fail
  exact⟨rfl,HBAD.out.2.1,.inl ⟨HBAD.out.1,rfl,HBAD.out.2.2⟩⟩
 by_cases hc:r.st=0
 case pos=>
  have HBAD:=hbad (by cases hb:BD 3 r.st with | false=>rfl | true=>exfalso;unfold BD at hb;simp at hb;omega)
  have d0:decide ((r.st:Int)≤3)=true:=decide_eq_true (by omega)
  have d1:((r.st:Int) !=0)=false:=by rw [bne_eq_false_iff_eq];omega
  clear hbad
  refine wp_region_held_drew (S:=fun W=>W.cell? ⟨h6,0,none⟩=some (.int .i64 3)∧W.cell? ⟨b,8,none⟩=some (.int .i64 r.st)) (by kernel_rfl) ⟨x0,y8⟩ (fun hHeld=> ?_)
  refine AB (i:=0) (v:= ?_) rfl (by kernel_rfl) (fun _ _ _ h=>h) (by intro w hSw;(try dsimp only at hSw);go_simp;try with_reducible rfl) hHeld ?_
  refine AB (i:=1) (v:= ?_) rfl (by kernel_rfl) (fun _ _ _ h=>h) (by intro w hSw;(try dsimp only at hSw);go_simp;try with_reducible rfl) hHeld ?_
  refine AB (i:=2) (v:= ?_) rfl (by kernel_rfl) (fun _ _ _ h=>h) (by intro w hSw;(try dsimp only at hSw);go_simp;try with_reducible rfl) hHeld ?_
  refine AB (i:=3) (v:= ?_) rfl (by kernel_rfl) (fun _ _ _ h=>h) (by intro w hSw;(try dsimp only at hSw);go_simp;try with_reducible rfl) hHeld ?_
  refine AB (i:=4) (v:= ?_) rfl (by kernel_rfl) (fun _ _ _ h=>h) (by intro w hSw;(try dsimp only at hSw);go_simp;try with_reducible rfl) hHeld ?_
  refine AB (i:=5) (v:= ?_) rfl (by kernel_rfl) (fun _ _ _ h=>h) (by intro w hSw;(try dsimp only at hSw);go_simp;try with_reducible rfl) hHeld ?_
  refine AB (i:=6) (v:= ?_) rfl (by kernel_rfl) (fun _ _ _ h=>h) (by intro w hSw;(try dsimp only at hSw);go_simp;try with_reducible rfl) hHeld ?_
  refine AB (i:=7) (v:= ?_) rfl (by kernel_rfl) (fun _ _ _ h=>h) (by intro w hSw;(try dsimp only at hSw);go_simp;try with_reducible rfl) hHeld ?_
  refine AB (i:=8) (v:= ?_) rfl (by kernel_rfl) (fun _ _ _ h=>h) (by intro w hSw;(try dsimp only at hSw);go_simp;try with_reducible rfl) hHeld ?_
  refine AB (i:=9) (v:= ?_) rfl (by kernel_rfl) (fun _ _ _ h=>h) (by intro w hSw;(try dsimp only at hSw);go_simp;try with_reducible rfl) hHeld ?_
  refine AB (i:=10) (v:= ?_) rfl (by kernel_rfl) (fun _ _ _ h=>h) (by intro w hSw;(try dsimp only at hSw);go_simp;try with_reducible rfl) hHeld ?_
  refine AJ (i:=11) rfl (by kernel_rfl) (fun _ _ _ h=>h) hHeld ?_
  refine AJ (i:=12) rfl (by kernel_rfl) (fun _ _ _ h=>h) hHeld ?_
  refine AJ (i:=13) rfl (by kernel_rfl) (fun _ _ _ h=>h) hHeld ?_
  refine AJ (i:=14) rfl (by kernel_rfl) (fun _ _ _ h=>h) hHeld ?_
  refine AJ (i:=15) rfl (by kernel_rfl) (fun _ _ _ h=>h) hHeld ?_
  refine AJ (i:=16) rfl (by kernel_rfl) (fun _ _ _ h=>h) hHeld ?_
  refine AJ (i:=17) rfl (by kernel_rfl) (fun _ _ _ h=>h) hHeld ?_
  refine AB (i:=18) (v:= ?_) rfl (by kernel_rfl) (fun _ _ _ h=>h) (by intro w hSw;(try dsimp only at hSw);go_simp;try with_reducible rfl) hHeld ?_
  refine AB (i:=19) (v:= ?_) rfl (by kernel_rfl) (fun _ _ _ h=>h) (by intro w hSw;(try dsimp only at hSw);go_simp;try with_reducible rfl) hHeld ?_
  refine wpAnyH_ready (rs:= [20]) (by kernel_rfl) (by simp) ?_
  refine AllReadyH.cons rfl (fun K hK=> ?_) AllReadyH.nil
  go_simp
  refine(AP _).mono ?_
  rintro e w3 ⟨rfl,rfl⟩
  refine hK.out _ _ ⟨x0,y8⟩ (fun AX=> ?_)
  clear hK K
  refine wpAnyH_done (by kernel_rfl) ?_ _
  clear hHeld AX
  go_wp2_with fail
  refine(AZ _).mono ?_
  rintro e w3 ⟨rfl,rfl⟩
  go_wp2_with fail
  exact⟨rfl,HBAD.out.2.1,.inl ⟨HBAD.out.1,rfl,HBAD.out.2.2⟩⟩
 have d0:decide ((r.st:Int)≤3)=true:=decide_eq_true (by omega)
 have d1:((r.st:Int) !=0)=true:=by rw [bne_iff_ne];omega
 have XW:Hid (Ai r (Jk::t)=(Ar 3 r.m t).map (fun m'=>(⟨m',3⟩:Nb))):=AA (by
  have ho:BD 3 r.st=true:=by
   cases hb:BD 3 r.st with
   | true=>rfl
   | false=>exfalso;unfold BD at hb;simp at hb;omega
  rw [VI.out,ho];rfl)
 clear hbad
 refine wp_region_held_drew (S:=fun W=>W.cell? ⟨h6,0,none⟩=some (.int .i64 3)∧W.cell? ⟨b,8,none⟩=some (.int .i64 r.st)) (by kernel_rfl) ⟨x0,y8⟩ (fun hHeld=> ?_)
 refine AB (i:=0) (v:= ?_) rfl (by kernel_rfl) (fun _ _ _ h=>h) (by intro w hSw;(try dsimp only at hSw);go_simp;try with_reducible rfl) hHeld ?_
 refine AB (i:=1) (v:= ?_) rfl (by kernel_rfl) (fun _ _ _ h=>h) (by intro w hSw;(try dsimp only at hSw);go_simp;try with_reducible rfl) hHeld ?_
 refine AB (i:=2) (v:= ?_) rfl (by kernel_rfl) (fun _ _ _ h=>h) (by intro w hSw;(try dsimp only at hSw);go_simp;try with_reducible rfl) hHeld ?_
 refine AB (i:=3) (v:= ?_) rfl (by kernel_rfl) (fun _ _ _ h=>h) (by intro w hSw;(try dsimp only at hSw);go_simp;try with_reducible rfl) hHeld ?_
 refine AB (i:=4) (v:= ?_) rfl (by kernel_rfl) (fun _ _ _ h=>h) (by intro w hSw;(try dsimp only at hSw);go_simp;try with_reducible rfl) hHeld ?_
 refine AB (i:=5) (v:= ?_) rfl (by kernel_rfl) (fun _ _ _ h=>h) (by intro w hSw;(try dsimp only at hSw);go_simp;try with_reducible rfl) hHeld ?_
 refine AB (i:=6) (v:= ?_) rfl (by kernel_rfl) (fun _ _ _ h=>h) (by intro w hSw;(try dsimp only at hSw);go_simp;try with_reducible rfl) hHeld ?_
 refine AB (i:=7) (v:= ?_) rfl (by kernel_rfl) (fun _ _ _ h=>h) (by intro w hSw;(try dsimp only at hSw);go_simp;try with_reducible rfl) hHeld ?_
 refine AB (i:=8) (v:= ?_) rfl (by kernel_rfl) (fun _ _ _ h=>h) (by intro w hSw;(try dsimp only at hSw);go_simp;try with_reducible rfl) hHeld ?_
 refine AB (i:=9) (v:= ?_) rfl (by kernel_rfl) (fun _ _ _ h=>h) (by intro w hSw;(try dsimp only at hSw);go_simp;try with_reducible rfl) hHeld ?_
 refine AB (i:=10) (v:= ?_) rfl (by kernel_rfl) (fun _ _ _ h=>h) (by intro w hSw;(try dsimp only at hSw);go_simp;try with_reducible rfl) hHeld ?_
 refine AJ (i:=11) rfl (by kernel_rfl) (fun _ _ _ h=>h) hHeld ?_
 refine AJ (i:=12) rfl (by kernel_rfl) (fun _ _ _ h=>h) hHeld ?_
 refine AJ (i:=13) rfl (by kernel_rfl) (fun _ _ _ h=>h) hHeld ?_
 refine AJ (i:=14) rfl (by kernel_rfl) (fun _ _ _ h=>h) hHeld ?_
 refine AJ (i:=15) rfl (by kernel_rfl) (fun _ _ _ h=>h) hHeld ?_
 refine AJ (i:=16) rfl (by kernel_rfl) (fun _ _ _ h=>h) hHeld ?_
 refine AJ (i:=17) rfl (by kernel_rfl) (fun _ _ _ h=>h) hHeld ?_
 refine AB (i:=18) (v:= ?_) rfl (by kernel_rfl) (fun _ _ _ h=>h) (by intro w hSw;(try dsimp only at hSw);go_simp;try with_reducible rfl) hHeld ?_
 refine AB (i:=19) (v:= ?_) rfl (by kernel_rfl) (fun _ _ _ h=>h) (by intro w hSw;(try dsimp only at hSw);go_simp;try with_reducible rfl) hHeld ?_
 refine wpAnyH_ready (rs:= [20]) (by kernel_rfl) (by simp) ?_
 refine AllReadyH.cons rfl (fun K hK=> ?_) AllReadyH.nil
 go_simp
 refine(AP _).mono ?_
 rintro e w3 ⟨rfl,rfl⟩
 refine hK.out _ _ ⟨x0,y8⟩ (fun AX=> ?_)
 clear hK K
 refine wpAnyH_done (by kernel_rfl) ?_ _
 clear hHeld AX
 go_wp2_with fail
 refine(AP _).mono ?_
 rintro e w3 ⟨rfl,rfl⟩
 go_wp2_with fail
 refine(AP _).mono ?_
 rintro e w3 ⟨rfl,rfl⟩
 go_upto_region 10 with fail
 have Un:QZ B b (w2.setCell ⟨b,8,none⟩ (.int .i64 (3:Nat))).drew _ v1 v2 v3 v6 v7 v8 r.m 3 ln:=((HR.out.below HB2.out).stage 3).below ((Below.refl _ _).drew)
 have hx5:AV (w2.setCell ⟨b,8,none⟩ (.int .i64 (3:Nat))).drew h6 148 [.int .i64 3,.func (.func 90) #[] #[]]:=(RG.out.far (p:=⟨b,8,none⟩) (by show h6≠b;omega) _).drewN 1
 have XY:Keep (fun k=>k<B∧k≠b) w (w2.setCell ⟨b,8,none⟩ (.int .i64 (3:Nat))).drew:=(((Keep.Am HB2.out).ER (fun k hk _=>hk)).setCell (p:=⟨b,8,none⟩) (fun e=>e.2 rfl) _).drew
 have XZ:En (w2.setCell ⟨b,8,none⟩ (.int .i64 (3:Nat))).drew A (Jk::t):=(HW2.out.keep (K:=fun k=>k≠b) (((Keep.refl _ w2).setCell (p:=⟨b,8,none⟩) (fun e=>e rfl) _).drew) (by omega))
 have Xa:Dt hi (w2.setCell ⟨b,8,none⟩ (.int .i64 (3:Nat))).drew:=HI.out.env.to (((HB2.out.mono (show hi≤w.heap.size by omega)).setCell (p:=⟨b,8,none⟩) hhi _).drew)
 generalize World.drew (w2.setCell _ _)=w5 at*
 have x1:=hx5.q 1 rfl
 have Ra:=AA Un;have Rb:=AA XY;have iD:=AA XZ;have Zt:=AA Xa
 clear Un XY XZ Xa hx5 x0 y8 z8 RG HW2
 go_wp2_with fail
 rw [RH.out]
 refine(yS ⟨Ra.out,iD.out,Zt.out,hhi,HI.out.lens,by omega⟩ (List.cons_ne_nil _ _)).mono ?_
 rintro e w6 hm
 have hpost:Gw B b w ln (Ai r (Jk::t)) e w6:=by
  rcases hm with⟨h1,h2,h3⟩ | ⟨m',h1,h2,h3,h4⟩
  ·refine⟨Rb.out.trans ((Keep.Am h3).ER (fun k hk _=>hk)),.inl ⟨?_,h2,(h3.cell (p:=⟨b,9,none⟩) Ra.out.blk.lt).trans (Ra.out.blk.cell 9)⟩⟩
   rw [XW.out];rw [List.tail_cons] at h1;rw [h1];rfl
  ·refine⟨Rb.out.trans h3,.inr ⟨⟨m',3⟩,?_,h2,?_⟩⟩
   ·rw [XW.out];rw [List.tail_cons] at h1;rw [h1];rfl
   ·exact .inl ⟨(show(3:Nat)≠6 by decide),h4⟩
 have HP:=AA hpost
 rcases hm with⟨_,rfl,_⟩ | ⟨m',_,rfl,_,_⟩
 ·go_wp2_with fail
  exact⟨rfl,HP.out⟩
 ·go_wp2_with fail
  go_end0
  exact HP.out
theorem nI (h:qE B b hi M w r ln s) {t:List ByteArray} (hwd:EP s=G7::t):
 Calls prog 59 #[.pointer (some ⟨b,0,none⟩),.string s,.map (some M)] w (Gw B b w ln (Ai r (EP s))):=by
 have hcall:=Hq s (by have:=h.sz;omega) w
 obtain⟨hws,hpos⟩:=Ho s
 have hsz:=h.sz
 rw [hwd] at hcall hws⊢
 have hlv:Ai r (G7::t)=if BD 4 r.st=true then(Ar 4 r.m t).map (fun m'=>(⟨m',4⟩:Nb)) else none:=by
  have hk:EX G7=4:=by kernel_rfl
  unfold Ai
  simp only [hk]
  rw [if_neg (by decide)]
 have VI:=AA hlv
 have HI:=AA h
 have hz0:((((G7::t).length:Nat):Int)==0)=false:=by rw [beq_eq_false_iff_ne,List.length_cons];omega
 obtain⟨n,hn⟩: ∃n,n=(G7::t).length:=⟨_,rfl⟩
 rw [←hn] at hz0
 have hn0:0<n:=by rw [hn,List.length_cons];omega
 have RH:=AA hn
 have Es:=AA hcall
 have dM:=h.mlt
 have hhi:=h.hhi
 have R7:=AA h.map
 obtain⟨col,v1,v2,v3,v6,v7,v8,hr⟩:=h.rd.close
 have hlow:=hr.low
 have htop:=hr.top
 have HR:=AA hr
 clear hcall hlv h hr
 go_enter func59,ntmps59
 go_wp2_with fail
 refine Es.out.mono ?_
 clear Es
 rintro e w1 ⟨A,rfl,hA,ho,hb1⟩
 have hw1:=KY ho hA (List.cons_ne_nil _ _) (by omega)
 have q0:w1.cell? ⟨A,0,none⟩=some (.string ⟨#[103,108,111,98,97,108]⟩):=hw1.at_ 0 _ rfl
 have hlt1:=hw1.lt
 have hbl:=HR.out.blk.lt
 have hsz1:=hb1.size
 have g8:w1.cell? ⟨b,8,none⟩=some (.int .i64 r.st):=(hb1.cell (p:=⟨b,8,none⟩) hbl).trans (HR.out.blk.cell 8)
 have Ie:w1.heap[M]?=some (.map JD 8):=(hb1.block M dM).trans R7.out
 have M6:=M5 (P:=prog) (W:=w1) (s:=⟨#[103,108,111,98,97,108]⟩) underlying108 underlying9 Ie (i:=3) (v:= .agg #[.int .i64 4,.func (.func 91) #[] #[]]) (by kernel_rfl)
 have HW1:=AA hw1;have HB1:=AA hb1
 rw [←RH.out]
 have Qw:(((⟨#[103,108,111,98,97,108]⟩:ByteArray)[0].toNat:Int)==59)=false:=by decide
 clear hn ho hb1 hw1 Ie hws hpos hwd
 go_wp2_with fail
 generalize hw2:World.alloc _ _=w2
 have I5:Below w1.heap.size w1 w2:=by rw [←hw2];exact(Below.refl _ _).alloc (Nat.le_refl _) _
 have hx2:AV w2 w1.heap.size 148 [.int .i64 4,.func (.func 91) #[] #[]]:=by rw [←hw2];exact AV.new w1 _ [.int .i64 4,.func (.func 91) #[] #[]]
 obtain⟨h6,TL⟩: ∃h6,h6=w1.heap.size:=⟨_,rfl⟩
 rw [←TL] at hx2⊢
 have dA:w.heap.size≤h6:=by omega
 have HB2:=AA (HB1.out.trans (I5.mono hsz1))
 have HW2:=AA (HW1.out.below I5)
 have x0:=hx2.q 0 rfl
 have x1:=hx2.q 1 rfl
 have y8:w2.cell? ⟨b,8,none⟩=some (.int .i64 r.st):=(HB2.out.cell (p:=⟨b,8,none⟩) hbl).trans (HR.out.blk.cell 8)
 have z8:=(HR.out.blk.below HB2.out hbl).frozen 8
 have RG:=AA hx2
 clear hw2 I5 hx2 TL g8 q0 M6 HW1 HB1
 have hbad:BD 4 r.st=false→Hid (Ai r (G7::t)=none∧Keep (fun k=>k<B∧k≠b) w w2.drew∧w2.drew.cell? ⟨b,9,none⟩=some (.int .i64 ln)):=fun hf=>
  AA ⟨by rw [VI.out,hf];rfl,((Keep.Am HB2.out).ER (fun k hk _=>hk)).drew,(HB2.out.cell (p:=⟨b,9,none⟩) hbl).trans (HR.out.blk.cell 9)⟩
 have hN0:((⟨#[103,108,111,98,97,108]⟩:ByteArray)[0].toNat:Int)=103:=by decide
 rw [hN0]
 clear Qw hN0
 by_cases hc:4<r.st
 case pos=>
  have HBAD:=hbad (by cases hb:BD 4 r.st with | false=>rfl | true=>exfalso;unfold BD at hb;simp at hb;omega)
  have d0:decide ((r.st:Int)≤4)=false:=decide_eq_false (by omega)
  clear hbad
  refine wp_region_held_drew (S:=fun W=>W.cell? ⟨h6,0,none⟩=some (.int .i64 4)∧W.cell? ⟨b,8,none⟩=some (.int .i64 r.st)) (by kernel_rfl) ⟨x0,y8⟩ (fun hHeld=> ?_)
  refine AB (i:=0) (v:= ?_) rfl (by kernel_rfl) (fun _ _ _ h=>h) (by intro w hSw;(try dsimp only at hSw);go_simp;try with_reducible rfl) hHeld ?_
  refine AB (i:=1) (v:= ?_) rfl (by kernel_rfl) (fun _ _ _ h=>h) (by intro w hSw;(try dsimp only at hSw);go_simp;try with_reducible rfl) hHeld ?_
  refine AB (i:=2) (v:= ?_) rfl (by kernel_rfl) (fun _ _ _ h=>h) (by intro w hSw;(try dsimp only at hSw);go_simp;try with_reducible rfl) hHeld ?_
  refine AB (i:=3) (v:= ?_) rfl (by kernel_rfl) (fun _ _ _ h=>h) (by intro w hSw;(try dsimp only at hSw);go_simp;try with_reducible rfl) hHeld ?_
  refine AB (i:=4) (v:= ?_) rfl (by kernel_rfl) (fun _ _ _ h=>h) (by intro w hSw;(try dsimp only at hSw);go_simp;try with_reducible rfl) hHeld ?_
  refine AB (i:=5) (v:= ?_) rfl (by kernel_rfl) (fun _ _ _ h=>h) (by intro w hSw;(try dsimp only at hSw);go_simp;try with_reducible rfl) hHeld ?_
  refine AB (i:=6) (v:= ?_) rfl (by kernel_rfl) (fun _ _ _ h=>h) (by intro w hSw;(try dsimp only at hSw);go_simp;try with_reducible rfl) hHeld ?_
  refine AB (i:=7) (v:= ?_) rfl (by kernel_rfl) (fun _ _ _ h=>h) (by intro w hSw;(try dsimp only at hSw);go_simp;try with_reducible rfl) hHeld ?_
  refine AJ (i:=8) rfl (by kernel_rfl) (fun _ _ _ h=>h) hHeld ?_
  refine AJ (i:=9) rfl (by kernel_rfl) (fun _ _ _ h=>h) hHeld ?_
  refine AJ (i:=10) rfl (by kernel_rfl) (fun _ _ _ h=>h) hHeld ?_
  refine AJ (i:=11) rfl (by kernel_rfl) (fun _ _ _ h=>h) hHeld ?_
  refine AJ (i:=12) rfl (by kernel_rfl) (fun _ _ _ h=>h) hHeld ?_
  refine AJ (i:=13) rfl (by kernel_rfl) (fun _ _ _ h=>h) hHeld ?_
  refine AJ (i:=14) rfl (by kernel_rfl) (fun _ _ _ h=>h) hHeld ?_
  refine AJ (i:=15) rfl (by kernel_rfl) (fun _ _ _ h=>h) hHeld ?_
  refine AJ (i:=16) rfl (by kernel_rfl) (fun _ _ _ h=>h) hHeld ?_
  refine AJ (i:=17) rfl (by kernel_rfl) (fun _ _ _ h=>h) hHeld ?_
  refine AJ (i:=18) rfl (by kernel_rfl) (fun _ _ _ h=>h) hHeld ?_
  refine AB (i:=19) (v:= ?_) rfl (by kernel_rfl) (fun _ _ _ h=>h) (by intro w hSw;(try dsimp only at hSw);go_simp;try with_reducible rfl) hHeld ?_
  refine wpAnyH_ready (rs:= [20]) (by kernel_rfl) (by simp) ?_
  refine AllReadyH.cons rfl (fun K hK=> ?_) AllReadyH.nil
  go_simp
  refine(AZ _).mono ?_
  rintro e w3 ⟨rfl,rfl⟩
  go_wp2_with fail
  exact⟨rfl,HBAD.out.2.1,.inl ⟨HBAD.out.1,rfl,HBAD.out.2.2⟩⟩
 by_cases hc:r.st=0
 case pos=>
  have HBAD:=hbad (by cases hb:BD 4 r.st with | false=>rfl | true=>exfalso;unfold BD at hb;simp at hb;omega)
  have d0:decide ((r.st:Int)≤4)=true:=decide_eq_true (by omega)
  have d1:((r.st:Int) !=0)=false:=by rw [bne_eq_false_iff_eq];omega
  clear hbad
  refine wp_region_held_drew (S:=fun W=>W.cell? ⟨h6,0,none⟩=some (.int .i64 4)∧W.cell? ⟨b,8,none⟩=some (.int .i64 r.st)) (by kernel_rfl) ⟨x0,y8⟩ (fun hHeld=> ?_)
  refine AB (i:=0) (v:= ?_) rfl (by kernel_rfl) (fun _ _ _ h=>h) (by intro w hSw;(try dsimp only at hSw);go_simp;try with_reducible rfl) hHeld ?_
  refine AB (i:=1) (v:= ?_) rfl (by kernel_rfl) (fun _ _ _ h=>h) (by intro w hSw;(try dsimp only at hSw);go_simp;try with_reducible rfl) hHeld ?_
  refine AB (i:=2) (v:= ?_) rfl (by kernel_rfl) (fun _ _ _ h=>h) (by intro w hSw;(try dsimp only at hSw);go_simp;try with_reducible rfl) hHeld ?_
  refine AB (i:=3) (v:= ?_) rfl (by kernel_rfl) (fun _ _ _ h=>h) (by intro w hSw;(try dsimp only at hSw);go_simp;try with_reducible rfl) hHeld ?_
  refine AB (i:=4) (v:= ?_) rfl (by kernel_rfl) (fun _ _ _ h=>h) (by intro w hSw;(try dsimp only at hSw);go_simp;try with_reducible rfl) hHeld ?_
  refine AB (i:=5) (v:= ?_) rfl (by kernel_rfl) (fun _ _ _ h=>h) (by intro w hSw;(try dsimp only at hSw);go_simp;try with_reducible rfl) hHeld ?_
  refine AB (i:=6) (v:= ?_) rfl (by kernel_rfl) (fun _ _ _ h=>h) (by intro w hSw;(try dsimp only at hSw);go_simp;try with_reducible rfl) hHeld ?_
  refine AB (i:=7) (v:= ?_) rfl (by kernel_rfl) (fun _ _ _ h=>h) (by intro w hSw;(try dsimp only at hSw);go_simp;try with_reducible rfl) hHeld ?_
  refine AB (i:=8) (v:= ?_) rfl (by kernel_rfl) (fun _ _ _ h=>h) (by intro w hSw;(try dsimp only at hSw);go_simp;try with_reducible rfl) hHeld ?_
  refine AB (i:=9) (v:= ?_) rfl (by kernel_rfl) (fun _ _ _ h=>h) (by intro w hSw;(try dsimp only at hSw);go_simp;try with_reducible rfl) hHeld ?_
  refine AB (i:=10) (v:= ?_) rfl (by kernel_rfl) (fun _ _ _ h=>h) (by intro w hSw;(try dsimp only at hSw);go_simp;try with_reducible rfl) hHeld ?_
  refine AJ (i:=11) rfl (by kernel_rfl) (fun _ _ _ h=>h) hHeld ?_
  refine AJ (i:=12) rfl (by kernel_rfl) (fun _ _ _ h=>h) hHeld ?_
  refine AJ (i:=13) rfl (by kernel_rfl) (fun _ _ _ h=>h) hHeld ?_
  refine AJ (i:=14) rfl (by kernel_rfl) (fun _ _ _ h=>h) hHeld ?_
  refine AJ (i:=15) rfl (by kernel_rfl) (fun _ _ _ h=>h) hHeld ?_
  refine AJ (i:=16) rfl (by kernel_rfl) (fun _ _ _ h=>h) hHeld ?_
  refine AJ (i:=17) rfl (by kernel_rfl) (fun _ _ _ h=>h) hHeld ?_
  refine AB (i:=18) (v:= ?_) rfl (by kernel_rfl) (fun _ _ _ h=>h) (by intro w hSw;(try dsimp only at hSw);go_simp;try with_reducible rfl) hHeld ?_
  refine AB (i:=19) (v:= ?_) rfl (by kernel_rfl) (fun _ _ _ h=>h) (by intro w hSw;(try dsimp only at hSw);go_simp;try with_reducible rfl) hHeld ?_
  refine wpAnyH_ready (rs:= [20]) (by kernel_rfl) (by simp) ?_
  refine AllReadyH.cons rfl (fun K hK=> ?_) AllReadyH.nil
  go_simp
  refine(AP _).mono ?_
  rintro e w3 ⟨rfl,rfl⟩
  refine hK.out _ _ ⟨x0,y8⟩ (fun AX=> ?_)
  clear hK K
  refine wpAnyH_done (by kernel_rfl) ?_ _
  clear hHeld AX
  go_wp2_with fail
  refine(AZ _).mono ?_
  rintro e w3 ⟨rfl,rfl⟩
  go_wp2_with fail
  exact⟨rfl,HBAD.out.2.1,.inl ⟨HBAD.out.1,rfl,HBAD.out.2.2⟩⟩
 have d0:decide ((r.st:Int)≤4)=true:=decide_eq_true (by omega)
 have d1:((r.st:Int) !=0)=true:=by rw [bne_iff_ne];omega
 have XW:Hid (Ai r (G7::t)=(Ar 4 r.m t).map (fun m'=>(⟨m',4⟩:Nb))):=AA (by
  have ho:BD 4 r.st=true:=by
   cases hb:BD 4 r.st with
   | true=>rfl
   | false=>exfalso;unfold BD at hb;simp at hb;omega
  rw [VI.out,ho];rfl)
 clear hbad
 refine wp_region_held_drew (S:=fun W=>W.cell? ⟨h6,0,none⟩=some (.int .i64 4)∧W.cell? ⟨b,8,none⟩=some (.int .i64 r.st)) (by kernel_rfl) ⟨x0,y8⟩ (fun hHeld=> ?_)
 refine AB (i:=0) (v:= ?_) rfl (by kernel_rfl) (fun _ _ _ h=>h) (by intro w hSw;(try dsimp only at hSw);go_simp;try with_reducible rfl) hHeld ?_
 refine AB (i:=1) (v:= ?_) rfl (by kernel_rfl) (fun _ _ _ h=>h) (by intro w hSw;(try dsimp only at hSw);go_simp;try with_reducible rfl) hHeld ?_
 refine AB (i:=2) (v:= ?_) rfl (by kernel_rfl) (fun _ _ _ h=>h) (by intro w hSw;(try dsimp only at hSw);go_simp;try with_reducible rfl) hHeld ?_
 refine AB (i:=3) (v:= ?_) rfl (by kernel_rfl) (fun _ _ _ h=>h) (by intro w hSw;(try dsimp only at hSw);go_simp;try with_reducible rfl) hHeld ?_
 refine AB (i:=4) (v:= ?_) rfl (by kernel_rfl) (fun _ _ _ h=>h) (by intro w hSw;(try dsimp only at hSw);go_simp;try with_reducible rfl) hHeld ?_
 refine AB (i:=5) (v:= ?_) rfl (by kernel_rfl) (fun _ _ _ h=>h) (by intro w hSw;(try dsimp only at hSw);go_simp;try with_reducible rfl) hHeld ?_
 refine AB (i:=6) (v:= ?_) rfl (by kernel_rfl) (fun _ _ _ h=>h) (by intro w hSw;(try dsimp only at hSw);go_simp;try with_reducible rfl) hHeld ?_
 refine AB (i:=7) (v:= ?_) rfl (by kernel_rfl) (fun _ _ _ h=>h) (by intro w hSw;(try dsimp only at hSw);go_simp;try with_reducible rfl) hHeld ?_
 refine AB (i:=8) (v:= ?_) rfl (by kernel_rfl) (fun _ _ _ h=>h) (by intro w hSw;(try dsimp only at hSw);go_simp;try with_reducible rfl) hHeld ?_
 refine AB (i:=9) (v:= ?_) rfl (by kernel_rfl) (fun _ _ _ h=>h) (by intro w hSw;(try dsimp only at hSw);go_simp;try with_reducible rfl) hHeld ?_
 refine AB (i:=10) (v:= ?_) rfl (by kernel_rfl) (fun _ _ _ h=>h) (by intro w hSw;(try dsimp only at hSw);go_simp;try with_reducible rfl) hHeld ?_
 refine AJ (i:=11) rfl (by kernel_rfl) (fun _ _ _ h=>h) hHeld ?_
 refine AJ (i:=12) rfl (by kernel_rfl) (fun _ _ _ h=>h) hHeld ?_
 refine AJ (i:=13) rfl (by kernel_rfl) (fun _ _ _ h=>h) hHeld ?_
 refine AJ (i:=14) rfl (by kernel_rfl) (fun _ _ _ h=>h) hHeld ?_
 refine AJ (i:=15) rfl (by kernel_rfl) (fun _ _ _ h=>h) hHeld ?_
 refine AJ (i:=16) rfl (by kernel_rfl) (fun _ _ _ h=>h) hHeld ?_
 refine AJ (i:=17) rfl (by kernel_rfl) (fun _ _ _ h=>h) hHeld ?_
 refine AB (i:=18) (v:= ?_) rfl (by kernel_rfl) (fun _ _ _ h=>h) (by intro w hSw;(try dsimp only at hSw);go_simp;try with_reducible rfl) hHeld ?_
 refine AB (i:=19) (v:= ?_) rfl (by kernel_rfl) (fun _ _ _ h=>h) (by intro w hSw;(try dsimp only at hSw);go_simp;try with_reducible rfl) hHeld ?_
 refine wpAnyH_ready (rs:= [20]) (by kernel_rfl) (by simp) ?_
 refine AllReadyH.cons rfl (fun K hK=> ?_) AllReadyH.nil
 go_simp
 refine(AP _).mono ?_
 rintro e w3 ⟨rfl,rfl⟩
 refine hK.out _ _ ⟨x0,y8⟩ (fun AX=> ?_)
 clear hK K
 refine wpAnyH_done (by kernel_rfl) ?_ _
 clear hHeld AX
 go_wp2_with fail
 refine(AP _).mono ?_
 rintro e w3 ⟨rfl,rfl⟩
 go_wp2_with fail
 refine(AP _).mono ?_
 rintro e w3 ⟨rfl,rfl⟩
 go_upto_region 10 with fail
 have Un:QZ B b (w2.setCell ⟨b,8,none⟩ (.int .i64 (4:Nat))).drew _ v1 v2 v3 v6 v7 v8 r.m 4 ln:=((HR.out.below HB2.out).stage 4).below ((Below.refl _ _).drew)
 have hx5:AV (w2.setCell ⟨b,8,none⟩ (.int .i64 (4:Nat))).drew h6 148 [.int .i64 4,.func (.func 91) #[] #[]]:=(RG.out.far (p:=⟨b,8,none⟩) (by show h6≠b;omega) _).drewN 1
 have XY:Keep (fun k=>k<B∧k≠b) w (w2.setCell ⟨b,8,none⟩ (.int .i64 (4:Nat))).drew:=(((Keep.Am HB2.out).ER (fun k hk _=>hk)).setCell (p:=⟨b,8,none⟩) (fun e=>e.2 rfl) _).drew
 have XZ:En (w2.setCell ⟨b,8,none⟩ (.int .i64 (4:Nat))).drew A (G7::t):=(HW2.out.keep (K:=fun k=>k≠b) (((Keep.refl _ w2).setCell (p:=⟨b,8,none⟩) (fun e=>e rfl) _).drew) (by omega))
 have Xa:Dt hi (w2.setCell ⟨b,8,none⟩ (.int .i64 (4:Nat))).drew:=HI.out.env.to (((HB2.out.mono (show hi≤w.heap.size by omega)).setCell (p:=⟨b,8,none⟩) hhi _).drew)
 generalize World.drew (w2.setCell _ _)=w5 at*
 have x1:=hx5.q 1 rfl
 have Ra:=AA Un;have Rb:=AA XY;have iD:=AA XZ;have Zt:=AA Xa
 clear Un XY XZ Xa hx5 x0 y8 z8 RG HW2
 go_wp2_with fail
 rw [RH.out]
 refine(mG ⟨Ra.out,iD.out,Zt.out,hhi,HI.out.lens,by omega⟩ (List.cons_ne_nil _ _)).mono ?_
 rintro e w6 hm
 have hpost:Gw B b w ln (Ai r (G7::t)) e w6:=by
  rcases hm with⟨h1,h2,h3⟩ | ⟨m',h1,h2,h3,h4⟩
  ·refine⟨Rb.out.trans ((Keep.Am h3).ER (fun k hk _=>hk)),.inl ⟨?_,h2,(h3.cell (p:=⟨b,9,none⟩) Ra.out.blk.lt).trans (Ra.out.blk.cell 9)⟩⟩
   rw [XW.out];rw [List.tail_cons] at h1;rw [h1];rfl
  ·refine⟨Rb.out.trans h3,.inr ⟨⟨m',4⟩,?_,h2,?_⟩⟩
   ·rw [XW.out];rw [List.tail_cons] at h1;rw [h1];rfl
   ·exact .inl ⟨(show(4:Nat)≠6 by decide),h4⟩
 have HP:=AA hpost
 rcases hm with⟨_,rfl,_⟩ | ⟨m',_,rfl,_,_⟩
 ·go_wp2_with fail
  exact⟨rfl,HP.out⟩
 ·go_wp2_with fail
  go_end0
  exact HP.out
end
end Go.Proofs.YtebgikflpgcnlaaGreatDoor
