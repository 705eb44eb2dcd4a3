/- Part 23 of the proof: RdrN -/
import Derived.Test.YtejbcledkhioeaaGreatDoorQ21
namespace Go.Proofs.YtejbcledkhioeaaGreatDoor
set_option linter.unusedVariables false
set_option linter.unusedSimpArgs false
set_option maxRecDepth 100000
set_option maxHeartbeats 4000000
open Go.RowKit Tryz
section
variable {B b hi M:Nat} {w:World} {r:Ka} {ln:Nat} {s:ByteArray}
theorem jA (h:kU B b hi M w r ln s) {t:List ByteArray} (hwd:DN s=I4::t):
 Calls prog 59 #[.pointer (some ⟨b,0,none⟩),.string s,.map (some M)] w (Ei B b w ln (Ar r (DN s))):=by
 have hcall:=Ez s (by have:=h.sz;omega) w
 obtain⟨hws,hpos⟩:=Ey s
 have hsz:=h.sz
 rw [hwd] at hcall hws⊢
 have hlv:Ar r (I4::t)=if Az 5 r.st=true then(Av 5 r.m t).map (fun m'=>(⟨m',5⟩:Ka)) else none:=by
  have hk:Dx I4=5:=by kernel_rfl
  unfold Ar
  simp only [hk]
  rw [if_neg (by decide)]
 have TM:=AA hlv
 have HI:=AA h
 have hz0:((((I4::t).length:Nat):Int)==0)=false:=by rw [beq_eq_false_iff_ne,List.length_cons];omega
 obtain⟨n,hn⟩: ∃n,n=(I4::t).length:=⟨_,rfl⟩
 rw [←hn] at hz0
 have hn0:0<n:=by rw [hn,List.length_cons];omega
 have OV:=AA hn
 have EF:=AA hcall
 have ZL:=h.mlt
 have hhi:=h.hhi
 have QW:=AA h.map
 obtain⟨col,v1,v2,v3,v6,v7,v8,hr⟩:=h.rd.close
 have hlow:=hr.low
 have htop:=hr.top
 have HR:=AA hr
 clear hcall hlv h hr
 go_enter func59,ntmps59
 go_wp2_with fail
 refine EF.out.mono ?_
 clear EF
 rintro e w1 ⟨A,rfl,hA,ho,hb1⟩
 have hw1:=JI ho hA (List.cons_ne_nil _ _) (by omega)
 have q0:w1.cell? ⟨A,0,none⟩=some (.string ⟨#[109,101,109,111,114,121]⟩):=hw1.at_ 0 _ rfl
 have hlt1:=hw1.lt
 have hbl:=HR.out.blk.lt
 have hsz1:=hb1.size
 have g8:w1.cell? ⟨b,8,none⟩=some (.int .i64 r.st):=(hb1.cell (p:=⟨b,8,none⟩) hbl).trans (HR.out.blk.cell 8)
 have Fv:w1.heap[M]?=some (.map Gf 8):=(hb1.block M ZL).trans QW.out
 have KS:=KR (P:=prog) (W:=w1) (s:=⟨#[109,101,109,111,114,121]⟩) underlying108 underlying9 Fv (i:=4) (v:= .agg #[.int .i64 5,.func (.func 92) #[] #[]]) (by kernel_rfl)
 have HW1:=AA hw1;have HB1:=AA hb1
 rw [←OV.out]
 have Om:(((⟨#[109,101,109,111,114,121]⟩:ByteArray)[0].toNat:Int)==59)=false:=by decide
 clear hn ho hb1 hw1 Fv hws hpos hwd
 go_wp2_with fail
 generalize hw2:World.alloc _ _=w2
 have GY:Below w1.heap.size w1 w2:=by rw [←hw2];exact(Below.refl _ _).alloc (Nat.le_refl _) _
 have hx2:AL w2 w1.heap.size 148 [.int .i64 5,.func (.func 92) #[] #[]]:=by rw [←hw2];exact AL.new w1 _ [.int .i64 5,.func (.func 92) #[] #[]]
 obtain⟨h6,Qy⟩: ∃h6,h6=w1.heap.size:=⟨_,rfl⟩
 rw [←Qy] at hx2⊢
 have YP:w.heap.size≤h6:=by omega
 have HB2:=AA (HB1.out.trans (GY.mono hsz1))
 have HW2:=AA (HW1.out.below GY)
 have x0:=hx2.q 0 rfl
 have x1:=hx2.q 1 rfl
 have y8:w2.cell? ⟨b,8,none⟩=some (.int .i64 r.st):=(HB2.out.cell (p:=⟨b,8,none⟩) hbl).trans (HR.out.blk.cell 8)
 have z8:=(HR.out.blk.below HB2.out hbl).frozen 8
 have OU:=AA hx2
 clear hw2 GY hx2 Qy g8 q0 KS HW1 HB1
 have hbad:Az 5 r.st=false→Hid (Ar r (I4::t)=none∧Keep (fun k=>k<B∧k≠b) w w2.drew∧w2.drew.cell? ⟨b,9,none⟩=some (.int .i64 ln)):=fun hf=>
  AA ⟨by rw [TM.out,hf];rfl,((Keep.Aq HB2.out).Dt (fun k hk _=>hk)).drew,(HB2.out.cell (p:=⟨b,9,none⟩) hbl).trans (HR.out.blk.cell 9)⟩
 have hN0:((⟨#[109,101,109,111,114,121]⟩:ByteArray)[0].toNat:Int)=109:=by decide
 rw [hN0]
 clear Om hN0
 by_cases hc:5<r.st
 case pos=>
  have HBAD:=hbad (by cases hb:Az 5 r.st with | false=>rfl | true=>exfalso;unfold Az at hb;simp at hb;omega)
  have d0:decide ((r.st:Int)≤5)=false:=decide_eq_false (by omega)
  clear hbad
  refine wp_region_held_drew (S:=fun W=>W.cell? ⟨h6,0,none⟩=some (.int .i64 5)∧W.cell? ⟨b,8,none⟩=some (.int .i64 r.st)) (by kernel_rfl) ⟨x0,y8⟩ (fun hHeld=> ?_)
  refine AB (i:=0) (v:= ?_) rfl (by kernel_rfl) (fun _ _ _ h=>h) (by intro w hSw;(try dsimp only at hSw);go_simp;try with_reducible rfl) hHeld ?_
  refine AB (i:=1) (v:= ?_) rfl (by kernel_rfl) (fun _ _ _ h=>h) (by intro w hSw;(try dsimp only at hSw);go_simp;try with_reducible rfl) hHeld ?_
  refine AB (i:=2) (v:= ?_) rfl (by kernel_rfl) (fun _ _ _ h=>h) (by intro w hSw;(try dsimp only at hSw);go_simp;try with_reducible rfl) hHeld ?_
  refine AB (i:=3) (v:= ?_) rfl (by kernel_rfl) (fun _ _ _ h=>h) (by intro w hSw;(try dsimp only at hSw);go_simp;try with_reducible rfl) hHeld ?_
  refine AB (i:=4) (v:= ?_) rfl (by kernel_rfl) (fun _ _ _ h=>h) (by intro w hSw;(try dsimp only at hSw);go_simp;try with_reducible rfl) hHeld ?_
  refine AB (i:=5) (v:= ?_) rfl (by kernel_rfl) (fun _ _ _ h=>h) (by intro w hSw;(try dsimp only at hSw);go_simp;try with_reducible rfl) hHeld ?_
  refine AB (i:=6) (v:= ?_) rfl (by kernel_rfl) (fun _ _ _ h=>h) (by intro w hSw;(try dsimp only at hSw);go_simp;try with_reducible rfl) hHeld ?_
  refine AB (i:=7) (v:= ?_) rfl (by kernel_rfl) (fun _ _ _ h=>h) (by intro w hSw;(try dsimp only at hSw);go_simp;try with_reducible rfl) hHeld ?_
  refine AJ (i:=8) rfl (by kernel_rfl) (fun _ _ _ h=>h) hHeld ?_
  refine AJ (i:=9) rfl (by kernel_rfl) (fun _ _ _ h=>h) hHeld ?_
  refine AJ (i:=10) rfl (by kernel_rfl) (fun _ _ _ h=>h) hHeld ?_
  refine AJ (i:=11) rfl (by kernel_rfl) (fun _ _ _ h=>h) hHeld ?_
  refine AJ (i:=12) rfl (by kernel_rfl) (fun _ _ _ h=>h) hHeld ?_
  refine AJ (i:=13) rfl (by kernel_rfl) (fun _ _ _ h=>h) hHeld ?_
  refine AJ (i:=14) rfl (by kernel_rfl) (fun _ _ _ h=>h) hHeld ?_
  refine AJ (i:=15) rfl (by kernel_rfl) (fun _ _ _ h=>h) hHeld ?_
  refine AJ (i:=16) rfl (by kernel_rfl) (fun _ _ _ h=>h) hHeld ?_
  refine AJ (i:=17) rfl (by kernel_rfl) (fun _ _ _ h=>h) hHeld ?_
  refine AJ (i:=18) rfl (by kernel_rfl) (fun _ _ _ h=>h) hHeld ?_
  refine AB (i:=19) (v:= ?_) rfl (by kernel_rfl) (fun _ _ _ h=>h) (by intro w hSw;(try dsimp only at hSw);go_simp;try with_reducible rfl) hHeld ?_
  refine wpAnyH_ready (rs:= [20]) (by kernel_rfl) (by simp) ?_
  refine AllReadyH.cons rfl (fun K hK=> ?_) AllReadyH.nil
  go_simp
  refine(AY _).mono ?_
  rintro e w3 ⟨rfl,rfl⟩
  go_wp2_with fail
  exact⟨rfl,HBAD.out.2.1,.inl ⟨HBAD.out.1,rfl,HBAD.out.2.2⟩⟩
 by_cases hc:r.st=5
 case pos=>
  have HBAD:=hbad (by cases hb:Az 5 r.st with | false=>rfl | true=>exfalso;unfold Az at hb;simp at hb;omega)
  have d0:decide ((r.st:Int)≤5)=true:=decide_eq_true (by omega)
  have d1:decide ((r.st:Int)<5)=false:=decide_eq_false (by omega)
  clear hbad
  refine wp_region_held_drew (S:=fun W=>W.cell? ⟨h6,0,none⟩=some (.int .i64 5)∧W.cell? ⟨b,8,none⟩=some (.int .i64 r.st)) (by kernel_rfl) ⟨x0,y8⟩ (fun hHeld=> ?_)
  refine AB (i:=0) (v:= ?_) rfl (by kernel_rfl) (fun _ _ _ h=>h) (by intro w hSw;(try dsimp only at hSw);go_simp;try with_reducible rfl) hHeld ?_
  refine AB (i:=1) (v:= ?_) rfl (by kernel_rfl) (fun _ _ _ h=>h) (by intro w hSw;(try dsimp only at hSw);go_simp;try with_reducible rfl) hHeld ?_
  refine AB (i:=2) (v:= ?_) rfl (by kernel_rfl) (fun _ _ _ h=>h) (by intro w hSw;(try dsimp only at hSw);go_simp;try with_reducible rfl) hHeld ?_
  refine AB (i:=3) (v:= ?_) rfl (by kernel_rfl) (fun _ _ _ h=>h) (by intro w hSw;(try dsimp only at hSw);go_simp;try with_reducible rfl) hHeld ?_
  refine AB (i:=4) (v:= ?_) rfl (by kernel_rfl) (fun _ _ _ h=>h) (by intro w hSw;(try dsimp only at hSw);go_simp;try with_reducible rfl) hHeld ?_
  refine AB (i:=5) (v:= ?_) rfl (by kernel_rfl) (fun _ _ _ h=>h) (by intro w hSw;(try dsimp only at hSw);go_simp;try with_reducible rfl) hHeld ?_
  refine AB (i:=6) (v:= ?_) rfl (by kernel_rfl) (fun _ _ _ h=>h) (by intro w hSw;(try dsimp only at hSw);go_simp;try with_reducible rfl) hHeld ?_
  refine AB (i:=7) (v:= ?_) rfl (by kernel_rfl) (fun _ _ _ h=>h) (by intro w hSw;(try dsimp only at hSw);go_simp;try with_reducible rfl) hHeld ?_
  refine AB (i:=8) (v:= ?_) rfl (by kernel_rfl) (fun _ _ _ h=>h) (by intro w hSw;(try dsimp only at hSw);go_simp;try with_reducible rfl) hHeld ?_
  refine AB (i:=9) (v:= ?_) rfl (by kernel_rfl) (fun _ _ _ h=>h) (by intro w hSw;(try dsimp only at hSw);go_simp;try with_reducible rfl) hHeld ?_
  refine AB (i:=10) (v:= ?_) rfl (by kernel_rfl) (fun _ _ _ h=>h) (by intro w hSw;(try dsimp only at hSw);go_simp;try with_reducible rfl) hHeld ?_
  refine AB (i:=11) (v:= ?_) rfl (by kernel_rfl) (fun _ _ _ h=>h) (by intro w hSw;(try dsimp only at hSw);go_simp;try with_reducible rfl) hHeld ?_
  refine AB (i:=12) (v:= ?_) rfl (by kernel_rfl) (fun _ _ _ h=>h) (by intro w hSw;(try dsimp only at hSw);go_simp;try with_reducible rfl) hHeld ?_
  refine AB (i:=13) (v:= ?_) rfl (by kernel_rfl) (fun _ _ _ h=>h) (by intro w hSw;(try dsimp only at hSw);go_simp;try with_reducible rfl) hHeld ?_
  refine AB (i:=14) (v:= ?_) rfl (by kernel_rfl) (fun _ _ _ h=>h) (by intro w hSw;(try dsimp only at hSw);go_simp;try with_reducible rfl) hHeld ?_
  refine AB (i:=15) (v:= ?_) rfl (by kernel_rfl) (fun _ _ _ h=>h) (by intro w hSw;(try dsimp only at hSw);go_simp;try with_reducible rfl) hHeld ?_
  refine AB (i:=16) (v:= ?_) rfl (by kernel_rfl) (fun _ _ _ h=>h) (by intro w hSw;(try dsimp only at hSw);go_simp;try with_reducible rfl) hHeld ?_
  refine AB (i:=17) (v:= ?_) rfl (by kernel_rfl) (fun _ _ _ h=>h) (by intro w hSw;(try dsimp only at hSw);go_simp;try with_reducible rfl) hHeld ?_
  refine AB (i:=18) (v:= ?_) rfl (by kernel_rfl) (fun _ _ _ h=>h) (by intro w hSw;(try dsimp only at hSw);go_simp;try with_reducible rfl) hHeld ?_
  refine AB (i:=19) (v:= ?_) rfl (by kernel_rfl) (fun _ _ _ h=>h) (by intro w hSw;(try dsimp only at hSw);go_simp;try with_reducible rfl) hHeld ?_
  refine wpAnyH_ready (rs:= [20]) (by kernel_rfl) (by simp) ?_
  refine AllReadyH.cons rfl (fun K hK=> ?_) AllReadyH.nil
  go_simp
  refine(AY _).mono ?_
  rintro e w3 ⟨rfl,rfl⟩
  go_wp2_with fail
  exact⟨rfl,HBAD.out.2.1,.inl ⟨HBAD.out.1,rfl,HBAD.out.2.2⟩⟩
 by_cases hc:r.st=0
 case pos=>
  have HBAD:=hbad (by cases hb:Az 5 r.st with | false=>rfl | true=>exfalso;unfold Az at hb;simp at hb;omega)
  have d0:decide ((r.st:Int)≤5)=true:=decide_eq_true (by omega)
  have d1:decide ((r.st:Int)<5)=true:=decide_eq_true (by omega)
  have d2:((r.st:Int) !=0)=false:=by rw [bne_eq_false_iff_eq];omega
  clear hbad
  refine wp_region_held_drew (S:=fun W=>W.cell? ⟨h6,0,none⟩=some (.int .i64 5)∧W.cell? ⟨b,8,none⟩=some (.int .i64 r.st)) (by kernel_rfl) ⟨x0,y8⟩ (fun hHeld=> ?_)
  refine AB (i:=0) (v:= ?_) rfl (by kernel_rfl) (fun _ _ _ h=>h) (by intro w hSw;(try dsimp only at hSw);go_simp;try with_reducible rfl) hHeld ?_
  refine AB (i:=1) (v:= ?_) rfl (by kernel_rfl) (fun _ _ _ h=>h) (by intro w hSw;(try dsimp only at hSw);go_simp;try with_reducible rfl) hHeld ?_
  refine AB (i:=2) (v:= ?_) rfl (by kernel_rfl) (fun _ _ _ h=>h) (by intro w hSw;(try dsimp only at hSw);go_simp;try with_reducible rfl) hHeld ?_
  refine AB (i:=3) (v:= ?_) rfl (by kernel_rfl) (fun _ _ _ h=>h) (by intro w hSw;(try dsimp only at hSw);go_simp;try with_reducible rfl) hHeld ?_
  refine AB (i:=4) (v:= ?_) rfl (by kernel_rfl) (fun _ _ _ h=>h) (by intro w hSw;(try dsimp only at hSw);go_simp;try with_reducible rfl) hHeld ?_
  refine AB (i:=5) (v:= ?_) rfl (by kernel_rfl) (fun _ _ _ h=>h) (by intro w hSw;(try dsimp only at hSw);go_simp;try with_reducible rfl) hHeld ?_
  refine AB (i:=6) (v:= ?_) rfl (by kernel_rfl) (fun _ _ _ h=>h) (by intro w hSw;(try dsimp only at hSw);go_simp;try with_reducible rfl) hHeld ?_
  refine AB (i:=7) (v:= ?_) rfl (by kernel_rfl) (fun _ _ _ h=>h) (by intro w hSw;(try dsimp only at hSw);go_simp;try with_reducible rfl) hHeld ?_
  refine AB (i:=8) (v:= ?_) rfl (by kernel_rfl) (fun _ _ _ h=>h) (by intro w hSw;(try dsimp only at hSw);go_simp;try with_reducible rfl) hHeld ?_
  refine AB (i:=9) (v:= ?_) rfl (by kernel_rfl) (fun _ _ _ h=>h) (by intro w hSw;(try dsimp only at hSw);go_simp;try with_reducible rfl) hHeld ?_
  refine AB (i:=10) (v:= ?_) rfl (by kernel_rfl) (fun _ _ _ h=>h) (by intro w hSw;(try dsimp only at hSw);go_simp;try with_reducible rfl) hHeld ?_
  refine AB (i:=11) (v:= ?_) rfl (by kernel_rfl) (fun _ _ _ h=>h) (by intro w hSw;(try dsimp only at hSw);go_simp;try with_reducible rfl) hHeld ?_
  refine AB (i:=12) (v:= ?_) rfl (by kernel_rfl) (fun _ _ _ h=>h) (by intro w hSw;(try dsimp only at hSw);go_simp;try with_reducible rfl) hHeld ?_
  refine AB (i:=13) (v:= ?_) rfl (by kernel_rfl) (fun _ _ _ h=>h) (by intro w hSw;(try dsimp only at hSw);go_simp;try with_reducible rfl) hHeld ?_
  refine AB (i:=14) (v:= ?_) rfl (by kernel_rfl) (fun _ _ _ h=>h) (by intro w hSw;(try dsimp only at hSw);go_simp;try with_reducible rfl) hHeld ?_
  refine AB (i:=15) (v:= ?_) rfl (by kernel_rfl) (fun _ _ _ h=>h) (by intro w hSw;(try dsimp only at hSw);go_simp;try with_reducible rfl) hHeld ?_
  refine AB (i:=16) (v:= ?_) rfl (by kernel_rfl) (fun _ _ _ h=>h) (by intro w hSw;(try dsimp only at hSw);go_simp;try with_reducible rfl) hHeld ?_
  refine AB (i:=17) (v:= ?_) rfl (by kernel_rfl) (fun _ _ _ h=>h) (by intro w hSw;(try dsimp only at hSw);go_simp;try with_reducible rfl) hHeld ?_
  refine AB (i:=18) (v:= ?_) rfl (by kernel_rfl) (fun _ _ _ h=>h) (by intro w hSw;(try dsimp only at hSw);go_simp;try with_reducible rfl) hHeld ?_
  refine AB (i:=19) (v:= ?_) rfl (by kernel_rfl) (fun _ _ _ h=>h) (by intro w hSw;(try dsimp only at hSw);go_simp;try with_reducible rfl) hHeld ?_
  refine wpAnyH_ready (rs:= [20]) (by kernel_rfl) (by simp) ?_
  refine AllReadyH.cons rfl (fun K hK=> ?_) AllReadyH.nil
  go_simp
  refine(AO _).mono ?_
  rintro e w3 ⟨rfl,rfl⟩
  refine hK.out _ _ ⟨x0,y8⟩ (fun Ag=> ?_)
  clear hK K
  refine wpAnyH_done (by kernel_rfl) ?_ _
  clear hHeld Ag
  go_wp2_with fail
  refine(AY _).mono ?_
  rintro e w3 ⟨rfl,rfl⟩
  go_wp2_with fail
  exact⟨rfl,HBAD.out.2.1,.inl ⟨HBAD.out.1,rfl,HBAD.out.2.2⟩⟩
 have d0:decide ((r.st:Int)≤5)=true:=decide_eq_true (by omega)
 have d1:decide ((r.st:Int)<5)=true:=decide_eq_true (by omega)
 have d2:((r.st:Int) !=0)=true:=by rw [bne_iff_ne];omega
 have Qz:Hid (Ar r (I4::t)=(Av 5 r.m t).map (fun m'=>(⟨m',5⟩:Ka))):=AA (by
  have ho:Az 5 r.st=true:=by
   cases hb:Az 5 r.st with
   | true=>rfl
   | false=>exfalso;unfold Az at hb;simp at hb;omega
  rw [TM.out,ho];rfl)
 clear hbad
 refine wp_region_held_drew (S:=fun W=>W.cell? ⟨h6,0,none⟩=some (.int .i64 5)∧W.cell? ⟨b,8,none⟩=some (.int .i64 r.st)) (by kernel_rfl) ⟨x0,y8⟩ (fun hHeld=> ?_)
 refine AB (i:=0) (v:= ?_) rfl (by kernel_rfl) (fun _ _ _ h=>h) (by intro w hSw;(try dsimp only at hSw);go_simp;try with_reducible rfl) hHeld ?_
 refine AB (i:=1) (v:= ?_) rfl (by kernel_rfl) (fun _ _ _ h=>h) (by intro w hSw;(try dsimp only at hSw);go_simp;try with_reducible rfl) hHeld ?_
 refine AB (i:=2) (v:= ?_) rfl (by kernel_rfl) (fun _ _ _ h=>h) (by intro w hSw;(try dsimp only at hSw);go_simp;try with_reducible rfl) hHeld ?_
 refine AB (i:=3) (v:= ?_) rfl (by kernel_rfl) (fun _ _ _ h=>h) (by intro w hSw;(try dsimp only at hSw);go_simp;try with_reducible rfl) hHeld ?_
 refine AB (i:=4) (v:= ?_) rfl (by kernel_rfl) (fun _ _ _ h=>h) (by intro w hSw;(try dsimp only at hSw);go_simp;try with_reducible rfl) hHeld ?_
 refine AB (i:=5) (v:= ?_) rfl (by kernel_rfl) (fun _ _ _ h=>h) (by intro w hSw;(try dsimp only at hSw);go_simp;try with_reducible rfl) hHeld ?_
 refine AB (i:=6) (v:= ?_) rfl (by kernel_rfl) (fun _ _ _ h=>h) (by intro w hSw;(try dsimp only at hSw);go_simp;try with_reducible rfl) hHeld ?_
 refine AB (i:=7) (v:= ?_) rfl (by kernel_rfl) (fun _ _ _ h=>h) (by intro w hSw;(try dsimp only at hSw);go_simp;try with_reducible rfl) hHeld ?_
 refine AB (i:=8) (v:= ?_) rfl (by kernel_rfl) (fun _ _ _ h=>h) (by intro w hSw;(try dsimp only at hSw);go_simp;try with_reducible rfl) hHeld ?_
 refine AB (i:=9) (v:= ?_) rfl (by kernel_rfl) (fun _ _ _ h=>h) (by intro w hSw;(try dsimp only at hSw);go_simp;try with_reducible rfl) hHeld ?_
 refine AB (i:=10) (v:= ?_) rfl (by kernel_rfl) (fun _ _ _ h=>h) (by intro w hSw;(try dsimp only at hSw);go_simp;try with_reducible rfl) hHeld ?_
 refine AB (i:=11) (v:= ?_) rfl (by kernel_rfl) (fun _ _ _ h=>h) (by intro w hSw;(try dsimp only at hSw);go_simp;try with_reducible rfl) hHeld ?_
 refine AB (i:=12) (v:= ?_) rfl (by kernel_rfl) (fun _ _ _ h=>h) (by intro w hSw;(try dsimp only at hSw);go_simp;try with_reducible rfl) hHeld ?_
 refine AB (i:=13) (v:= ?_) rfl (by kernel_rfl) (fun _ _ _ h=>h) (by intro w hSw;(try dsimp only at hSw);go_simp;try with_reducible rfl) hHeld ?_
 refine AB (i:=14) (v:= ?_) rfl (by kernel_rfl) (fun _ _ _ h=>h) (by intro w hSw;(try dsimp only at hSw);go_simp;try with_reducible rfl) hHeld ?_
 refine AB (i:=15) (v:= ?_) rfl (by kernel_rfl) (fun _ _ _ h=>h) (by intro w hSw;(try dsimp only at hSw);go_simp;try with_reducible rfl) hHeld ?_
 refine AB (i:=16) (v:= ?_) rfl (by kernel_rfl) (fun _ _ _ h=>h) (by intro w hSw;(try dsimp only at hSw);go_simp;try with_reducible rfl) hHeld ?_
 refine AB (i:=17) (v:= ?_) rfl (by kernel_rfl) (fun _ _ _ h=>h) (by intro w hSw;(try dsimp only at hSw);go_simp;try with_reducible rfl) hHeld ?_
 refine AB (i:=18) (v:= ?_) rfl (by kernel_rfl) (fun _ _ _ h=>h) (by intro w hSw;(try dsimp only at hSw);go_simp;try with_reducible rfl) hHeld ?_
 refine AB (i:=19) (v:= ?_) rfl (by kernel_rfl) (fun _ _ _ h=>h) (by intro w hSw;(try dsimp only at hSw);go_simp;try with_reducible rfl) hHeld ?_
 refine wpAnyH_ready (rs:= [20]) (by kernel_rfl) (by simp) ?_
 refine AllReadyH.cons rfl (fun K hK=> ?_) AllReadyH.nil
 go_simp
 refine(AO _).mono ?_
 rintro e w3 ⟨rfl,rfl⟩
 refine hK.out _ _ ⟨x0,y8⟩ (fun Ag=> ?_)
 clear hK K
 refine wpAnyH_done (by kernel_rfl) ?_ _
 clear hHeld Ag
 go_wp2_with fail
 refine(AO _).mono ?_
 rintro e w3 ⟨rfl,rfl⟩
 go_wp2_with fail
 refine(AO _).mono ?_
 rintro e w3 ⟨rfl,rfl⟩
 go_upto_region 10 with fail
 have SK:OL B b (w2.setCell ⟨b,8,none⟩ (.int .i64 (5:Nat))).drew _ v1 v2 v3 v6 v7 v8 r.m 5 ln:=((HR.out.below HB2.out).stage 5).below ((Below.refl _ _).drew)
 have hx5:AL (w2.setCell ⟨b,8,none⟩ (.int .i64 (5:Nat))).drew h6 148 [.int .i64 5,.func (.func 92) #[] #[]]:=(OU.out.far (p:=⟨b,8,none⟩) (by show h6≠b;omega) _).drewN 1
 have U6:Keep (fun k=>k<B∧k≠b) w (w2.setCell ⟨b,8,none⟩ (.int .i64 (5:Nat))).drew:=(((Keep.Aq HB2.out).Dt (fun k hk _=>hk)).setCell (p:=⟨b,8,none⟩) (fun e=>e.2 rfl) _).drew
 have U7:ED (w2.setCell ⟨b,8,none⟩ (.int .i64 (5:Nat))).drew A (I4::t):=(HW2.out.keep (K:=fun k=>k≠b) (((Keep.refl _ w2).setCell (p:=⟨b,8,none⟩) (fun e=>e rfl) _).drew) (by omega))
 have U8:Dv hi (w2.setCell ⟨b,8,none⟩ (.int .i64 (5:Nat))).drew:=HI.out.env.to (((HB2.out.mono (show hi≤w.heap.size by omega)).setCell (p:=⟨b,8,none⟩) hhi _).drew)
 generalize World.drew (w2.setCell _ _)=w5 at*
 have x1:=hx5.q 1 rfl
 have Pw:=AA SK;have Qf:=AA U6;have bF:=AA U7;have bG:=AA U8
 clear SK U6 U7 U8 hx5 x0 y8 z8 OU HW2
 go_wp2_with fail
 rw [OV.out]
 refine(iI ⟨Pw.out,bF.out,bG.out,hhi,HI.out.lens,by omega⟩ (List.cons_ne_nil _ _)).mono ?_
 rintro e w6 hm
 have hpost:Ei B b w ln (Ar r (I4::t)) e w6:=by
  rcases hm with⟨h1,h2,h3⟩ | ⟨m',h1,h2,h3,h4⟩
  ·refine⟨Qf.out.trans ((Keep.Aq h3).Dt (fun k hk _=>hk)),.inl ⟨?_,h2,(h3.cell (p:=⟨b,9,none⟩) Pw.out.blk.lt).trans (Pw.out.blk.cell 9)⟩⟩
   rw [Qz.out];rw [List.tail_cons] at h1;rw [h1];rfl
  ·refine⟨Qf.out.trans h3,.inr ⟨⟨m',5⟩,?_,h2,?_⟩⟩
   ·rw [Qz.out];rw [List.tail_cons] at h1;rw [h1];rfl
   ·exact .inl ⟨(show(5:Nat)≠6 by decide),h4⟩
 have HP:=AA hpost
 rcases hm with⟨_,rfl,_⟩ | ⟨m',_,rfl,_,_⟩
 ·go_wp2_with fail
  exact⟨rfl,HP.out⟩
 ·go_wp2_with fail
  go_end0
  exact HP.out
theorem jB (h:kU B b hi M w r ln s) {t:List ByteArray} (hwd:DN s=M7::t):
 Calls prog 59 #[.pointer (some ⟨b,0,none⟩),.string s,.map (some M)] w (Ei B b w ln (Ar r (DN s))):=by
 have hcall:=Ez s (by have:=h.sz;omega) w
 obtain⟨hws,hpos⟩:=Ey s
 have hsz:=h.sz
 rw [hwd] at hcall hws⊢
 have hlv:Ar r (M7::t)=if Az 6 r.st=true then(Av 6 r.m t).map (fun m'=>(⟨m',6⟩:Ka)) else none:=by
  have hk:Dx M7=6:=by kernel_rfl
  unfold Ar
  simp only [hk]
  rw [if_neg (by decide)]
 have TM:=AA hlv
 have HI:=AA h
 have hz0:((((M7::t).length:Nat):Int)==0)=false:=by rw [beq_eq_false_iff_ne,List.length_cons];omega
 obtain⟨n,hn⟩: ∃n,n=(M7::t).length:=⟨_,rfl⟩
 rw [←hn] at hz0
 have hn0:0<n:=by rw [hn,List.length_cons];omega
 have OV:=AA hn
 have EF:=AA hcall
 have ZL:=h.mlt
 have hhi:=h.hhi
 have QW:=AA h.map
 obtain⟨col,v1,v2,v3,v6,v7,v8,hr⟩:=h.rd.close
 have hlow:=hr.low
 have htop:=hr.top
 have HR:=AA hr
 clear hcall hlv h hr
 go_enter func59,ntmps59
 go_wp2_with fail
 refine EF.out.mono ?_
 clear EF
 rintro e w1 ⟨A,rfl,hA,ho,hb1⟩
 have hw1:=JI ho hA (List.cons_ne_nil _ _) (by omega)
 have q0:w1.cell? ⟨A,0,none⟩=some (.string ⟨#[102,117,110,99]⟩):=hw1.at_ 0 _ rfl
 have hlt1:=hw1.lt
 have hbl:=HR.out.blk.lt
 have hsz1:=hb1.size
 have g8:w1.cell? ⟨b,8,none⟩=some (.int .i64 r.st):=(hb1.cell (p:=⟨b,8,none⟩) hbl).trans (HR.out.blk.cell 8)
 have Fv:w1.heap[M]?=some (.map Gf 8):=(hb1.block M ZL).trans QW.out
 have KS:=KR (P:=prog) (W:=w1) (s:=⟨#[102,117,110,99]⟩) underlying108 underlying9 Fv (i:=5) (v:= .agg #[.int .i64 6,.func (.func 93) #[] #[]]) (by kernel_rfl)
 have HW1:=AA hw1;have HB1:=AA hb1
 rw [←OV.out]
 have Om:(((⟨#[102,117,110,99]⟩:ByteArray)[0].toNat:Int)==59)=false:=by decide
 clear hn ho hb1 hw1 Fv hws hpos hwd
 go_wp2_with fail
 generalize hw2:World.alloc _ _=w2
 have GY:Below w1.heap.size w1 w2:=by rw [←hw2];exact(Below.refl _ _).alloc (Nat.le_refl _) _
 have hx2:AL w2 w1.heap.size 148 [.int .i64 6,.func (.func 93) #[] #[]]:=by rw [←hw2];exact AL.new w1 _ [.int .i64 6,.func (.func 93) #[] #[]]
 obtain⟨h6,Qy⟩: ∃h6,h6=w1.heap.size:=⟨_,rfl⟩
 rw [←Qy] at hx2⊢
 have YP:w.heap.size≤h6:=by omega
 have HB2:=AA (HB1.out.trans (GY.mono hsz1))
 have HW2:=AA (HW1.out.below GY)
 have x0:=hx2.q 0 rfl
 have x1:=hx2.q 1 rfl
 have y8:w2.cell? ⟨b,8,none⟩=some (.int .i64 r.st):=(HB2.out.cell (p:=⟨b,8,none⟩) hbl).trans (HR.out.blk.cell 8)
 have z8:=(HR.out.blk.below HB2.out hbl).frozen 8
 have OU:=AA hx2
 clear hw2 GY hx2 Qy g8 q0 KS HW1 HB1
 have hbad:Az 6 r.st=false→Hid (Ar r (M7::t)=none∧Keep (fun k=>k<B∧k≠b) w w2.drew∧w2.drew.cell? ⟨b,9,none⟩=some (.int .i64 ln)):=fun hf=>
  AA ⟨by rw [TM.out,hf];rfl,((Keep.Aq HB2.out).Dt (fun k hk _=>hk)).drew,(HB2.out.cell (p:=⟨b,9,none⟩) hbl).trans (HR.out.blk.cell 9)⟩
 have hN0:((⟨#[102,117,110,99]⟩:ByteArray)[0].toNat:Int)=102:=by decide
 rw [hN0]
 clear Om hN0
 by_cases hc:6<r.st
 case pos=>
  have HBAD:=hbad (by cases hb:Az 6 r.st with | false=>rfl | true=>exfalso;unfold Az at hb;simp at hb;omega)
  have d0:decide ((r.st:Int)≤6)=false:=decide_eq_false (by omega)
  clear hbad
  refine wp_region_held_drew (S:=fun W=>W.cell? ⟨h6,0,none⟩=some (.int .i64 6)∧W.cell? ⟨b,8,none⟩=some (.int .i64 r.st)) (by kernel_rfl) ⟨x0,y8⟩ (fun hHeld=> ?_)
  refine AB (i:=0) (v:= ?_) rfl (by kernel_rfl) (fun _ _ _ h=>h) (by intro w hSw;(try dsimp only at hSw);go_simp;try with_reducible rfl) hHeld ?_
  refine AB (i:=1) (v:= ?_) rfl (by kernel_rfl) (fun _ _ _ h=>h) (by intro w hSw;(try dsimp only at hSw);go_simp;try with_reducible rfl) hHeld ?_
  refine AB (i:=2) (v:= ?_) rfl (by kernel_rfl) (fun _ _ _ h=>h) (by intro w hSw;(try dsimp only at hSw);go_simp;try with_reducible rfl) hHeld ?_
  refine AB (i:=3) (v:= ?_) rfl (by kernel_rfl) (fun _ _ _ h=>h) (by intro w hSw;(try dsimp only at hSw);go_simp;try with_reducible rfl) hHeld ?_
  refine AB (i:=4) (v:= ?_) rfl (by kernel_rfl) (fun _ _ _ h=>h) (by intro w hSw;(try dsimp only at hSw);go_simp;try with_reducible rfl) hHeld ?_
  refine AB (i:=5) (v:= ?_) rfl (by kernel_rfl) (fun _ _ _ h=>h) (by intro w hSw;(try dsimp only at hSw);go_simp;try with_reducible rfl) hHeld ?_
  refine AB (i:=6) (v:= ?_) rfl (by kernel_rfl) (fun _ _ _ h=>h) (by intro w hSw;(try dsimp only at hSw);go_simp;try with_reducible rfl) hHeld ?_
  refine AB (i:=7) (v:= ?_) rfl (by kernel_rfl) (fun _ _ _ h=>h) (by intro w hSw;(try dsimp only at hSw);go_simp;try with_reducible rfl) hHeld ?_
  refine AJ (i:=8) rfl (by kernel_rfl) (fun _ _ _ h=>h) hHeld ?_
  refine AJ (i:=9) rfl (by kernel_rfl) (fun _ _ _ h=>h) hHeld ?_
  refine AJ (i:=10) rfl (by kernel_rfl) (fun _ _ _ h=>h) hHeld ?_
  refine AJ (i:=11) rfl (by kernel_rfl) (fun _ _ _ h=>h) hHeld ?_
  refine AJ (i:=12) rfl (by kernel_rfl) (fun _ _ _ h=>h) hHeld ?_
  refine AJ (i:=13) rfl (by kernel_rfl) (fun _ _ _ h=>h) hHeld ?_
  refine AJ (i:=14) rfl (by kernel_rfl) (fun _ _ _ h=>h) hHeld ?_
  refine AJ (i:=15) rfl (by kernel_rfl) (fun _ _ _ h=>h) hHeld ?_
  refine AJ (i:=16) rfl (by kernel_rfl) (fun _ _ _ h=>h) hHeld ?_
  refine AJ (i:=17) rfl (by kernel_rfl) (fun _ _ _ h=>h) hHeld ?_
  refine AJ (i:=18) rfl (by kernel_rfl) (fun _ _ _ h=>h) hHeld ?_
  refine AB (i:=19) (v:= ?_) rfl (by kernel_rfl) (fun _ _ _ h=>h) (by intro w hSw;(try dsimp only at hSw);go_simp;try with_reducible rfl) hHeld ?_
  refine wpAnyH_ready (rs:= [20]) (by kernel_rfl) (by simp) ?_
  refine AllReadyH.cons rfl (fun K hK=> ?_) AllReadyH.nil
  go_simp
  refine(AY _).mono ?_
  rintro e w3 ⟨rfl,rfl⟩
  go_wp2_with fail
  exact⟨rfl,HBAD.out.2.1,.inl ⟨HBAD.out.1,rfl,HBAD.out.2.2⟩⟩
 by_cases hc:r.st=0
 case pos=>
  have HBAD:=hbad (by cases hb:Az 6 r.st with | false=>rfl | true=>exfalso;unfold Az at hb;simp at hb;omega)
  have d0:decide ((r.st:Int)≤6)=true:=decide_eq_true (by omega)
  have d1:((r.st:Int) !=0)=false:=by rw [bne_eq_false_iff_eq];omega
  clear hbad
  refine wp_region_held_drew (S:=fun W=>W.cell? ⟨h6,0,none⟩=some (.int .i64 6)∧W.cell? ⟨b,8,none⟩=some (.int .i64 r.st)) (by kernel_rfl) ⟨x0,y8⟩ (fun hHeld=> ?_)
  refine AB (i:=0) (v:= ?_) rfl (by kernel_rfl) (fun _ _ _ h=>h) (by intro w hSw;(try dsimp only at hSw);go_simp;try with_reducible rfl) hHeld ?_
  refine AB (i:=1) (v:= ?_) rfl (by kernel_rfl) (fun _ _ _ h=>h) (by intro w hSw;(try dsimp only at hSw);go_simp;try with_reducible rfl) hHeld ?_
  refine AB (i:=2) (v:= ?_) rfl (by kernel_rfl) (fun _ _ _ h=>h) (by intro w hSw;(try dsimp only at hSw);go_simp;try with_reducible rfl) hHeld ?_
  refine AB (i:=3) (v:= ?_) rfl (by kernel_rfl) (fun _ _ _ h=>h) (by intro w hSw;(try dsimp only at hSw);go_simp;try with_reducible rfl) hHeld ?_
  refine AB (i:=4) (v:= ?_) rfl (by kernel_rfl) (fun _ _ _ h=>h) (by intro w hSw;(try dsimp only at hSw);go_simp;try with_reducible rfl) hHeld ?_
  refine AB (i:=5) (v:= ?_) rfl (by kernel_rfl) (fun _ _ _ h=>h) (by intro w hSw;(try dsimp only at hSw);go_simp;try with_reducible rfl) hHeld ?_
  refine AB (i:=6) (v:= ?_) rfl (by kernel_rfl) (fun _ _ _ h=>h) (by intro w hSw;(try dsimp only at hSw);go_simp;try with_reducible rfl) hHeld ?_
  refine AB (i:=7) (v:= ?_) rfl (by kernel_rfl) (fun _ _ _ h=>h) (by intro w hSw;(try dsimp only at hSw);go_simp;try with_reducible rfl) hHeld ?_
  refine AB (i:=8) (v:= ?_) rfl (by kernel_rfl) (fun _ _ _ h=>h) (by intro w hSw;(try dsimp only at hSw);go_simp;try with_reducible rfl) hHeld ?_
  refine AB (i:=9) (v:= ?_) rfl (by kernel_rfl) (fun _ _ _ h=>h) (by intro w hSw;(try dsimp only at hSw);go_simp;try with_reducible rfl) hHeld ?_
  refine AB (i:=10) (v:= ?_) rfl (by kernel_rfl) (fun _ _ _ h=>h) (by intro w hSw;(try dsimp only at hSw);go_simp;try with_reducible rfl) hHeld ?_
  refine AJ (i:=11) rfl (by kernel_rfl) (fun _ _ _ h=>h) hHeld ?_
  refine AJ (i:=12) rfl (by kernel_rfl) (fun _ _ _ h=>h) hHeld ?_
  refine AJ (i:=13) rfl (by kernel_rfl) (fun _ _ _ h=>h) hHeld ?_
  refine AJ (i:=14) rfl (by kernel_rfl) (fun _ _ _ h=>h) hHeld ?_
  refine AJ (i:=15) rfl (by kernel_rfl) (fun _ _ _ h=>h) hHeld ?_
  refine AJ (i:=16) rfl (by kernel_rfl) (fun _ _ _ h=>h) hHeld ?_
  refine AJ (i:=17) rfl (by kernel_rfl) (fun _ _ _ h=>h) hHeld ?_
  refine AB (i:=18) (v:= ?_) rfl (by kernel_rfl) (fun _ _ _ h=>h) (by intro w hSw;(try dsimp only at hSw);go_simp;try with_reducible rfl) hHeld ?_
  refine AB (i:=19) (v:= ?_) rfl (by kernel_rfl) (fun _ _ _ h=>h) (by intro w hSw;(try dsimp only at hSw);go_simp;try with_reducible rfl) hHeld ?_
  refine wpAnyH_ready (rs:= [20]) (by kernel_rfl) (by simp) ?_
  refine AllReadyH.cons rfl (fun K hK=> ?_) AllReadyH.nil
  go_simp
  refine(AO _).mono ?_
  rintro e w3 ⟨rfl,rfl⟩
  refine hK.out _ _ ⟨x0,y8⟩ (fun Ag=> ?_)
  clear hK K
  refine wpAnyH_done (by kernel_rfl) ?_ _
  clear hHeld Ag
  go_wp2_with fail
  refine(AY _).mono ?_
  rintro e w3 ⟨rfl,rfl⟩
  go_wp2_with fail
  exact⟨rfl,HBAD.out.2.1,.inl ⟨HBAD.out.1,rfl,HBAD.out.2.2⟩⟩
 by_cases hc:r.st<5
 case pos=>
  have HBAD:=hbad (by cases hb:Az 6 r.st with | false=>rfl | true=>exfalso;unfold Az at hb;simp at hb;omega)
  have d0:decide ((r.st:Int)≤6)=true:=decide_eq_true (by omega)
  have d1:((r.st:Int) !=0)=true:=by rw [bne_iff_ne];omega
  have d2:decide (5≤(r.st:Int))=false:=decide_eq_false (by omega)
  clear hbad
  refine wp_region_held_drew (S:=fun W=>W.cell? ⟨h6,0,none⟩=some (.int .i64 6)∧W.cell? ⟨b,8,none⟩=some (.int .i64 r.st)) (by kernel_rfl) ⟨x0,y8⟩ (fun hHeld=> ?_)
  refine AB (i:=0) (v:= ?_) rfl (by kernel_rfl) (fun _ _ _ h=>h) (by intro w hSw;(try dsimp only at hSw);go_simp;try with_reducible rfl) hHeld ?_
  refine AB (i:=1) (v:= ?_) rfl (by kernel_rfl) (fun _ _ _ h=>h) (by intro w hSw;(try dsimp only at hSw);go_simp;try with_reducible rfl) hHeld ?_
  refine AB (i:=2) (v:= ?_) rfl (by kernel_rfl) (fun _ _ _ h=>h) (by intro w hSw;(try dsimp only at hSw);go_simp;try with_reducible rfl) hHeld ?_
  refine AB (i:=3) (v:= ?_) rfl (by kernel_rfl) (fun _ _ _ h=>h) (by intro w hSw;(try dsimp only at hSw);go_simp;try with_reducible rfl) hHeld ?_
  refine AB (i:=4) (v:= ?_) rfl (by kernel_rfl) (fun _ _ _ h=>h) (by intro w hSw;(try dsimp only at hSw);go_simp;try with_reducible rfl) hHeld ?_
  refine AB (i:=5) (v:= ?_) rfl (by kernel_rfl) (fun _ _ _ h=>h) (by intro w hSw;(try dsimp only at hSw);go_simp;try with_reducible rfl) hHeld ?_
  refine AB (i:=6) (v:= ?_) rfl (by kernel_rfl) (fun _ _ _ h=>h) (by intro w hSw;(try dsimp only at hSw);go_simp;try with_reducible rfl) hHeld ?_
  refine AB (i:=7) (v:= ?_) rfl (by kernel_rfl) (fun _ _ _ h=>h) (by intro w hSw;(try dsimp only at hSw);go_simp;try with_reducible rfl) hHeld ?_
  refine AB (i:=8) (v:= ?_) rfl (by kernel_rfl) (fun _ _ _ h=>h) (by intro w hSw;(try dsimp only at hSw);go_simp;try with_reducible rfl) hHeld ?_
  refine AB (i:=9) (v:= ?_) rfl (by kernel_rfl) (fun _ _ _ h=>h) (by intro w hSw;(try dsimp only at hSw);go_simp;try with_reducible rfl) hHeld ?_
  refine AB (i:=10) (v:= ?_) rfl (by kernel_rfl) (fun _ _ _ h=>h) (by intro w hSw;(try dsimp only at hSw);go_simp;try with_reducible rfl) hHeld ?_
  refine AJ (i:=11) rfl (by kernel_rfl) (fun _ _ _ h=>h) hHeld ?_
  refine AJ (i:=12) rfl (by kernel_rfl) (fun _ _ _ h=>h) hHeld ?_
  refine AJ (i:=13) rfl (by kernel_rfl) (fun _ _ _ h=>h) hHeld ?_
  refine AJ (i:=14) rfl (by kernel_rfl) (fun _ _ _ h=>h) hHeld ?_
  refine AJ (i:=15) rfl (by kernel_rfl) (fun _ _ _ h=>h) hHeld ?_
  refine AJ (i:=16) rfl (by kernel_rfl) (fun _ _ _ h=>h) hHeld ?_
  refine AJ (i:=17) rfl (by kernel_rfl) (fun _ _ _ h=>h) hHeld ?_
  refine AB (i:=18) (v:= ?_) rfl (by kernel_rfl) (fun _ _ _ h=>h) (by intro w hSw;(try dsimp only at hSw);go_simp;try with_reducible rfl) hHeld ?_
  refine AB (i:=19) (v:= ?_) rfl (by kernel_rfl) (fun _ _ _ h=>h) (by intro w hSw;(try dsimp only at hSw);go_simp;try with_reducible rfl) hHeld ?_
  refine wpAnyH_ready (rs:= [20]) (by kernel_rfl) (by simp) ?_
  refine AllReadyH.cons rfl (fun K hK=> ?_) AllReadyH.nil
  go_simp
  refine(AO _).mono ?_
  rintro e w3 ⟨rfl,rfl⟩
  refine hK.out _ _ ⟨x0,y8⟩ (fun Ag=> ?_)
  clear hK K
  refine wpAnyH_done (by kernel_rfl) ?_ _
  clear hHeld Ag
  go_wp2_with fail
  refine(AO _).mono ?_
  rintro e w3 ⟨rfl,rfl⟩
  go_wp2_with fail
  refine(AY _).mono ?_
  rintro e w3 ⟨rfl,rfl⟩
  go_wp2_with fail
  exact⟨rfl,HBAD.out.2.1,.inl ⟨HBAD.out.1,rfl,HBAD.out.2.2⟩⟩
 have d0:decide ((r.st:Int)≤6)=true:=decide_eq_true (by omega)
 have d1:((r.st:Int) !=0)=true:=by rw [bne_iff_ne];omega
 have d2:decide (5≤(r.st:Int))=true:=decide_eq_true (by omega)
 have Qz:Hid (Ar r (M7::t)=(Av 6 r.m t).map (fun m'=>(⟨m',6⟩:Ka))):=AA (by
  have ho:Az 6 r.st=true:=by
   cases hb:Az 6 r.st with
   | true=>rfl
   | false=>exfalso;unfold Az at hb;simp at hb;omega
  rw [TM.out,ho];rfl)
 clear hbad
 refine wp_region_held_drew (S:=fun W=>W.cell? ⟨h6,0,none⟩=some (.int .i64 6)∧W.cell? ⟨b,8,none⟩=some (.int .i64 r.st)) (by kernel_rfl) ⟨x0,y8⟩ (fun hHeld=> ?_)
 refine AB (i:=0) (v:= ?_) rfl (by kernel_rfl) (fun _ _ _ h=>h) (by intro w hSw;(try dsimp only at hSw);go_simp;try with_reducible rfl) hHeld ?_
 refine AB (i:=1) (v:= ?_) rfl (by kernel_rfl) (fun _ _ _ h=>h) (by intro w hSw;(try dsimp only at hSw);go_simp;try with_reducible rfl) hHeld ?_
 refine AB (i:=2) (v:= ?_) rfl (by kernel_rfl) (fun _ _ _ h=>h) (by intro w hSw;(try dsimp only at hSw);go_simp;try with_reducible rfl) hHeld ?_
 refine AB (i:=3) (v:= ?_) rfl (by kernel_rfl) (fun _ _ _ h=>h) (by intro w hSw;(try dsimp only at hSw);go_simp;try with_reducible rfl) hHeld ?_
 refine AB (i:=4) (v:= ?_) rfl (by kernel_rfl) (fun _ _ _ h=>h) (by intro w hSw;(try dsimp only at hSw);go_simp;try with_reducible rfl) hHeld ?_
 refine AB (i:=5) (v:= ?_) rfl (by kernel_rfl) (fun _ _ _ h=>h) (by intro w hSw;(try dsimp only at hSw);go_simp;try with_reducible rfl) hHeld ?_
 refine AB (i:=6) (v:= ?_) rfl (by kernel_rfl) (fun _ _ _ h=>h) (by intro w hSw;(try dsimp only at hSw);go_simp;try with_reducible rfl) hHeld ?_
 refine AB (i:=7) (v:= ?_) rfl (by kernel_rfl) (fun _ _ _ h=>h) (by intro w hSw;(try dsimp only at hSw);go_simp;try with_reducible rfl) hHeld ?_
 refine AB (i:=8) (v:= ?_) rfl (by kernel_rfl) (fun _ _ _ h=>h) (by intro w hSw;(try dsimp only at hSw);go_simp;try with_reducible rfl) hHeld ?_
 refine AB (i:=9) (v:= ?_) rfl (by kernel_rfl) (fun _ _ _ h=>h) (by intro w hSw;(try dsimp only at hSw);go_simp;try with_reducible rfl) hHeld ?_
 refine AB (i:=10) (v:= ?_) rfl (by kernel_rfl) (fun _ _ _ h=>h) (by intro w hSw;(try dsimp only at hSw);go_simp;try with_reducible rfl) hHeld ?_
 refine AJ (i:=11) rfl (by kernel_rfl) (fun _ _ _ h=>h) hHeld ?_
 refine AJ (i:=12) rfl (by kernel_rfl) (fun _ _ _ h=>h) hHeld ?_
 refine AJ (i:=13) rfl (by kernel_rfl) (fun _ _ _ h=>h) hHeld ?_
 refine AJ (i:=14) rfl (by kernel_rfl) (fun _ _ _ h=>h) hHeld ?_
 refine AJ (i:=15) rfl (by kernel_rfl) (fun _ _ _ h=>h) hHeld ?_
 refine AJ (i:=16) rfl (by kernel_rfl) (fun _ _ _ h=>h) hHeld ?_
 refine AJ (i:=17) rfl (by kernel_rfl) (fun _ _ _ h=>h) hHeld ?_
 refine AB (i:=18) (v:= ?_) rfl (by kernel_rfl) (fun _ _ _ h=>h) (by intro w hSw;(try dsimp only at hSw);go_simp;try with_reducible rfl) hHeld ?_
 refine AB (i:=19) (v:= ?_) rfl (by kernel_rfl) (fun _ _ _ h=>h) (by intro w hSw;(try dsimp only at hSw);go_simp;try with_reducible rfl) hHeld ?_
 refine wpAnyH_ready (rs:= [20]) (by kernel_rfl) (by simp) ?_
 refine AllReadyH.cons rfl (fun K hK=> ?_) AllReadyH.nil
 go_simp
 refine(AO _).mono ?_
 rintro e w3 ⟨rfl,rfl⟩
 refine hK.out _ _ ⟨x0,y8⟩ (fun Ag=> ?_)
 clear hK K
 refine wpAnyH_done (by kernel_rfl) ?_ _
 clear hHeld Ag
 go_wp2_with fail
 refine(AO _).mono ?_
 rintro e w3 ⟨rfl,rfl⟩
 go_wp2_with fail
 refine(AO _).mono ?_
 rintro e w3 ⟨rfl,rfl⟩
 go_upto_region 10 with fail
 have SK:OL B b (w2.setCell ⟨b,8,none⟩ (.int .i64 (6:Nat))).drew _ v1 v2 v3 v6 v7 v8 r.m 6 ln:=((HR.out.below HB2.out).stage 6).below ((Below.refl _ _).drew)
 have hx5:AL (w2.setCell ⟨b,8,none⟩ (.int .i64 (6:Nat))).drew h6 148 [.int .i64 6,.func (.func 93) #[] #[]]:=(OU.out.far (p:=⟨b,8,none⟩) (by show h6≠b;omega) _).drewN 1
 have U6:Keep (fun k=>k<B∧k≠b) w (w2.setCell ⟨b,8,none⟩ (.int .i64 (6:Nat))).drew:=(((Keep.Aq HB2.out).Dt (fun k hk _=>hk)).setCell (p:=⟨b,8,none⟩) (fun e=>e.2 rfl) _).drew
 have U7:ED (w2.setCell ⟨b,8,none⟩ (.int .i64 (6:Nat))).drew A (M7::t):=(HW2.out.keep (K:=fun k=>k≠b) (((Keep.refl _ w2).setCell (p:=⟨b,8,none⟩) (fun e=>e rfl) _).drew) (by omega))
 have U8:Dv hi (w2.setCell ⟨b,8,none⟩ (.int .i64 (6:Nat))).drew:=HI.out.env.to (((HB2.out.mono (show hi≤w.heap.size by omega)).setCell (p:=⟨b,8,none⟩) hhi _).drew)
 generalize World.drew (w2.setCell _ _)=w5 at*
 have x1:=hx5.q 1 rfl
 have Pw:=AA SK;have Qf:=AA U6;have bF:=AA U7;have bG:=AA U8
 clear SK U6 U7 U8 hx5 x0 y8 z8 OU HW2
 go_wp2_with fail
 rw [OV.out]
 refine(ZA ⟨Pw.out,bF.out,bG.out,hhi,HI.out.lens,by omega⟩ (List.cons_ne_nil _ _)).mono ?_
 rintro e w6 hm
 have hpost:Ei B b w ln (Ar r (M7::t)) e w6:=by
  rcases hm with⟨h1,h2,h3⟩ | ⟨m',h1,h2,h3,h4⟩
  ·refine⟨Qf.out.trans ((Keep.Aq h3).Dt (fun k hk _=>hk)),.inl ⟨?_,h2,(h3.cell (p:=⟨b,9,none⟩) Pw.out.blk.lt).trans (Pw.out.blk.cell 9)⟩⟩
   rw [Qz.out];rw [List.tail_cons] at h1;rw [h1];rfl
  ·refine⟨Qf.out.trans h3,.inr ⟨⟨m',6⟩,?_,h2,?_⟩⟩
   ·rw [Qz.out];rw [List.tail_cons] at h1;rw [h1];rfl
   ·exact .inr ⟨rfl,h4⟩
 have HP:=AA hpost
 rcases hm with⟨_,rfl,_⟩ | ⟨m',_,rfl,_,_⟩
 ·go_wp2_with fail
  exact⟨rfl,HP.out⟩
 ·go_wp2_with fail
  go_end0
  exact HP.out
theorem jC (h:kU B b hi M w r ln s) {t:List ByteArray} (hwd:DN s=M8::t):
 Calls prog 59 #[.pointer (some ⟨b,0,none⟩),.string s,.map (some M)] w (Ei B b w ln (Ar r (DN s))):=by
 have hcall:=Ez s (by have:=h.sz;omega) w
 obtain⟨hws,hpos⟩:=Ey s
 have hsz:=h.sz
 rw [hwd] at hcall hws⊢
 have hlv:Ar r (M8::t)=if Az 7 r.st=true then(Av 7 r.m t).map (fun m'=>(⟨m',7⟩:Ka)) else none:=by
  have hk:Dx M8=7:=by kernel_rfl
  unfold Ar
  simp only [hk]
  rw [if_neg (by decide)]
 have TM:=AA hlv
 have HI:=AA h
 have hz0:((((M8::t).length:Nat):Int)==0)=false:=by rw [beq_eq_false_iff_ne,List.length_cons];omega
 obtain⟨n,hn⟩: ∃n,n=(M8::t).length:=⟨_,rfl⟩
 rw [←hn] at hz0
 have hn0:0<n:=by rw [hn,List.length_cons];omega
 have OV:=AA hn
 have EF:=AA hcall
 have ZL:=h.mlt
 have hhi:=h.hhi
 have QW:=AA h.map
 obtain⟨col,v1,v2,v3,v6,v7,v8,hr⟩:=h.rd.close
 have hlow:=hr.low
 have htop:=hr.top
 have HR:=AA hr
 clear hcall hlv h hr
 go_enter func59,ntmps59
 go_wp2_with fail
 refine EF.out.mono ?_
 clear EF
 rintro e w1 ⟨A,rfl,hA,ho,hb1⟩
 have hw1:=JI ho hA (List.cons_ne_nil _ _) (by omega)
 have q0:w1.cell? ⟨A,0,none⟩=some (.string ⟨#[100,97,116,97]⟩):=hw1.at_ 0 _ rfl
 have hlt1:=hw1.lt
 have hbl:=HR.out.blk.lt
 have hsz1:=hb1.size
 have g8:w1.cell? ⟨b,8,none⟩=some (.int .i64 r.st):=(hb1.cell (p:=⟨b,8,none⟩) hbl).trans (HR.out.blk.cell 8)
 have Fv:w1.heap[M]?=some (.map Gf 8):=(hb1.block M ZL).trans QW.out
 have KS:=KR (P:=prog) (W:=w1) (s:=⟨#[100,97,116,97]⟩) underlying108 underlying9 Fv (i:=6) (v:= .agg #[.int .i64 7,.func (.func 94) #[] #[]]) (by kernel_rfl)
 have HW1:=AA hw1;have HB1:=AA hb1
 rw [←OV.out]
 have Om:(((⟨#[100,97,116,97]⟩:ByteArray)[0].toNat:Int)==59)=false:=by decide
 clear hn ho hb1 hw1 Fv hws hpos hwd
 go_wp2_with fail
 generalize hw2:World.alloc _ _=w2
 have GY:Below w1.heap.size w1 w2:=by rw [←hw2];exact(Below.refl _ _).alloc (Nat.le_refl _) _
 have hx2:AL w2 w1.heap.size 148 [.int .i64 7,.func (.func 94) #[] #[]]:=by rw [←hw2];exact AL.new w1 _ [.int .i64 7,.func (.func 94) #[] #[]]
 obtain⟨h6,Qy⟩: ∃h6,h6=w1.heap.size:=⟨_,rfl⟩
 rw [←Qy] at hx2⊢
 have YP:w.heap.size≤h6:=by omega
 have HB2:=AA (HB1.out.trans (GY.mono hsz1))
 have HW2:=AA (HW1.out.below GY)
 have x0:=hx2.q 0 rfl
 have x1:=hx2.q 1 rfl
 have y8:w2.cell? ⟨b,8,none⟩=some (.int .i64 r.st):=(HB2.out.cell (p:=⟨b,8,none⟩) hbl).trans (HR.out.blk.cell 8)
 have z8:=(HR.out.blk.below HB2.out hbl).frozen 8
 have OU:=AA hx2
 clear hw2 GY hx2 Qy g8 q0 KS HW1 HB1
 have hbad:Az 7 r.st=false→Hid (Ar r (M8::t)=none∧Keep (fun k=>k<B∧k≠b) w w2.drew∧w2.drew.cell? ⟨b,9,none⟩=some (.int .i64 ln)):=fun hf=>
  AA ⟨by rw [TM.out,hf];rfl,((Keep.Aq HB2.out).Dt (fun k hk _=>hk)).drew,(HB2.out.cell (p:=⟨b,9,none⟩) hbl).trans (HR.out.blk.cell 9)⟩
 have hN0:((⟨#[100,97,116,97]⟩:ByteArray)[0].toNat:Int)=100:=by decide
 rw [hN0]
 clear Om hN0
 by_cases hc:7<r.st
 case pos=>
  have HBAD:=hbad (by cases hb:Az 7 r.st with | false=>rfl | true=>exfalso;unfold Az at hb;simp at hb;omega)
  have d0:decide ((r.st:Int)≤7)=false:=decide_eq_false (by omega)
  clear hbad
  refine wp_region_held_drew (S:=fun W=>W.cell? ⟨h6,0,none⟩=some (.int .i64 7)∧W.cell? ⟨b,8,none⟩=some (.int .i64 r.st)) (by kernel_rfl) ⟨x0,y8⟩ (fun hHeld=> ?_)
  refine AB (i:=0) (v:= ?_) rfl (by kernel_rfl) (fun _ _ _ h=>h) (by intro w hSw;(try dsimp only at hSw);go_simp;try with_reducible rfl) hHeld ?_
  refine AB (i:=1) (v:= ?_) rfl (by kernel_rfl) (fun _ _ _ h=>h) (by intro w hSw;(try dsimp only at hSw);go_simp;try with_reducible rfl) hHeld ?_
  refine AB (i:=2) (v:= ?_) rfl (by kernel_rfl) (fun _ _ _ h=>h) (by intro w hSw;(try dsimp only at hSw);go_simp;try with_reducible rfl) hHeld ?_
  refine AB (i:=3) (v:= ?_) rfl (by kernel_rfl) (fun _ _ _ h=>h) (by intro w hSw;(try dsimp only at hSw);go_simp;try with_reducible rfl) hHeld ?_
  refine AB (i:=4) (v:= ?_) rfl (by kernel_rfl) (fun _ _ _ h=>h) (by intro w hSw;(try dsimp only at hSw);go_simp;try with_reducible rfl) hHeld ?_
  refine AB (i:=5) (v:= ?_) rfl (by kernel_rfl) (fun _ _ _ h=>h) (by intro w hSw;(try dsimp only at hSw);go_simp;try with_reducible rfl) hHeld ?_
  refine AB (i:=6) (v:= ?_) rfl (by kernel_rfl) (fun _ _ _ h=>h) (by intro w hSw;(try dsimp only at hSw);go_simp;try with_reducible rfl) hHeld ?_
  refine AB (i:=7) (v:= ?_) rfl (by kernel_rfl) (fun _ _ _ h=>h) (by intro w hSw;(try dsimp only at hSw);go_simp;try with_reducible rfl) hHeld ?_
  refine AJ (i:=8) rfl (by kernel_rfl) (fun _ _ _ h=>h) hHeld ?_
  refine AJ (i:=9) rfl (by kernel_rfl) (fun _ _ _ h=>h) hHeld ?_
  refine AJ (i:=10) rfl (by kernel_rfl) (fun _ _ _ h=>h) hHeld ?_
  refine AJ (i:=11) rfl (by kernel_rfl) (fun _ _ _ h=>h) hHeld ?_
  refine AJ (i:=12) rfl (by kernel_rfl) (fun _ _ _ h=>h) hHeld ?_
  refine AJ (i:=13) rfl (by kernel_rfl) (fun _ _ _ h=>h) hHeld ?_
  refine AJ (i:=14) rfl (by kernel_rfl) (fun _ _ _ h=>h) hHeld ?_
  refine AJ (i:=15) rfl (by kernel_rfl) (fun _ _ _ h=>h) hHeld ?_
  refine AJ (i:=16) rfl (by kernel_rfl) (fun _ _ _ h=>h) hHeld ?_
  refine AJ (i:=17) rfl (by kernel_rfl) (fun _ _ _ h=>h) hHeld ?_
  refine AJ (i:=18) rfl (by kernel_rfl) (fun _ _ _ h=>h) hHeld ?_
  refine AB (i:=19) (v:= ?_) rfl (by kernel_rfl) (fun _ _ _ h=>h) (by intro w hSw;(try dsimp only at hSw);go_simp;try with_reducible rfl) hHeld ?_
  refine wpAnyH_ready (rs:= [20]) (by kernel_rfl) (by simp) ?_
  refine AllReadyH.cons rfl (fun K hK=> ?_) AllReadyH.nil
  go_simp
  refine(AY _).mono ?_
  rintro e w3 ⟨rfl,rfl⟩
  go_wp2_with fail
  exact⟨rfl,HBAD.out.2.1,.inl ⟨HBAD.out.1,rfl,HBAD.out.2.2⟩⟩
 by_cases hc:r.st=0
 case pos=>
  have HBAD:=hbad (by cases hb:Az 7 r.st with | false=>rfl | true=>exfalso;unfold Az at hb;simp at hb;omega)
  have d0:decide ((r.st:Int)≤7)=true:=decide_eq_true (by omega)
  have d1:((r.st:Int) !=0)=false:=by rw [bne_eq_false_iff_eq];omega
  clear hbad
  refine wp_region_held_drew (S:=fun W=>W.cell? ⟨h6,0,none⟩=some (.int .i64 7)∧W.cell? ⟨b,8,none⟩=some (.int .i64 r.st)) (by kernel_rfl) ⟨x0,y8⟩ (fun hHeld=> ?_)
  refine AB (i:=0) (v:= ?_) rfl (by kernel_rfl) (fun _ _ _ h=>h) (by intro w hSw;(try dsimp only at hSw);go_simp;try with_reducible rfl) hHeld ?_
  refine AB (i:=1) (v:= ?_) rfl (by kernel_rfl) (fun _ _ _ h=>h) (by intro w hSw;(try dsimp only at hSw);go_simp;try with_reducible rfl) hHeld ?_
  refine AB (i:=2) (v:= ?_) rfl (by kernel_rfl) (fun _ _ _ h=>h) (by intro w hSw;(try dsimp only at hSw);go_simp;try with_reducible rfl) hHeld ?_
  refine AB (i:=3) (v:= ?_) rfl (by kernel_rfl) (fun _ _ _ h=>h) (by intro w hSw;(try dsimp only at hSw);go_simp;try with_reducible rfl) hHeld ?_
  refine AB (i:=4) (v:= ?_) rfl (by kernel_rfl) (fun _ _ _ h=>h) (by intro w hSw;(try dsimp only at hSw);go_simp;try with_reducible rfl) hHeld ?_
  refine AB (i:=5) (v:= ?_) rfl (by kernel_rfl) (fun _ _ _ h=>h) (by intro w hSw;(try dsimp only at hSw);go_simp;try with_reducible rfl) hHeld ?_
  refine AB (i:=6) (v:= ?_) rfl (by kernel_rfl) (fun _ _ _ h=>h) (by intro w hSw;(try dsimp only at hSw);go_simp;try with_reducible rfl) hHeld ?_
  refine AB (i:=7) (v:= ?_) rfl (by kernel_rfl) (fun _ _ _ h=>h) (by intro w hSw;(try dsimp only at hSw);go_simp;try with_reducible rfl) hHeld ?_
  refine AB (i:=8) (v:= ?_) rfl (by kernel_rfl) (fun _ _ _ h=>h) (by intro w hSw;(try dsimp only at hSw);go_simp;try with_reducible rfl) hHeld ?_
  refine AB (i:=9) (v:= ?_) rfl (by kernel_rfl) (fun _ _ _ h=>h) (by intro w hSw;(try dsimp only at hSw);go_simp;try with_reducible rfl) hHeld ?_
  refine AB (i:=10) (v:= ?_) rfl (by kernel_rfl) (fun _ _ _ h=>h) (by intro w hSw;(try dsimp only at hSw);go_simp;try with_reducible rfl) hHeld ?_
  refine AJ (i:=11) rfl (by kernel_rfl) (fun _ _ _ h=>h) hHeld ?_
  refine AJ (i:=12) rfl (by kernel_rfl) (fun _ _ _ h=>h) hHeld ?_
  refine AJ (i:=13) rfl (by kernel_rfl) (fun _ _ _ h=>h) hHeld ?_
  refine AJ (i:=14) rfl (by kernel_rfl) (fun _ _ _ h=>h) hHeld ?_
  refine AJ (i:=15) rfl (by kernel_rfl) (fun _ _ _ h=>h) hHeld ?_
  refine AJ (i:=16) rfl (by kernel_rfl) (fun _ _ _ h=>h) hHeld ?_
  refine AJ (i:=17) rfl (by kernel_rfl) (fun _ _ _ h=>h) hHeld ?_
  refine AB (i:=18) (v:= ?_) rfl (by kernel_rfl) (fun _ _ _ h=>h) (by intro w hSw;(try dsimp only at hSw);go_simp;try with_reducible rfl) hHeld ?_
  refine AB (i:=19) (v:= ?_) rfl (by kernel_rfl) (fun _ _ _ h=>h) (by intro w hSw;(try dsimp only at hSw);go_simp;try with_reducible rfl) hHeld ?_
  refine wpAnyH_ready (rs:= [20]) (by kernel_rfl) (by simp) ?_
  refine AllReadyH.cons rfl (fun K hK=> ?_) AllReadyH.nil
  go_simp
  refine(AO _).mono ?_
  rintro e w3 ⟨rfl,rfl⟩
  refine hK.out _ _ ⟨x0,y8⟩ (fun Ag=> ?_)
  clear hK K
  refine wpAnyH_done (by kernel_rfl) ?_ _
  clear hHeld Ag
  go_wp2_with fail
  refine(AY _).mono ?_
  rintro e w3 ⟨rfl,rfl⟩
  go_wp2_with fail
  exact⟨rfl,HBAD.out.2.1,.inl ⟨HBAD.out.1,rfl,HBAD.out.2.2⟩⟩
 by_cases hc:r.st<5
 case pos=>
  have HBAD:=hbad (by cases hb:Az 7 r.st with | false=>rfl | true=>exfalso;unfold Az at hb;simp at hb;omega)
  have d0:decide ((r.st:Int)≤7)=true:=decide_eq_true (by omega)
  have d1:((r.st:Int) !=0)=true:=by rw [bne_iff_ne];omega
  have d2:decide (5≤(r.st:Int))=false:=decide_eq_false (by omega)
  clear hbad
  refine wp_region_held_drew (S:=fun W=>W.cell? ⟨h6,0,none⟩=some (.int .i64 7)∧W.cell? ⟨b,8,none⟩=some (.int .i64 r.st)) (by kernel_rfl) ⟨x0,y8⟩ (fun hHeld=> ?_)
  refine AB (i:=0) (v:= ?_) rfl (by kernel_rfl) (fun _ _ _ h=>h) (by intro w hSw;(try dsimp only at hSw);go_simp;try with_reducible rfl) hHeld ?_
  refine AB (i:=1) (v:= ?_) rfl (by kernel_rfl) (fun _ _ _ h=>h) (by intro w hSw;(try dsimp only at hSw);go_simp;try with_reducible rfl) hHeld ?_
  refine AB (i:=2) (v:= ?_) rfl (by kernel_rfl) (fun _ _ _ h=>h) (by intro w hSw;(try dsimp only at hSw);go_simp;try with_reducible rfl) hHeld ?_
  refine AB (i:=3) (v:= ?_) rfl (by kernel_rfl) (fun _ _ _ h=>h) (by intro w hSw;(try dsimp only at hSw);go_simp;try with_reducible rfl) hHeld ?_
  refine AB (i:=4) (v:= ?_) rfl (by kernel_rfl) (fun _ _ _ h=>h) (by intro w hSw;(try dsimp only at hSw);go_simp;try with_reducible rfl) hHeld ?_
  refine AB (i:=5) (v:= ?_) rfl (by kernel_rfl) (fun _ _ _ h=>h) (by intro w hSw;(try dsimp only at hSw);go_simp;try with_reducible rfl) hHeld ?_
  refine AB (i:=6) (v:= ?_) rfl (by kernel_rfl) (fun _ _ _ h=>h) (by intro w hSw;(try dsimp only at hSw);go_simp;try with_reducible rfl) hHeld ?_
  refine AB (i:=7) (v:= ?_) rfl (by kernel_rfl) (fun _ _ _ h=>h) (by intro w hSw;(try dsimp only at hSw);go_simp;try with_reducible rfl) hHeld ?_
  refine AB (i:=8) (v:= ?_) rfl (by kernel_rfl) (fun _ _ _ h=>h) (by intro w hSw;(try dsimp only at hSw);go_simp;try with_reducible rfl) hHeld ?_
  refine AB (i:=9) (v:= ?_) rfl (by kernel_rfl) (fun _ _ _ h=>h) (by intro w hSw;(try dsimp only at hSw);go_simp;try with_reducible rfl) hHeld ?_
  refine AB (i:=10) (v:= ?_) rfl (by kernel_rfl) (fun _ _ _ h=>h) (by intro w hSw;(try dsimp only at hSw);go_simp;try with_reducible rfl) hHeld ?_
  refine AJ (i:=11) rfl (by kernel_rfl) (fun _ _ _ h=>h) hHeld ?_
  refine AJ (i:=12) rfl (by kernel_rfl) (fun _ _ _ h=>h) hHeld ?_
  refine AJ (i:=13) rfl (by kernel_rfl) (fun _ _ _ h=>h) hHeld ?_
  refine AJ (i:=14) rfl (by kernel_rfl) (fun _ _ _ h=>h) hHeld ?_
  refine AJ (i:=15) rfl (by kernel_rfl) (fun _ _ _ h=>h) hHeld ?_
  refine AJ (i:=16) rfl (by kernel_rfl) (fun _ _ _ h=>h) hHeld ?_
  refine AJ (i:=17) rfl (by kernel_rfl) (fun _ _ _ h=>h) hHeld ?_
  refine AB (i:=18) (v:= ?_) rfl (by kernel_rfl) (fun _ _ _ h=>h) (by intro w hSw;(try dsimp only at hSw);go_simp;try with_reducible rfl) hHeld ?_
  refine AB (i:=19) (v:= ?_) rfl (by kernel_rfl) (fun _ _ _ h=>h) (by intro w hSw;(try dsimp only at hSw);go_simp;try with_reducible rfl) hHeld ?_
  refine wpAnyH_ready (rs:= [20]) (by kernel_rfl) (by simp) ?_
  refine AllReadyH.cons rfl (fun K hK=> ?_) AllReadyH.nil
  go_simp
  refine(AO _).mono ?_
  rintro e w3 ⟨rfl,rfl⟩
  refine hK.out _ _ ⟨x0,y8⟩ (fun Ag=> ?_)
  clear hK K
  refine wpAnyH_done (by kernel_rfl) ?_ _
  clear hHeld Ag
  go_wp2_with fail
  refine(AO _).mono ?_
  rintro e w3 ⟨rfl,rfl⟩
  go_wp2_with fail
  refine(AY _).mono ?_
  rintro e w3 ⟨rfl,rfl⟩
  go_wp2_with fail
  exact⟨rfl,HBAD.out.2.1,.inl ⟨HBAD.out.1,rfl,HBAD.out.2.2⟩⟩
 have d0:decide ((r.st:Int)≤7)=true:=decide_eq_true (by omega)
 have d1:((r.st:Int) !=0)=true:=by rw [bne_iff_ne];omega
 have d2:decide (5≤(r.st:Int))=true:=decide_eq_true (by omega)
 have Qz:Hid (Ar r (M8::t)=(Av 7 r.m t).map (fun m'=>(⟨m',7⟩:Ka))):=AA (by
  have ho:Az 7 r.st=true:=by
   cases hb:Az 7 r.st with
   | true=>rfl
   | false=>exfalso;unfold Az at hb;simp at hb;omega
  rw [TM.out,ho];rfl)
 clear hbad
 refine wp_region_held_drew (S:=fun W=>W.cell? ⟨h6,0,none⟩=some (.int .i64 7)∧W.cell? ⟨b,8,none⟩=some (.int .i64 r.st)) (by kernel_rfl) ⟨x0,y8⟩ (fun hHeld=> ?_)
 refine AB (i:=0) (v:= ?_) rfl (by kernel_rfl) (fun _ _ _ h=>h) (by intro w hSw;(try dsimp only at hSw);go_simp;try with_reducible rfl) hHeld ?_
 refine AB (i:=1) (v:= ?_) rfl (by kernel_rfl) (fun _ _ _ h=>h) (by intro w hSw;(try dsimp only at hSw);go_simp;try with_reducible rfl) hHeld ?_
 refine AB (i:=2) (v:= ?_) rfl (by kernel_rfl) (fun _ _ _ h=>h) (by intro w hSw;(try dsimp only at hSw);go_simp;try with_reducible rfl) hHeld ?_
 refine AB (i:=3) (v:= ?_) rfl (by kernel_rfl) (fun _ _ _ h=>h) (by intro w hSw;(try dsimp only at hSw);go_simp;try with_reducible rfl) hHeld ?_
 refine AB (i:=4) (v:= ?_) rfl (by kernel_rfl) (fun _ _ _ h=>h) (by intro w hSw;(try dsimp only at hSw);go_simp;try with_reducible rfl) hHeld ?_
 refine AB (i:=5) (v:= ?_) rfl (by kernel_rfl) (fun _ _ _ h=>h) (by intro w hSw;(try dsimp only at hSw);go_simp;try with_reducible rfl) hHeld ?_
 refine AB (i:=6) (v:= ?_) rfl (by kernel_rfl) (fun _ _ _ h=>h) (by intro w hSw;(try dsimp only at hSw);go_simp;try with_reducible rfl) hHeld ?_
 refine AB (i:=7) (v:= ?_) rfl (by kernel_rfl) (fun _ _ _ h=>h) (by intro w hSw;(try dsimp only at hSw);go_simp;try with_reducible rfl) hHeld ?_
 refine AB (i:=8) (v:= ?_) rfl (by kernel_rfl) (fun _ _ _ h=>h) (by intro w hSw;(try dsimp only at hSw);go_simp;try with_reducible rfl) hHeld ?_
 refine AB (i:=9) (v:= ?_) rfl (by kernel_rfl) (fun _ _ _ h=>h) (by intro w hSw;(try dsimp only at hSw);go_simp;try with_reducible rfl) hHeld ?_
 refine AB (i:=10) (v:= ?_) rfl (by kernel_rfl) (fun _ _ _ h=>h) (by intro w hSw;(try dsimp only at hSw);go_simp;try with_reducible rfl) hHeld ?_
 refine AJ (i:=11) rfl (by kernel_rfl) (fun _ _ _ h=>h) hHeld ?_
 refine AJ (i:=12) rfl (by kernel_rfl) (fun _ _ _ h=>h) hHeld ?_
 refine AJ (i:=13) rfl (by kernel_rfl) (fun _ _ _ h=>h) hHeld ?_
 refine AJ (i:=14) rfl (by kernel_rfl) (fun _ _ _ h=>h) hHeld ?_
 refine AJ (i:=15) rfl (by kernel_rfl) (fun _ _ _ h=>h) hHeld ?_
 refine AJ (i:=16) rfl (by kernel_rfl) (fun _ _ _ h=>h) hHeld ?_
 refine AJ (i:=17) rfl (by kernel_rfl) (fun _ _ _ h=>h) hHeld ?_
 refine AB (i:=18) (v:= ?_) rfl (by kernel_rfl) (fun _ _ _ h=>h) (by intro w hSw;(try dsimp only at hSw);go_simp;try with_reducible rfl) hHeld ?_
 refine AB (i:=19) (v:= ?_) rfl (by kernel_rfl) (fun _ _ _ h=>h) (by intro w hSw;(try dsimp only at hSw);go_simp;try with_reducible rfl) hHeld ?_
 refine wpAnyH_ready (rs:= [20]) (by kernel_rfl) (by simp) ?_
 refine AllReadyH.cons rfl (fun K hK=> ?_) AllReadyH.nil
 go_simp
 refine(AO _).mono ?_
 rintro e w3 ⟨rfl,rfl⟩
 refine hK.out _ _ ⟨x0,y8⟩ (fun Ag=> ?_)
 clear hK K
 refine wpAnyH_done (by kernel_rfl) ?_ _
 clear hHeld Ag
 go_wp2_with fail
 refine(AO _).mono ?_
 rintro e w3 ⟨rfl,rfl⟩
 go_wp2_with fail
 refine(AO _).mono ?_
 rintro e w3 ⟨rfl,rfl⟩
 go_upto_region 10 with fail
 have SK:OL B b (w2.setCell ⟨b,8,none⟩ (.int .i64 (7:Nat))).drew _ v1 v2 v3 v6 v7 v8 r.m 7 ln:=((HR.out.below HB2.out).stage 7).below ((Below.refl _ _).drew)
 have hx5:AL (w2.setCell ⟨b,8,none⟩ (.int .i64 (7:Nat))).drew h6 148 [.int .i64 7,.func (.func 94) #[] #[]]:=(OU.out.far (p:=⟨b,8,none⟩) (by show h6≠b;omega) _).drewN 1
 have U6:Keep (fun k=>k<B∧k≠b) w (w2.setCell ⟨b,8,none⟩ (.int .i64 (7:Nat))).drew:=(((Keep.Aq HB2.out).Dt (fun k hk _=>hk)).setCell (p:=⟨b,8,none⟩) (fun e=>e.2 rfl) _).drew
 have U7:ED (w2.setCell ⟨b,8,none⟩ (.int .i64 (7:Nat))).drew A (M8::t):=(HW2.out.keep (K:=fun k=>k≠b) (((Keep.refl _ w2).setCell (p:=⟨b,8,none⟩) (fun e=>e rfl) _).drew) (by omega))
 have U8:Dv hi (w2.setCell ⟨b,8,none⟩ (.int .i64 (7:Nat))).drew:=HI.out.env.to (((HB2.out.mono (show hi≤w.heap.size by omega)).setCell (p:=⟨b,8,none⟩) hhi _).drew)
 generalize World.drew (w2.setCell _ _)=w5 at*
 have x1:=hx5.q 1 rfl
 have Pw:=AA SK;have Qf:=AA U6;have bF:=AA U7;have bG:=AA U8
 clear SK U6 U7 U8 hx5 x0 y8 z8 OU HW2
 go_wp2_with fail
 rw [OV.out]
 refine(sQ ⟨Pw.out,bF.out,bG.out,hhi,HI.out.lens,by omega⟩ (List.cons_ne_nil _ _)).mono ?_
 rintro e w6 hm
 have hpost:Ei B b w ln (Ar r (M8::t)) e w6:=by
  rcases hm with⟨h1,h2,h3⟩ | ⟨m',h1,h2,h3,h4⟩
  ·refine⟨Qf.out.trans ((Keep.Aq h3).Dt (fun k hk _=>hk)),.inl ⟨?_,h2,(h3.cell (p:=⟨b,9,none⟩) Pw.out.blk.lt).trans (Pw.out.blk.cell 9)⟩⟩
   rw [Qz.out];rw [List.tail_cons] at h1;rw [h1];rfl
  ·refine⟨Qf.out.trans h3,.inr ⟨⟨m',7⟩,?_,h2,?_⟩⟩
   ·rw [Qz.out];rw [List.tail_cons] at h1;rw [h1];rfl
   ·exact .inl ⟨(show(7:Nat)≠6 by decide),h4⟩
 have HP:=AA hpost
 rcases hm with⟨_,rfl,_⟩ | ⟨m',_,rfl,_,_⟩
 ·go_wp2_with fail
  exact⟨rfl,HP.out⟩
 ·go_wp2_with fail
  go_end0
  exact HP.out
theorem jD (h:kU B b hi M w r ln s) {t:List ByteArray} (hwd:DN s=I5::t):
 Calls prog 59 #[.pointer (some ⟨b,0,none⟩),.string s,.map (some M)] w (Ei B b w ln (Ar r (DN s))):=by
 have hcall:=Ez s (by have:=h.sz;omega) w
 obtain⟨hws,hpos⟩:=Ey s
 have hsz:=h.sz
 rw [hwd] at hcall hws⊢
 have hlv:Ar r (I5::t)=if Az 8 r.st=true then(Av 8 r.m t).map (fun m'=>(⟨m',8⟩:Ka)) else none:=by
  have hk:Dx I5=8:=by kernel_rfl
  unfold Ar
  simp only [hk]
  rw [if_neg (by decide)]
 have TM:=AA hlv
 have HI:=AA h
 have hz0:((((I5::t).length:Nat):Int)==0)=false:=by rw [beq_eq_false_iff_ne,List.length_cons];omega
 obtain⟨n,hn⟩: ∃n,n=(I5::t).length:=⟨_,rfl⟩
 rw [←hn] at hz0
 have hn0:0<n:=by rw [hn,List.length_cons];omega
 have OV:=AA hn
 have EF:=AA hcall
 have ZL:=h.mlt
 have hhi:=h.hhi
 have QW:=AA h.map
 obtain⟨col,v1,v2,v3,v6,v7,v8,hr⟩:=h.rd.close
 have hlow:=hr.low
 have htop:=hr.top
 have HR:=AA hr
 clear hcall hlv h hr
 go_enter func59,ntmps59
 go_wp2_with fail
 refine EF.out.mono ?_
 clear EF
 rintro e w1 ⟨A,rfl,hA,ho,hb1⟩
 have hw1:=JI ho hA (List.cons_ne_nil _ _) (by omega)
 have q0:w1.cell? ⟨A,0,none⟩=some (.string ⟨#[101,120,112,111,114,116]⟩):=hw1.at_ 0 _ rfl
 have hlt1:=hw1.lt
 have hbl:=HR.out.blk.lt
 have hsz1:=hb1.size
 have g8:w1.cell? ⟨b,8,none⟩=some (.int .i64 r.st):=(hb1.cell (p:=⟨b,8,none⟩) hbl).trans (HR.out.blk.cell 8)
 have Fv:w1.heap[M]?=some (.map Gf 8):=(hb1.block M ZL).trans QW.out
 have KS:=KR (P:=prog) (W:=w1) (s:=⟨#[101,120,112,111,114,116]⟩) underlying108 underlying9 Fv (i:=7) (v:= .agg #[.int .i64 8,.func (.func 95) #[] #[]]) (by kernel_rfl)
 have HW1:=AA hw1;have HB1:=AA hb1
 rw [←OV.out]
 have Om:(((⟨#[101,120,112,111,114,116]⟩:ByteArray)[0].toNat:Int)==59)=false:=by decide
 clear hn ho hb1 hw1 Fv hws hpos hwd
 go_wp2_with fail
 generalize hw2:World.alloc _ _=w2
 have GY:Below w1.heap.size w1 w2:=by rw [←hw2];exact(Below.refl _ _).alloc (Nat.le_refl _) _
 have hx2:AL w2 w1.heap.size 148 [.int .i64 8,.func (.func 95) #[] #[]]:=by rw [←hw2];exact AL.new w1 _ [.int .i64 8,.func (.func 95) #[] #[]]
 obtain⟨h6,Qy⟩: ∃h6,h6=w1.heap.size:=⟨_,rfl⟩
 rw [←Qy] at hx2⊢
 have YP:w.heap.size≤h6:=by omega
 have HB2:=AA (HB1.out.trans (GY.mono hsz1))
 have HW2:=AA (HW1.out.below GY)
 have x0:=hx2.q 0 rfl
 have x1:=hx2.q 1 rfl
 have y8:w2.cell? ⟨b,8,none⟩=some (.int .i64 r.st):=(HB2.out.cell (p:=⟨b,8,none⟩) hbl).trans (HR.out.blk.cell 8)
 have z8:=(HR.out.blk.below HB2.out hbl).frozen 8
 have OU:=AA hx2
 clear hw2 GY hx2 Qy g8 q0 KS HW1 HB1
 have hbad:Az 8 r.st=false→Hid (Ar r (I5::t)=none∧Keep (fun k=>k<B∧k≠b) w w2.drew∧w2.drew.cell? ⟨b,9,none⟩=some (.int .i64 ln)):=fun hf=>
  AA ⟨by rw [TM.out,hf];rfl,((Keep.Aq HB2.out).Dt (fun k hk _=>hk)).drew,(HB2.out.cell (p:=⟨b,9,none⟩) hbl).trans (HR.out.blk.cell 9)⟩
 have hN0:((⟨#[101,120,112,111,114,116]⟩:ByteArray)[0].toNat:Int)=101:=by decide
 rw [hN0]
 clear Om hN0
 by_cases hc:8<r.st
 case pos=>
  have HBAD:=hbad (by cases hb:Az 8 r.st with | false=>rfl | true=>exfalso;unfold Az at hb;simp at hb;omega)
  have d0:decide ((r.st:Int)≤8)=false:=decide_eq_false (by omega)
  clear hbad
  refine wp_region_held_drew (S:=fun W=>W.cell? ⟨h6,0,none⟩=some (.int .i64 8)∧W.cell? ⟨b,8,none⟩=some (.int .i64 r.st)) (by kernel_rfl) ⟨x0,y8⟩ (fun hHeld=> ?_)
  refine AB (i:=0) (v:= ?_) rfl (by kernel_rfl) (fun _ _ _ h=>h) (by intro w hSw;(try dsimp only at hSw);go_simp;try with_reducible rfl) hHeld ?_
  refine AB (i:=1) (v:= ?_) rfl (by kernel_rfl) (fun _ _ _ h=>h) (by intro w hSw;(try dsimp only at hSw);go_simp;try with_reducible rfl) hHeld ?_
  refine AB (i:=2) (v:= ?_) rfl (by kernel_rfl) (fun _ _ _ h=>h) (by intro w hSw;(try dsimp only at hSw);go_simp;try with_reducible rfl) hHeld ?_
  refine AB (i:=3) (v:= ?_) rfl (by kernel_rfl) (fun _ _ _ h=>h) (by intro w hSw;(try dsimp only at hSw);go_simp;try with_reducible rfl) hHeld ?_
  refine AB (i:=4) (v:= ?_) rfl (by kernel_rfl) (fun _ _ _ h=>h) (by intro w hSw;(try dsimp only at hSw);go_simp;try with_reducible rfl) hHeld ?_
  refine AB (i:=5) (v:= ?_) rfl (by kernel_rfl) (fun _ _ _ h=>h) (by intro w hSw;(try dsimp only at hSw);go_simp;try with_reducible rfl) hHeld ?_
  refine AB (i:=6) (v:= ?_) rfl (by kernel_rfl) (fun _ _ _ h=>h) (by intro w hSw;(try dsimp only at hSw);go_simp;try with_reducible rfl) hHeld ?_
  refine AB (i:=7) (v:= ?_) rfl (by kernel_rfl) (fun _ _ _ h=>h) (by intro w hSw;(try dsimp only at hSw);go_simp;try with_reducible rfl) hHeld ?_
  refine AJ (i:=8) rfl (by kernel_rfl) (fun _ _ _ h=>h) hHeld ?_
  refine AJ (i:=9) rfl (by kernel_rfl) (fun _ _ _ h=>h) hHeld ?_
  refine AJ (i:=10) rfl (by kernel_rfl) (fun _ _ _ h=>h) hHeld ?_
  refine AJ (i:=11) rfl (by kernel_rfl) (fun _ _ _ h=>h) hHeld ?_
  refine AJ (i:=12) rfl (by kernel_rfl) (fun _ _ _ h=>h) hHeld ?_
  refine AJ (i:=13) rfl (by kernel_rfl) (fun _ _ _ h=>h) hHeld ?_
  refine AJ (i:=14) rfl (by kernel_rfl) (fun _ _ _ h=>h) hHeld ?_
  refine AJ (i:=15) rfl (by kernel_rfl) (fun _ _ _ h=>h) hHeld ?_
  refine AJ (i:=16) rfl (by kernel_rfl) (fun _ _ _ h=>h) hHeld ?_
  refine AJ (i:=17) rfl (by kernel_rfl) (fun _ _ _ h=>h) hHeld ?_
  refine AJ (i:=18) rfl (by kernel_rfl) (fun _ _ _ h=>h) hHeld ?_
  refine AB (i:=19) (v:= ?_) rfl (by kernel_rfl) (fun _ _ _ h=>h) (by intro w hSw;(try dsimp only at hSw);go_simp;try with_reducible rfl) hHeld ?_
  refine wpAnyH_ready (rs:= [20]) (by kernel_rfl) (by simp) ?_
  refine AllReadyH.cons rfl (fun K hK=> ?_) AllReadyH.nil
  go_simp
  refine(AY _).mono ?_
  rintro e w3 ⟨rfl,rfl⟩
  go_wp2_with fail
  exact⟨rfl,HBAD.out.2.1,.inl ⟨HBAD.out.1,rfl,HBAD.out.2.2⟩⟩
 by_cases hc:r.st=0
 case pos=>
  have HBAD:=hbad (by cases hb:Az 8 r.st with | false=>rfl | true=>exfalso;unfold Az at hb;simp at hb;omega)
  have d0:decide ((r.st:Int)≤8)=true:=decide_eq_true (by omega)
  have d1:((r.st:Int) !=0)=false:=by rw [bne_eq_false_iff_eq];omega
  clear hbad
  refine wp_region_held_drew (S:=fun W=>W.cell? ⟨h6,0,none⟩=some (.int .i64 8)∧W.cell? ⟨b,8,none⟩=some (.int .i64 r.st)) (by kernel_rfl) ⟨x0,y8⟩ (fun hHeld=> ?_)
  refine AB (i:=0) (v:= ?_) rfl (by kernel_rfl) (fun _ _ _ h=>h) (by intro w hSw;(try dsimp only at hSw);go_simp;try with_reducible rfl) hHeld ?_
  refine AB (i:=1) (v:= ?_) rfl (by kernel_rfl) (fun _ _ _ h=>h) (by intro w hSw;(try dsimp only at hSw);go_simp;try with_reducible rfl) hHeld ?_
  refine AB (i:=2) (v:= ?_) rfl (by kernel_rfl) (fun _ _ _ h=>h) (by intro w hSw;(try dsimp only at hSw);go_simp;try with_reducible rfl) hHeld ?_
  refine AB (i:=3) (v:= ?_) rfl (by kernel_rfl) (fun _ _ _ h=>h) (by intro w hSw;(try dsimp only at hSw);go_simp;try with_reducible rfl) hHeld ?_
  refine AB (i:=4) (v:= ?_) rfl (by kernel_rfl) (fun _ _ _ h=>h) (by intro w hSw;(try dsimp only at hSw);go_simp;try with_reducible rfl) hHeld ?_
  refine AB (i:=5) (v:= ?_) rfl (by kernel_rfl) (fun _ _ _ h=>h) (by intro w hSw;(try dsimp only at hSw);go_simp;try with_reducible rfl) hHeld ?_
  refine AB (i:=6) (v:= ?_) rfl (by kernel_rfl) (fun _ _ _ h=>h) (by intro w hSw;(try dsimp only at hSw);go_simp;try with_reducible rfl) hHeld ?_
  refine AB (i:=7) (v:= ?_) rfl (by kernel_rfl) (fun _ _ _ h=>h) (by intro w hSw;(try dsimp only at hSw);go_simp;try with_reducible rfl) hHeld ?_
  refine AB (i:=8) (v:= ?_) rfl (by kernel_rfl) (fun _ _ _ h=>h) (by intro w hSw;(try dsimp only at hSw);go_simp;try with_reducible rfl) hHeld ?_
  refine AB (i:=9) (v:= ?_) rfl (by kernel_rfl) (fun _ _ _ h=>h) (by intro w hSw;(try dsimp only at hSw);go_simp;try with_reducible rfl) hHeld ?_
  refine AB (i:=10) (v:= ?_) rfl (by kernel_rfl) (fun _ _ _ h=>h) (by intro w hSw;(try dsimp only at hSw);go_simp;try with_reducible rfl) hHeld ?_
  refine AJ (i:=11) rfl (by kernel_rfl) (fun _ _ _ h=>h) hHeld ?_
  refine AJ (i:=12) rfl (by kernel_rfl) (fun _ _ _ h=>h) hHeld ?_
  refine AJ (i:=13) rfl (by kernel_rfl) (fun _ _ _ h=>h) hHeld ?_
  refine AJ (i:=14) rfl (by kernel_rfl) (fun _ _ _ h=>h) hHeld ?_
  refine AJ (i:=15) rfl (by kernel_rfl) (fun _ _ _ h=>h) hHeld ?_
  refine AJ (i:=16) rfl (by kernel_rfl) (fun _ _ _ h=>h) hHeld ?_
  refine AJ (i:=17) rfl (by kernel_rfl) (fun _ _ _ h=>h) hHeld ?_
  refine AB (i:=18) (v:= ?_) rfl (by kernel_rfl) (fun _ _ _ h=>h) (by intro w hSw;(try dsimp only at hSw);go_simp;try with_reducible rfl) hHeld ?_
  refine AB (i:=19) (v:= ?_) rfl (by kernel_rfl) (fun _ _ _ h=>h) (by intro w hSw;(try dsimp only at hSw);go_simp;try with_reducible rfl) hHeld ?_
  refine wpAnyH_ready (rs:= [20]) (by kernel_rfl) (by simp) ?_
  refine AllReadyH.cons rfl (fun K hK=> ?_) AllReadyH.nil
  go_simp
  refine(AO _).mono ?_
  rintro e w3 ⟨rfl,rfl⟩
  refine hK.out _ _ ⟨x0,y8⟩ (fun Ag=> ?_)
  clear hK K
  refine wpAnyH_done (by kernel_rfl) ?_ _
  clear hHeld Ag
  go_wp2_with fail
  refine(AY _).mono ?_
  rintro e w3 ⟨rfl,rfl⟩
  go_wp2_with fail
  exact⟨rfl,HBAD.out.2.1,.inl ⟨HBAD.out.1,rfl,HBAD.out.2.2⟩⟩
 by_cases hc:r.st<5
 case pos=>
  have HBAD:=hbad (by cases hb:Az 8 r.st with | false=>rfl | true=>exfalso;unfold Az at hb;simp at hb;omega)
  have d0:decide ((r.st:Int)≤8)=true:=decide_eq_true (by omega)
  have d1:((r.st:Int) !=0)=true:=by rw [bne_iff_ne];omega
  have d2:decide (5≤(r.st:Int))=false:=decide_eq_false (by omega)
  clear hbad
  refine wp_region_held_drew (S:=fun W=>W.cell? ⟨h6,0,none⟩=some (.int .i64 8)∧W.cell? ⟨b,8,none⟩=some (.int .i64 r.st)) (by kernel_rfl) ⟨x0,y8⟩ (fun hHeld=> ?_)
  refine AB (i:=0) (v:= ?_) rfl (by kernel_rfl) (fun _ _ _ h=>h) (by intro w hSw;(try dsimp only at hSw);go_simp;try with_reducible rfl) hHeld ?_
  refine AB (i:=1) (v:= ?_) rfl (by kernel_rfl) (fun _ _ _ h=>h) (by intro w hSw;(try dsimp only at hSw);go_simp;try with_reducible rfl) hHeld ?_
  refine AB (i:=2) (v:= ?_) rfl (by kernel_rfl) (fun _ _ _ h=>h) (by intro w hSw;(try dsimp only at hSw);go_simp;try with_reducible rfl) hHeld ?_
  refine AB (i:=3) (v:= ?_) rfl (by kernel_rfl) (fun _ _ _ h=>h) (by intro w hSw;(try dsimp only at hSw);go_simp;try with_reducible rfl) hHeld ?_
  refine AB (i:=4) (v:= ?_) rfl (by kernel_rfl) (fun _ _ _ h=>h) (by intro w hSw;(try dsimp only at hSw);go_simp;try with_reducible rfl) hHeld ?_
  refine AB (i:=5) (v:= ?_) rfl (by kernel_rfl) (fun _ _ _ h=>h) (by intro w hSw;(try dsimp only at hSw);go_simp;try with_reducible rfl) hHeld ?_
  refine AB (i:=6) (v:= ?_) rfl (by kernel_rfl) (fun _ _ _ h=>h) (by intro w hSw;(try dsimp only at hSw);go_simp;try with_reducible rfl) hHeld ?_
  refine AB (i:=7) (v:= ?_) rfl (by kernel_rfl) (fun _ _ _ h=>h) (by intro w hSw;(try dsimp only at hSw);go_simp;try with_reducible rfl) hHeld ?_
  refine AB (i:=8) (v:= ?_) rfl (by kernel_rfl) (fun _ _ _ h=>h) (by intro w hSw;(try dsimp only at hSw);go_simp;try with_reducible rfl) hHeld ?_
  refine AB (i:=9) (v:= ?_) rfl (by kernel_rfl) (fun _ _ _ h=>h) (by intro w hSw;(try dsimp only at hSw);go_simp;try with_reducible rfl) hHeld ?_
  refine AB (i:=10) (v:= ?_) rfl (by kernel_rfl) (fun _ _ _ h=>h) (by intro w hSw;(try dsimp only at hSw);go_simp;try with_reducible rfl) hHeld ?_
  refine AJ (i:=11) rfl (by kernel_rfl) (fun _ _ _ h=>h) hHeld ?_
  refine AJ (i:=12) rfl (by kernel_rfl) (fun _ _ _ h=>h) hHeld ?_
  refine AJ (i:=13) rfl (by kernel_rfl) (fun _ _ _ h=>h) hHeld ?_
  refine AJ (i:=14) rfl (by kernel_rfl) (fun _ _ _ h=>h) hHeld ?_
  refine AJ (i:=15) rfl (by kernel_rfl) (fun _ _ _ h=>h) hHeld ?_
  refine AJ (i:=16) rfl (by kernel_rfl) (fun _ _ _ h=>h) hHeld ?_
  refine AJ (i:=17) rfl (by kernel_rfl) (fun _ _ _ h=>h) hHeld ?_
  refine AB (i:=18) (v:= ?_) rfl (by kernel_rfl) (fun _ _ _ h=>h) (by intro w hSw;(try dsimp only at hSw);go_simp;try with_reducible rfl) hHeld ?_
  refine AB (i:=19) (v:= ?_) rfl (by kernel_rfl) (fun _ _ _ h=>h) (by intro w hSw;(try dsimp only at hSw);go_simp;try with_reducible rfl) hHeld ?_
  refine wpAnyH_ready (rs:= [20]) (by kernel_rfl) (by simp) ?_
  refine AllReadyH.cons rfl (fun K hK=> ?_) AllReadyH.nil
  go_simp
  refine(AO _).mono ?_
  rintro e w3 ⟨rfl,rfl⟩
  refine hK.out _ _ ⟨x0,y8⟩ (fun Ag=> ?_)
  clear hK K
  refine wpAnyH_done (by kernel_rfl) ?_ _
  clear hHeld Ag
  go_wp2_with fail
  refine(AO _).mono ?_
  rintro e w3 ⟨rfl,rfl⟩
  go_wp2_with fail
  refine(AY _).mono ?_
  rintro e w3 ⟨rfl,rfl⟩
  go_wp2_with fail
  exact⟨rfl,HBAD.out.2.1,.inl ⟨HBAD.out.1,rfl,HBAD.out.2.2⟩⟩
 have d0:decide ((r.st:Int)≤8)=true:=decide_eq_true (by omega)
 have d1:((r.st:Int) !=0)=true:=by rw [bne_iff_ne];omega
 have d2:decide (5≤(r.st:Int))=true:=decide_eq_true (by omega)
 have Qz:Hid (Ar r (I5::t)=(Av 8 r.m t).map (fun m'=>(⟨m',8⟩:Ka))):=AA (by
  have ho:Az 8 r.st=true:=by
   cases hb:Az 8 r.st with
   | true=>rfl
   | false=>exfalso;unfold Az at hb;simp at hb;omega
  rw [TM.out,ho];rfl)
 clear hbad
 refine wp_region_held_drew (S:=fun W=>W.cell? ⟨h6,0,none⟩=some (.int .i64 8)∧W.cell? ⟨b,8,none⟩=some (.int .i64 r.st)) (by kernel_rfl) ⟨x0,y8⟩ (fun hHeld=> ?_)
 refine AB (i:=0) (v:= ?_) rfl (by kernel_rfl) (fun _ _ _ h=>h) (by intro w hSw;(try dsimp only at hSw);go_simp;try with_reducible rfl) hHeld ?_
 refine AB (i:=1) (v:= ?_) rfl (by kernel_rfl) (fun _ _ _ h=>h) (by intro w hSw;(try dsimp only at hSw);go_simp;try with_reducible rfl) hHeld ?_
 refine AB (i:=2) (v:= ?_) rfl (by kernel_rfl) (fun _ _ _ h=>h) (by intro w hSw;(try dsimp only at hSw);go_simp;try with_reducible rfl) hHeld ?_
 refine AB (i:=3) (v:= ?_) rfl (by kernel_rfl) (fun _ _ _ h=>h) (by intro w hSw;(try dsimp only at hSw);go_simp;try with_reducible rfl) hHeld ?_
 refine AB (i:=4) (v:= ?_) rfl (by kernel_rfl) (fun _ _ _ h=>h) (by intro w hSw;(try dsimp only at hSw);go_simp;try with_reducible rfl) hHeld ?_
 refine AB (i:=5) (v:= ?_) rfl (by kernel_rfl) (fun _ _ _ h=>h) (by intro w hSw;(try dsimp only at hSw);go_simp;try with_reducible rfl) hHeld ?_
 refine AB (i:=6) (v:= ?_) rfl (by kernel_rfl) (fun _ _ _ h=>h) (by intro w hSw;(try dsimp only at hSw);go_simp;try with_reducible rfl) hHeld ?_
 refine AB (i:=7) (v:= ?_) rfl (by kernel_rfl) (fun _ _ _ h=>h) (by intro w hSw;(try dsimp only at hSw);go_simp;try with_reducible rfl) hHeld ?_
 refine AB (i:=8) (v:= ?_) rfl (by kernel_rfl) (fun _ _ _ h=>h) (by intro w hSw;(try dsimp only at hSw);go_simp;try with_reducible rfl) hHeld ?_
 refine AB (i:=9) (v:= ?_) rfl (by kernel_rfl) (fun _ _ _ h=>h) (by intro w hSw;(try dsimp only at hSw);go_simp;try with_reducible rfl) hHeld ?_
 refine AB (i:=10) (v:= ?_) rfl (by kernel_rfl) (fun _ _ _ h=>h) (by intro w hSw;(try dsimp only at hSw);go_simp;try with_reducible rfl) hHeld ?_
 refine AJ (i:=11) rfl (by kernel_rfl) (fun _ _ _ h=>h) hHeld ?_
 refine AJ (i:=12) rfl (by kernel_rfl) (fun _ _ _ h=>h) hHeld ?_
 refine AJ (i:=13) rfl (by kernel_rfl) (fun _ _ _ h=>h) hHeld ?_
 refine AJ (i:=14) rfl (by kernel_rfl) (fun _ _ _ h=>h) hHeld ?_
 refine AJ (i:=15) rfl (by kernel_rfl) (fun _ _ _ h=>h) hHeld ?_
 refine AJ (i:=16) rfl (by kernel_rfl) (fun _ _ _ h=>h) hHeld ?_
 refine AJ (i:=17) rfl (by kernel_rfl) (fun _ _ _ h=>h) hHeld ?_
 refine AB (i:=18) (v:= ?_) rfl (by kernel_rfl) (fun _ _ _ h=>h) (by intro w hSw;(try dsimp only at hSw);go_simp;try with_reducible rfl) hHeld ?_
 refine AB (i:=19) (v:= ?_) rfl (by kernel_rfl) (fun _ _ _ h=>h) (by intro w hSw;(try dsimp only at hSw);go_simp;try with_reducible rfl) hHeld ?_
 refine wpAnyH_ready (rs:= [20]) (by kernel_rfl) (by simp) ?_
 refine AllReadyH.cons rfl (fun K hK=> ?_) AllReadyH.nil
 go_simp
 refine(AO _).mono ?_
 rintro e w3 ⟨rfl,rfl⟩
 refine hK.out _ _ ⟨x0,y8⟩ (fun Ag=> ?_)
 clear hK K
 refine wpAnyH_done (by kernel_rfl) ?_ _
 clear hHeld Ag
 go_wp2_with fail
 refine(AO _).mono ?_
 rintro e w3 ⟨rfl,rfl⟩
 go_wp2_with fail
 refine(AO _).mono ?_
 rintro e w3 ⟨rfl,rfl⟩
 go_upto_region 10 with fail
 have SK:OL B b (w2.setCell ⟨b,8,none⟩ (.int .i64 (8:Nat))).drew _ v1 v2 v3 v6 v7 v8 r.m 8 ln:=((HR.out.below HB2.out).stage 8).below ((Below.refl _ _).drew)
 have hx5:AL (w2.setCell ⟨b,8,none⟩ (.int .i64 (8:Nat))).drew h6 148 [.int .i64 8,.func (.func 95) #[] #[]]:=(OU.out.far (p:=⟨b,8,none⟩) (by show h6≠b;omega) _).drewN 1
 have U6:Keep (fun k=>k<B∧k≠b) w (w2.setCell ⟨b,8,none⟩ (.int .i64 (8:Nat))).drew:=(((Keep.Aq HB2.out).Dt (fun k hk _=>hk)).setCell (p:=⟨b,8,none⟩) (fun e=>e.2 rfl) _).drew
 have U7:ED (w2.setCell ⟨b,8,none⟩ (.int .i64 (8:Nat))).drew A (I5::t):=(HW2.out.keep (K:=fun k=>k≠b) (((Keep.refl _ w2).setCell (p:=⟨b,8,none⟩) (fun e=>e rfl) _).drew) (by omega))
 have U8:Dv hi (w2.setCell ⟨b,8,none⟩ (.int .i64 (8:Nat))).drew:=HI.out.env.to (((HB2.out.mono (show hi≤w.heap.size by omega)).setCell (p:=⟨b,8,none⟩) hhi _).drew)
 generalize World.drew (w2.setCell _ _)=w5 at*
 have x1:=hx5.q 1 rfl
 have Pw:=AA SK;have Qf:=AA U6;have bF:=AA U7;have bG:=AA U8
 clear SK U6 U7 U8 hx5 x0 y8 z8 OU HW2
 go_wp2_with fail
 rw [OV.out]
 refine(iF ⟨Pw.out,bF.out,bG.out,hhi,HI.out.lens,by omega⟩ (List.cons_ne_nil _ _)).mono ?_
 rintro e w6 hm
 have hpost:Ei B b w ln (Ar r (I5::t)) e w6:=by
  rcases hm with⟨h1,h2,h3⟩ | ⟨m',h1,h2,h3,h4⟩
  ·refine⟨Qf.out.trans ((Keep.Aq h3).Dt (fun k hk _=>hk)),.inl ⟨?_,h2,(h3.cell (p:=⟨b,9,none⟩) Pw.out.blk.lt).trans (Pw.out.blk.cell 9)⟩⟩
   rw [Qz.out];rw [List.tail_cons] at h1;rw [h1];rfl
  ·refine⟨Qf.out.trans h3,.inr ⟨⟨m',8⟩,?_,h2,?_⟩⟩
   ·rw [Qz.out];rw [List.tail_cons] at h1;rw [h1];rfl
   ·exact .inl ⟨(show(8:Nat)≠6 by decide),h4⟩
 have HP:=AA hpost
 rcases hm with⟨_,rfl,_⟩ | ⟨m',_,rfl,_,_⟩
 ·go_wp2_with fail
  exact⟨rfl,HP.out⟩
 ·go_wp2_with fail
  go_end0
  exact HP.out
end
end Go.Proofs.YtejbcledkhioeaaGreatDoor
