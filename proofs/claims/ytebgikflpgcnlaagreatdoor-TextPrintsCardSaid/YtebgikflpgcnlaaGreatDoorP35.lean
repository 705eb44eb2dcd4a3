/- Part 35 of the proof: RdrN -/
import Derived.Test.YtebgikflpgcnlaaGreatDoorP33
namespace Go.Proofs.YtebgikflpgcnlaaGreatDoor
set_option linter.unusedVariables false
set_option linter.unusedSimpArgs false
set_option maxRecDepth 100000
set_option maxHeartbeats 4000000
open Go.RowKit Tryz
section
variable {B b hi M:Nat} {w:World} {r:Nb} {ln:Nat} {s:ByteArray}
theorem nJ (h:qE B b hi M w r ln s) {t:List ByteArray} (hwd:EP s=Jl::t):
 Calls prog 59 #[.pointer (some ⟨b,0,none⟩),.string s,.map (some M)] w (Gw B b w ln (Ai r (EP s))):=by
 have hcall:=Hq s (by have:=h.sz;omega) w
 obtain⟨hws,hpos⟩:=Ho s
 have hsz:=h.sz
 rw [hwd] at hcall hws⊢
 have hlv:Ai r (Jl::t)=if BD 5 r.st=true then(Ar 5 r.m t).map (fun m'=>(⟨m',5⟩:Nb)) else none:=by
  have hk:EX Jl=5:=by kernel_rfl
  unfold Ai
  simp only [hk]
  rw [if_neg (by decide)]
 have VI:=AA hlv
 have HI:=AA h
 have hz0:((((Jl::t).length:Nat):Int)==0)=false:=by rw [beq_eq_false_iff_ne,List.length_cons];omega
 obtain⟨n,hn⟩: ∃n,n=(Jl::t).length:=⟨_,rfl⟩
 rw [←hn] at hz0
 have hn0:0<n:=by rw [hn,List.length_cons];omega
 have RH:=AA hn
 have Es:=AA hcall
 have dM:=h.mlt
 have hhi:=h.hhi
 have R7:=AA h.map
 obtain⟨col,v1,v2,v3,v6,v7,v8,hr⟩:=h.rd.close
 have hlow:=hr.low
 have htop:=hr.top
 have HR:=AA hr
 clear hcall hlv h hr
 go_enter func59,ntmps59
 go_wp2_with fail
 refine Es.out.mono ?_
 clear Es
 rintro e w1 ⟨A,rfl,hA,ho,hb1⟩
 have hw1:=KY ho hA (List.cons_ne_nil _ _) (by omega)
 have q0:w1.cell? ⟨A,0,none⟩=some (.string ⟨#[109,101,109,111,114,121]⟩):=hw1.at_ 0 _ rfl
 have hlt1:=hw1.lt
 have hbl:=HR.out.blk.lt
 have hsz1:=hb1.size
 have g8:w1.cell? ⟨b,8,none⟩=some (.int .i64 r.st):=(hb1.cell (p:=⟨b,8,none⟩) hbl).trans (HR.out.blk.cell 8)
 have Ie:w1.heap[M]?=some (.map JD 8):=(hb1.block M dM).trans R7.out
 have M6:=M5 (P:=prog) (W:=w1) (s:=⟨#[109,101,109,111,114,121]⟩) underlying108 underlying9 Ie (i:=4) (v:= .agg #[.int .i64 5,.func (.func 92) #[] #[]]) (by kernel_rfl)
 have HW1:=AA hw1;have HB1:=AA hb1
 rw [←RH.out]
 have Qw:(((⟨#[109,101,109,111,114,121]⟩:ByteArray)[0].toNat:Int)==59)=false:=by decide
 clear hn ho hb1 hw1 Ie hws hpos hwd
 go_wp2_with fail
 generalize hw2:World.alloc _ _=w2
 have I5:Below w1.heap.size w1 w2:=by rw [←hw2];exact(Below.refl _ _).alloc (Nat.le_refl _) _
 have hx2:AV w2 w1.heap.size 148 [.int .i64 5,.func (.func 92) #[] #[]]:=by rw [←hw2];exact AV.new w1 _ [.int .i64 5,.func (.func 92) #[] #[]]
 obtain⟨h6,TL⟩: ∃h6,h6=w1.heap.size:=⟨_,rfl⟩
 rw [←TL] at hx2⊢
 have dA:w.heap.size≤h6:=by omega
 have HB2:=AA (HB1.out.trans (I5.mono hsz1))
 have HW2:=AA (HW1.out.below I5)
 have x0:=hx2.q 0 rfl
 have x1:=hx2.q 1 rfl
 have y8:w2.cell? ⟨b,8,none⟩=some (.int .i64 r.st):=(HB2.out.cell (p:=⟨b,8,none⟩) hbl).trans (HR.out.blk.cell 8)
 have z8:=(HR.out.blk.below HB2.out hbl).frozen 8
 have RG:=AA hx2
 clear hw2 I5 hx2 TL g8 q0 M6 HW1 HB1
 have hbad:BD 5 r.st=false→Hid (Ai r (Jl::t)=none∧Keep (fun k=>k<B∧k≠b) w w2.drew∧w2.drew.cell? ⟨b,9,none⟩=some (.int .i64 ln)):=fun hf=>
  AA ⟨by rw [VI.out,hf];rfl,((Keep.Am HB2.out).ER (fun k hk _=>hk)).drew,(HB2.out.cell (p:=⟨b,9,none⟩) hbl).trans (HR.out.blk.cell 9)⟩
 have hN0:((⟨#[109,101,109,111,114,121]⟩:ByteArray)[0].toNat:Int)=109:=by decide
 rw [hN0]
 clear Qw hN0
 by_cases hc:5<r.st
 case pos=>
  have HBAD:=hbad (by cases hb:BD 5 r.st with | false=>rfl | true=>exfalso;unfold BD at hb;simp at hb;omega)
  have d0:decide ((r.st:Int)≤5)=false:=decide_eq_false (by omega)
  clear hbad
  refine wp_region_held_drew (S:=fun W=>W.cell? ⟨h6,0,none⟩=some (.int .i64 5)∧W.cell? ⟨b,8,none⟩=some (.int .i64 r.st)) (by kernel_rfl) ⟨x0,y8⟩ (fun hHeld=> ?_)
  refine AB (i:=0) (v:= ?_) rfl (by kernel_rfl) (fun _ _ _ h=>h) (by intro w hSw;(try dsimp only at hSw);go_simp;try with_reducible rfl) hHeld ?_
  refine AB (i:=1) (v:= ?_) rfl (by kernel_rfl) (fun _ _ _ h=>h) (by intro w hSw;(try dsimp only at hSw);go_simp;try with_reducible rfl) hHeld ?_
  refine AB (i:=2) (v:= ?_) rfl (by kernel_rfl) (fun _ _ _ h=>h) (by intro w hSw;(try dsimp only at hSw);go_simp;try with_reducible rfl) hHeld ?_
  refine AB (i:=3) (v:= ?_) rfl (by kernel_rfl) (fun _ _ _ h=>h) (by intro w hSw;(try dsimp only at hSw);go_simp;try with_reducible rfl) hHeld ?_
  refine AB (i:=4) (v:= ?_) rfl (by kernel_rfl) (fun _ _ _ h=>h) (by intro w hSw;(try dsimp only at hSw);go_simp;try with_reducible rfl) hHeld ?_
  refine AB (i:=5) (v:= ?_) rfl (by kernel_rfl) (fun _ _ _ h=>h) (by intro w hSw;(try dsimp only at hSw);go_simp;try with_reducible rfl) hHeld ?_
  refine AB (i:=6) (v:= ?_) rfl (by kernel_rfl) (fun _ _ _ h=>h) (by intro w hSw;(try dsimp only at hSw);go_simp;try with_reducible rfl) hHeld ?_
  refine AB (i:=7) (v:= ?_) rfl (by kernel_rfl) (fun _ _ _ h=>h) (by intro w hSw;(try dsimp only at hSw);go_simp;try with_reducible rfl) hHeld ?_
  refine AJ (i:=8) rfl (by kernel_rfl) (fun _ _ _ h=>h) hHeld ?_
  refine AJ (i:=9) rfl (by kernel_rfl) (fun _ _ _ h=>h) hHeld ?_
  refine AJ (i:=10) rfl (by kernel_rfl) (fun _ _ _ h=>h) hHeld ?_
  refine AJ (i:=11) rfl (by kernel_rfl) (fun _ _ _ h=>h) hHeld ?_
  refine AJ (i:=12) rfl (by kernel_rfl) (fun _ _ _ h=>h) hHeld ?_
  refine AJ (i:=13) rfl (by kernel_rfl) (fun _ _ _ h=>h) hHeld ?_
  refine AJ (i:=14) rfl (by kernel_rfl) (fun _ _ _ h=>h) hHeld ?_
  refine AJ (i:=15) rfl (by kernel_rfl) (fun _ _ _ h=>h) hHeld ?_
  refine AJ (i:=16) rfl (by kernel_rfl) (fun _ _ _ h=>h) hHeld ?_
  refine AJ (i:=17) rfl (by kernel_rfl) (fun _ _ _ h=>h) hHeld ?_
  refine AJ (i:=18) rfl (by kernel_rfl) (fun _ _ _ h=>h) hHeld ?_
  refine AB (i:=19) (v:= ?_) rfl (by kernel_rfl) (fun _ _ _ h=>h) (by intro w hSw;(try dsimp only at hSw);go_simp;try with_reducible rfl) hHeld ?_
  refine wpAnyH_ready (rs:= [20]) (by kernel_rfl) (by simp) ?_
  refine AllReadyH.cons rfl (fun K hK=> ?_) AllReadyH.nil
  go_simp
  refine(AZ _).mono ?_
  rintro e w3 ⟨rfl,rfl⟩
  go_wp2_with fail
  exact⟨rfl,HBAD.out.2.1,.inl ⟨HBAD.out.1,rfl,HBAD.out.2.2⟩⟩
 by_cases hc:r.st=5
 case pos=>
  have HBAD:=hbad (by cases hb:BD 5 r.st with | false=>rfl | true=>exfalso;unfold BD at hb;simp at hb;omega)
  have d0:decide ((r.st:Int)≤5)=true:=decide_eq_true (by omega)
  have d1:decide ((r.st:Int)<5)=false:=decide_eq_false (by omega)
  clear hbad
  refine wp_region_held_drew (S:=fun W=>W.cell? ⟨h6,0,none⟩=some (.int .i64 5)∧W.cell? ⟨b,8,none⟩=some (.int .i64 r.st)) (by kernel_rfl) ⟨x0,y8⟩ (fun hHeld=> ?_)
  refine AB (i:=0) (v:= ?_) rfl (by kernel_rfl) (fun _ _ _ h=>h) (by intro w hSw;(try dsimp only at hSw);go_simp;try with_reducible rfl) hHeld ?_
  refine AB (i:=1) (v:= ?_) rfl (by kernel_rfl) (fun _ _ _ h=>h) (by intro w hSw;(try dsimp only at hSw);go_simp;try with_reducible rfl) hHeld ?_
  refine AB (i:=2) (v:= ?_) rfl (by kernel_rfl) (fun _ _ _ h=>h) (by intro w hSw;(try dsimp only at hSw);go_simp;try with_reducible rfl) hHeld ?_
  refine AB (i:=3) (v:= ?_) rfl (by kernel_rfl) (fun _ _ _ h=>h) (by intro w hSw;(try dsimp only at hSw);go_simp;try with_reducible rfl) hHeld ?_
  refine AB (i:=4) (v:= ?_) rfl (by kernel_rfl) (fun _ _ _ h=>h) (by intro w hSw;(try dsimp only at hSw);go_simp;try with_reducible rfl) hHeld ?_
  refine AB (i:=5) (v:= ?_) rfl (by kernel_rfl) (fun _ _ _ h=>h) (by intro w hSw;(try dsimp only at hSw);go_simp;try with_reducible rfl) hHeld ?_
  refine AB (i:=6) (v:= ?_) rfl (by kernel_rfl) (fun _ _ _ h=>h) (by intro w hSw;(try dsimp only at hSw);go_simp;try with_reducible rfl) hHeld ?_
  refine AB (i:=7) (v:= ?_) rfl (by kernel_rfl) (fun _ _ _ h=>h) (by intro w hSw;(try dsimp only at hSw);go_simp;try with_reducible rfl) hHeld ?_
  refine AB (i:=8) (v:= ?_) rfl (by kernel_rfl) (fun _ _ _ h=>h) (by intro w hSw;(try dsimp only at hSw);go_simp;try with_reducible rfl) hHeld ?_
  refine AB (i:=9) (v:= ?_) rfl (by kernel_rfl) (fun _ _ _ h=>h) (by intro w hSw;(try dsimp only at hSw);go_simp;try with_reducible rfl) hHeld ?_
  refine AB (i:=10) (v:= ?_) rfl (by kernel_rfl) (fun _ _ _ h=>h) (by intro w hSw;(try dsimp only at hSw);go_simp;try with_reducible rfl) hHeld ?_
  refine AB (i:=11) (v:= ?_) rfl (by kernel_rfl) (fun _ _ _ h=>h) (by intro w hSw;(try dsimp only at hSw);go_simp;try with_reducible rfl) hHeld ?_
  refine AB (i:=12) (v:= ?_) rfl (by kernel_rfl) (fun _ _ _ h=>h) (by intro w hSw;(try dsimp only at hSw);go_simp;try with_reducible rfl) hHeld ?_
  refine AB (i:=13) (v:= ?_) rfl (by kernel_rfl) (fun _ _ _ h=>h) (by intro w hSw;(try dsimp only at hSw);go_simp;try with_reducible rfl) hHeld ?_
  refine AB (i:=14) (v:= ?_) rfl (by kernel_rfl) (fun _ _ _ h=>h) (by intro w hSw;(try dsimp only at hSw);go_simp;try with_reducible rfl) hHeld ?_
  refine AB (i:=15) (v:= ?_) rfl (by kernel_rfl) (fun _ _ _ h=>h) (by intro w hSw;(try dsimp only at hSw);go_simp;try with_reducible rfl) hHeld ?_
  refine AB (i:=16) (v:= ?_) rfl (by kernel_rfl) (fun _ _ _ h=>h) (by intro w hSw;(try dsimp only at hSw);go_simp;try with_reducible rfl) hHeld ?_
  refine AB (i:=17) (v:= ?_) rfl (by kernel_rfl) (fun _ _ _ h=>h) (by intro w hSw;(try dsimp only at hSw);go_simp;try with_reducible rfl) hHeld ?_
  refine AB (i:=18) (v:= ?_) rfl (by kernel_rfl) (fun _ _ _ h=>h) (by intro w hSw;(try dsimp only at hSw);go_simp;try with_reducible rfl) hHeld ?_
  refine AB (i:=19) (v:= ?_) rfl (by kernel_rfl) (fun _ _ _ h=>h) (by intro w hSw;(try dsimp only at hSw);go_simp;try with_reducible rfl) hHeld ?_
  refine wpAnyH_ready (rs:= [20]) (by kernel_rfl) (by simp) ?_
  refine AllReadyH.cons rfl (fun K hK=> ?_) AllReadyH.nil
  go_simp
  refine(AZ _).mono ?_
  rintro e w3 ⟨rfl,rfl⟩
  go_wp2_with fail
  exact⟨rfl,HBAD.out.2.1,.inl ⟨HBAD.out.1,rfl,HBAD.out.2.2⟩⟩
 by_cases hc:r.st=0
 case pos=>
  have HBAD:=hbad (by cases hb:BD 5 r.st with | false=>rfl | true=>exfalso;unfold BD at hb;simp at hb;omega)
  have d0:decide ((r.st:Int)≤5)=true:=decide_eq_true (by omega)
  have d1:decide ((r.st:Int)<5)=true:=decide_eq_true (by omega)
  have d2:((r.st:Int) !=0)=false:=by rw [bne_eq_false_iff_eq];omega
  clear hbad
  refine wp_region_held_drew (S:=fun W=>W.cell? ⟨h6,0,none⟩=some (.int .i64 5)∧W.cell? ⟨b,8,none⟩=some (.int .i64 r.st)) (by kernel_rfl) ⟨x0,y8⟩ (fun hHeld=> ?_)
  refine AB (i:=0) (v:= ?_) rfl (by kernel_rfl) (fun _ _ _ h=>h) (by intro w hSw;(try dsimp only at hSw);go_simp;try with_reducible rfl) hHeld ?_
  refine AB (i:=1) (v:= ?_) rfl (by kernel_rfl) (fun _ _ _ h=>h) (by intro w hSw;(try dsimp only at hSw);go_simp;try with_reducible rfl) hHeld ?_
  refine AB (i:=2) (v:= ?_) rfl (by kernel_rfl) (fun _ _ _ h=>h) (by intro w hSw;(try dsimp only at hSw);go_simp;try with_reducible rfl) hHeld ?_
  refine AB (i:=3) (v:= ?_) rfl (by kernel_rfl) (fun _ _ _ h=>h) (by intro w hSw;(try dsimp only at hSw);go_simp;try with_reducible rfl) hHeld ?_
  refine AB (i:=4) (v:= ?_) rfl (by kernel_rfl) (fun _ _ _ h=>h) (by intro w hSw;(try dsimp only at hSw);go_simp;try with_reducible rfl) hHeld ?_
  refine AB (i:=5) (v:= ?_) rfl (by kernel_rfl) (fun _ _ _ h=>h) (by intro w hSw;(try dsimp only at hSw);go_simp;try with_reducible rfl) hHeld ?_
  refine AB (i:=6) (v:= ?_) rfl (by kernel_rfl) (fun _ _ _ h=>h) (by intro w hSw;(try dsimp only at hSw);go_simp;try with_reducible rfl) hHeld ?_
  refine AB (i:=7) (v:= ?_) rfl (by kernel_rfl) (fun _ _ _ h=>h) (by intro w hSw;(try dsimp only at hSw);go_simp;try with_reducible rfl) hHeld ?_
  refine AB (i:=8) (v:= ?_) rfl (by kernel_rfl) (fun _ _ _ h=>h) (by intro w hSw;(try dsimp only at hSw);go_simp;try with_reducible rfl) hHeld ?_
  refine AB (i:=9) (v:= ?_) rfl (by kernel_rfl) (fun _ _ _ h=>h) (by intro w hSw;(try dsimp only at hSw);go_simp;try with_reducible rfl) hHeld ?_
  refine AB (i:=10) (v:= ?_) rfl (by kernel_rfl) (fun _ _ _ h=>h) (by intro w hSw;(try dsimp only at hSw);go_simp;try with_reducible rfl) hHeld ?_
  refine AB (i:=11) (v:= ?_) rfl (by kernel_rfl) (fun _ _ _ h=>h) (by intro w hSw;(try dsimp only at hSw);go_simp;try with_reducible rfl) hHeld ?_
  refine AB (i:=12) (v:= ?_) rfl (by kernel_rfl) (fun _ _ _ h=>h) (by intro w hSw;(try dsimp only at hSw);go_simp;try with_reducible rfl) hHeld ?_
  refine AB (i:=13) (v:= ?_) rfl (by kernel_rfl) (fun _ _ _ h=>h) (by intro w hSw;(try dsimp only at hSw);go_simp;try with_reducible rfl) hHeld ?_
  refine AB (i:=14) (v:= ?_) rfl (by kernel_rfl) (fun _ _ _ h=>h) (by intro w hSw;(try dsimp only at hSw);go_simp;try with_reducible rfl) hHeld ?_
  refine AB (i:=15) (v:= ?_) rfl (by kernel_rfl) (fun _ _ _ h=>h) (by intro w hSw;(try dsimp only at hSw);go_simp;try with_reducible rfl) hHeld ?_
  refine AB (i:=16) (v:= ?_) rfl (by kernel_rfl) (fun _ _ _ h=>h) (by intro w hSw;(try dsimp only at hSw);go_simp;try with_reducible rfl) hHeld ?_
  refine AB (i:=17) (v:= ?_) rfl (by kernel_rfl) (fun _ _ _ h=>h) (by intro w hSw;(try dsimp only at hSw);go_simp;try with_reducible rfl) hHeld ?_
  refine AB (i:=18) (v:= ?_) rfl (by kernel_rfl) (fun _ _ _ h=>h) (by intro w hSw;(try dsimp only at hSw);go_simp;try with_reducible rfl) hHeld ?_
  refine AB (i:=19) (v:= ?_) rfl (by kernel_rfl) (fun _ _ _ h=>h) (by intro w hSw;(try dsimp only at hSw);go_simp;try with_reducible rfl) hHeld ?_
  refine wpAnyH_ready (rs:= [20]) (by kernel_rfl) (by simp) ?_
  refine AllReadyH.cons rfl (fun K hK=> ?_) AllReadyH.nil
  go_simp
  refine(AP _).mono ?_
  rintro e w3 ⟨rfl,rfl⟩
  refine hK.out _ _ ⟨x0,y8⟩ (fun AX=> ?_)
  clear hK K
  refine wpAnyH_done (by kernel_rfl) ?_ _
  clear hHeld AX
  go_wp2_with fail
  refine(AZ _).mono ?_
  rintro e w3 ⟨rfl,rfl⟩
  go_wp2_with fail
  exact⟨rfl,HBAD.out.2.1,.inl ⟨HBAD.out.1,rfl,HBAD.out.2.2⟩⟩
 have d0:decide ((r.st:Int)≤5)=true:=decide_eq_true (by omega)
 have d1:decide ((r.st:Int)<5)=true:=decide_eq_true (by omega)
 have d2:((r.st:Int) !=0)=true:=by rw [bne_iff_ne];omega
 have XW:Hid (Ai r (Jl::t)=(Ar 5 r.m t).map (fun m'=>(⟨m',5⟩:Nb))):=AA (by
  have ho:BD 5 r.st=true:=by
   cases hb:BD 5 r.st with
   | true=>rfl
   | false=>exfalso;unfold BD at hb;simp at hb;omega
  rw [VI.out,ho];rfl)
 clear hbad
 refine wp_region_held_drew (S:=fun W=>W.cell? ⟨h6,0,none⟩=some (.int .i64 5)∧W.cell? ⟨b,8,none⟩=some (.int .i64 r.st)) (by kernel_rfl) ⟨x0,y8⟩ (fun hHeld=> ?_)
 refine AB (i:=0) (v:= ?_) rfl (by kernel_rfl) (fun _ _ _ h=>h) (by intro w hSw;(try dsimp only at hSw);go_simp;try with_reducible rfl) hHeld ?_
 refine AB (i:=1) (v:= ?_) rfl (by kernel_rfl) (fun _ _ _ h=>h) (by intro w hSw;(try dsimp only at hSw);go_simp;try with_reducible rfl) hHeld ?_
 refine AB (i:=2) (v:= ?_) rfl (by kernel_rfl) (fun _ _ _ h=>h) (by intro w hSw;(try dsimp only at hSw);go_simp;try with_reducible rfl) hHeld ?_
 refine AB (i:=3) (v:= ?_) rfl (by kernel_rfl) (fun _ _ _ h=>h) (by intro w hSw;(try dsimp only at hSw);go_simp;try with_reducible rfl) hHeld ?_
 refine AB (i:=4) (v:= ?_) rfl (by kernel_rfl) (fun _ _ _ h=>h) (by intro w hSw;(try dsimp only at hSw);go_simp;try with_reducible rfl) hHeld ?_
 refine AB (i:=5) (v:= ?_) rfl (by kernel_rfl) (fun _ _ _ h=>h) (by intro w hSw;(try dsimp only at hSw);go_simp;try with_reducible rfl) hHeld ?_
 refine AB (i:=6) (v:= ?_) rfl (by kernel_rfl) (fun _ _ _ h=>h) (by intro w hSw;(try dsimp only at hSw);go_simp;try with_reducible rfl) hHeld ?_
 refine AB (i:=7) (v:= ?_) rfl (by kernel_rfl) (fun _ _ _ h=>h) (by intro w hSw;(try dsimp only at hSw);go_simp;try with_reducible rfl) hHeld ?_
 refine AB (i:=8) (v:= ?_) rfl (by kernel_rfl) (fun _ _ _ h=>h) (by intro w hSw;(try dsimp only at hSw);go_simp;try with_reducible rfl) hHeld ?_
 refine AB (i:=9) (v:= ?_) rfl (by kernel_rfl) (fun _ _ _ h=>h) (by intro w hSw;(try dsimp only at hSw);go_simp;try with_reducible rfl) hHeld ?_
 refine AB (i:=10) (v:= ?_) rfl (by kernel_rfl) (fun _ _ _ h=>h) (by intro w hSw;(try dsimp only at hSw);go_simp;try with_reducible rfl) hHeld ?_
 refine AB (i:=11) (v:= ?_) rfl (by kernel_rfl) (fun _ _ _ h=>h) (by intro w hSw;(try dsimp only at hSw);go_simp;try with_reducible rfl) hHeld ?_
 refine AB (i:=12) (v:= ?_) rfl (by kernel_rfl) (fun _ _ _ h=>h) (by intro w hSw;(try dsimp only at hSw);go_simp;try with_reducible rfl) hHeld ?_
 refine AB (i:=13) (v:= ?_) rfl (by kernel_rfl) (fun _ _ _ h=>h) (by intro w hSw;(try dsimp only at hSw);go_simp;try with_reducible rfl) hHeld ?_
 refine AB (i:=14) (v:= ?_) rfl (by kernel_rfl) (fun _ _ _ h=>h) (by intro w hSw;(try dsimp only at hSw);go_simp;try with_reducible rfl) hHeld ?_
 refine AB (i:=15) (v:= ?_) rfl (by kernel_rfl) (fun _ _ _ h=>h) (by intro w hSw;(try dsimp only at hSw);go_simp;try with_reducible rfl) hHeld ?_
 refine AB (i:=16) (v:= ?_) rfl (by kernel_rfl) (fun _ _ _ h=>h) (by intro w hSw;(try dsimp only at hSw);go_simp;try with_reducible rfl) hHeld ?_
 refine AB (i:=17) (v:= ?_) rfl (by kernel_rfl) (fun _ _ _ h=>h) (by intro w hSw;(try dsimp only at hSw);go_simp;try with_reducible rfl) hHeld ?_
 refine AB (i:=18) (v:= ?_) rfl (by kernel_rfl) (fun _ _ _ h=>h) (by intro w hSw;(try dsimp only at hSw);go_simp;try with_reducible rfl) hHeld ?_
 refine AB (i:=19) (v:= ?_) rfl (by kernel_rfl) (fun _ _ _ h=>h) (by intro w hSw;(try dsimp only at hSw);go_simp;try with_reducible rfl) hHeld ?_
 refine wpAnyH_ready (rs:= [20]) (by kernel_rfl) (by simp) ?_
 refine AllReadyH.cons rfl (fun K hK=> ?_) AllReadyH.nil
 go_simp
 refine(AP _).mono ?_
 rintro e w3 ⟨rfl,rfl⟩
 refine hK.out _ _ ⟨x0,y8⟩ (fun AX=> ?_)
 clear hK K
 refine wpAnyH_done (by kernel_rfl) ?_ _
 clear hHeld AX
 go_wp2_with fail
 refine(AP _).mono ?_
 rintro e w3 ⟨rfl,rfl⟩
 go_wp2_with fail
 refine(AP _).mono ?_
 rintro e w3 ⟨rfl,rfl⟩
 go_upto_region 10 with fail
 have Un:QZ B b (w2.setCell ⟨b,8,none⟩ (.int .i64 (5:Nat))).drew _ v1 v2 v3 v6 v7 v8 r.m 5 ln:=((HR.out.below HB2.out).stage 5).below ((Below.refl _ _).drew)
 have hx5:AV (w2.setCell ⟨b,8,none⟩ (.int .i64 (5:Nat))).drew h6 148 [.int .i64 5,.func (.func 92) #[] #[]]:=(RG.out.far (p:=⟨b,8,none⟩) (by show h6≠b;omega) _).drewN 1
 have XY:Keep (fun k=>k<B∧k≠b) w (w2.setCell ⟨b,8,none⟩ (.int .i64 (5:Nat))).drew:=(((Keep.Am HB2.out).ER (fun k hk _=>hk)).setCell (p:=⟨b,8,none⟩) (fun e=>e.2 rfl) _).drew
 have XZ:En (w2.setCell ⟨b,8,none⟩ (.int .i64 (5:Nat))).drew A (Jl::t):=(HW2.out.keep (K:=fun k=>k≠b) (((Keep.refl _ w2).setCell (p:=⟨b,8,none⟩) (fun e=>e rfl) _).drew) (by omega))
 have Xa:Dt hi (w2.setCell ⟨b,8,none⟩ (.int .i64 (5:Nat))).drew:=HI.out.env.to (((HB2.out.mono (show hi≤w.heap.size by omega)).setCell (p:=⟨b,8,none⟩) hhi _).drew)
 generalize World.drew (w2.setCell _ _)=w5 at*
 have x1:=hx5.q 1 rfl
 have Ra:=AA Un;have Rb:=AA XY;have iD:=AA XZ;have Zt:=AA Xa
 clear Un XY XZ Xa hx5 x0 y8 z8 RG HW2
 go_wp2_with fail
 rw [RH.out]
 refine(mK ⟨Ra.out,iD.out,Zt.out,hhi,HI.out.lens,by omega⟩ (List.cons_ne_nil _ _)).mono ?_
 rintro e w6 hm
 have hpost:Gw B b w ln (Ai r (Jl::t)) e w6:=by
  rcases hm with⟨h1,h2,h3⟩ | ⟨m',h1,h2,h3,h4⟩
  ·refine⟨Rb.out.trans ((Keep.Am h3).ER (fun k hk _=>hk)),.inl ⟨?_,h2,(h3.cell (p:=⟨b,9,none⟩) Ra.out.blk.lt).trans (Ra.out.blk.cell 9)⟩⟩
   rw [XW.out];rw [List.tail_cons] at h1;rw [h1];rfl
  ·refine⟨Rb.out.trans h3,.inr ⟨⟨m',5⟩,?_,h2,?_⟩⟩
   ·rw [XW.out];rw [List.tail_cons] at h1;rw [h1];rfl
   ·exact .inl ⟨(show(5:Nat)≠6 by decide),h4⟩
 have HP:=AA hpost
 rcases hm with⟨_,rfl,_⟩ | ⟨m',_,rfl,_,_⟩
 ·go_wp2_with fail
  exact⟨rfl,HP.out⟩
 ·go_wp2_with fail
  go_end0
  exact HP.out
theorem nK (h:qE B b hi M w r ln s) {t:List ByteArray} (hwd:EP s=PV::t):
 Calls prog 59 #[.pointer (some ⟨b,0,none⟩),.string s,.map (some M)] w (Gw B b w ln (Ai r (EP s))):=by
 have hcall:=Hq s (by have:=h.sz;omega) w
 obtain⟨hws,hpos⟩:=Ho s
 have hsz:=h.sz
 rw [hwd] at hcall hws⊢
 have hlv:Ai r (PV::t)=if BD 6 r.st=true then(Ar 6 r.m t).map (fun m'=>(⟨m',6⟩:Nb)) else none:=by
  have hk:EX PV=6:=by kernel_rfl
  unfold Ai
  simp only [hk]
  rw [if_neg (by decide)]
 have VI:=AA hlv
 have HI:=AA h
 have hz0:((((PV::t).length:Nat):Int)==0)=false:=by rw [beq_eq_false_iff_ne,List.length_cons];omega
 obtain⟨n,hn⟩: ∃n,n=(PV::t).length:=⟨_,rfl⟩
 rw [←hn] at hz0
 have hn0:0<n:=by rw [hn,List.length_cons];omega
 have RH:=AA hn
 have Es:=AA hcall
 have dM:=h.mlt
 have hhi:=h.hhi
 have R7:=AA h.map
 obtain⟨col,v1,v2,v3,v6,v7,v8,hr⟩:=h.rd.close
 have hlow:=hr.low
 have htop:=hr.top
 have HR:=AA hr
 clear hcall hlv h hr
 go_enter func59,ntmps59
 go_wp2_with fail
 refine Es.out.mono ?_
 clear Es
 rintro e w1 ⟨A,rfl,hA,ho,hb1⟩
 have hw1:=KY ho hA (List.cons_ne_nil _ _) (by omega)
 have q0:w1.cell? ⟨A,0,none⟩=some (.string ⟨#[102,117,110,99]⟩):=hw1.at_ 0 _ rfl
 have hlt1:=hw1.lt
 have hbl:=HR.out.blk.lt
 have hsz1:=hb1.size
 have g8:w1.cell? ⟨b,8,none⟩=some (.int .i64 r.st):=(hb1.cell (p:=⟨b,8,none⟩) hbl).trans (HR.out.blk.cell 8)
 have Ie:w1.heap[M]?=some (.map JD 8):=(hb1.block M dM).trans R7.out
 have M6:=M5 (P:=prog) (W:=w1) (s:=⟨#[102,117,110,99]⟩) underlying108 underlying9 Ie (i:=5) (v:= .agg #[.int .i64 6,.func (.func 93) #[] #[]]) (by kernel_rfl)
 have HW1:=AA hw1;have HB1:=AA hb1
 rw [←RH.out]
 have Qw:(((⟨#[102,117,110,99]⟩:ByteArray)[0].toNat:Int)==59)=false:=by decide
 clear hn ho hb1 hw1 Ie hws hpos hwd
 go_wp2_with fail
 generalize hw2:World.alloc _ _=w2
 have I5:Below w1.heap.size w1 w2:=by rw [←hw2];exact(Below.refl _ _).alloc (Nat.le_refl _) _
 have hx2:AV w2 w1.heap.size 148 [.int .i64 6,.func (.func 93) #[] #[]]:=by rw [←hw2];exact AV.new w1 _ [.int .i64 6,.func (.func 93) #[] #[]]
 obtain⟨h6,TL⟩: ∃h6,h6=w1.heap.size:=⟨_,rfl⟩
 rw [←TL] at hx2⊢
 have dA:w.heap.size≤h6:=by omega
 have HB2:=AA (HB1.out.trans (I5.mono hsz1))
 have HW2:=AA (HW1.out.below I5)
 have x0:=hx2.q 0 rfl
 have x1:=hx2.q 1 rfl
 have y8:w2.cell? ⟨b,8,none⟩=some (.int .i64 r.st):=(HB2.out.cell (p:=⟨b,8,none⟩) hbl).trans (HR.out.blk.cell 8)
 have z8:=(HR.out.blk.below HB2.out hbl).frozen 8
 have RG:=AA hx2
 clear hw2 I5 hx2 TL g8 q0 M6 HW1 HB1
 have hbad:BD 6 r.st=false→Hid (Ai r (PV::t)=none∧Keep (fun k=>k<B∧k≠b) w w2.drew∧w2.drew.cell? ⟨b,9,none⟩=some (.int .i64 ln)):=fun hf=>
  AA ⟨by rw [VI.out,hf];rfl,((Keep.Am HB2.out).ER (fun k hk _=>hk)).drew,(HB2.out.cell (p:=⟨b,9,none⟩) hbl).trans (HR.out.blk.cell 9)⟩
 have hN0:((⟨#[102,117,110,99]⟩:ByteArray)[0].toNat:Int)=102:=by decide
 rw [hN0]
 clear Qw hN0
 by_cases hc:6<r.st
 case pos=>
  have HBAD:=hbad (by cases hb:BD 6 r.st with | false=>rfl | true=>exfalso;unfold BD at hb;simp at hb;omega)
  have d0:decide ((r.st:Int)≤6)=false:=decide_eq_false (by omega)
  clear hbad
  refine wp_region_held_drew (S:=fun W=>W.cell? ⟨h6,0,none⟩=some (.int .i64 6)∧W.cell? ⟨b,8,none⟩=some (.int .i64 r.st)) (by kernel_rfl) ⟨x0,y8⟩ (fun hHeld=> ?_)
  refine AB (i:=0) (v:= ?_) rfl (by kernel_rfl) (fun _ _ _ h=>h) (by intro w hSw;(try dsimp only at hSw);go_simp;try with_reducible rfl) hHeld ?_
  refine AB (i:=1) (v:= ?_) rfl (by kernel_rfl) (fun _ _ _ h=>h) (by intro w hSw;(try dsimp only at hSw);go_simp;try with_reducible rfl) hHeld ?_
  refine AB (i:=2) (v:= ?_) rfl (by kernel_rfl) (fun _ _ _ h=>h) (by intro w hSw;(try dsimp only at hSw);go_simp;try with_reducible rfl) hHeld ?_
  refine AB (i:=3) (v:= ?_) rfl (by kernel_rfl) (fun _ _ _ h=>h) (by intro w hSw;(try dsimp only at hSw);go_simp;try with_reducible rfl) hHeld ?_
  refine AB (i:=4) (v:= ?_) rfl (by kernel_rfl) (fun _ _ _ h=>h) (by intro w hSw;(try dsimp only at hSw);go_simp;try with_reducible rfl) hHeld ?_
  refine AB (i:=5) (v:= ?_) rfl (by kernel_rfl) (fun _ _ _ h=>h) (by intro w hSw;(try dsimp only at hSw);go_simp;try with_reducible rfl) hHeld ?_
  refine AB (i:=6) (v:= ?_) rfl (by kernel_rfl) (fun _ _ _ h=>h) (by intro w hSw;(try dsimp only at hSw);go_simp;try with_reducible rfl) hHeld ?_
  refine AB (i:=7) (v:= ?_) rfl (by kernel_rfl) (fun _ _ _ h=>h) (by intro w hSw;(try dsimp only at hSw);go_simp;try with_reducible rfl) hHeld ?_
  refine AJ (i:=8) rfl (by kernel_rfl) (fun _ _ _ h=>h) hHeld ?_
  refine AJ (i:=9) rfl (by kernel_rfl) (fun _ _ _ h=>h) hHeld ?_
  refine AJ (i:=10) rfl (by kernel_rfl) (fun _ _ _ h=>h) hHeld ?_
  refine AJ (i:=11) rfl (by kernel_rfl) (fun _ _ _ h=>h) hHeld ?_
  refine AJ (i:=12) rfl (by kernel_rfl) (fun _ _ _ h=>h) hHeld ?_
  refine AJ (i:=13) rfl (by kernel_rfl) (fun _ _ _ h=>h) hHeld ?_
  refine AJ (i:=14) rfl (by kernel_rfl) (fun _ _ _ h=>h) hHeld ?_
  refine AJ (i:=15) rfl (by kernel_rfl) (fun _ _ _ h=>h) hHeld ?_
  refine AJ (i:=16) rfl (by kernel_rfl) (fun _ _ _ h=>h) hHeld ?_
  refine AJ (i:=17) rfl (by kernel_rfl) (fun _ _ _ h=>h) hHeld ?_
  refine AJ (i:=18) rfl (by kernel_rfl) (fun _ _ _ h=>h) hHeld ?_
  refine AB (i:=19) (v:= ?_) rfl (by kernel_rfl) (fun _ _ _ h=>h) (by intro w hSw;(try dsimp only at hSw);go_simp;try with_reducible rfl) hHeld ?_
  refine wpAnyH_ready (rs:= [20]) (by kernel_rfl) (by simp) ?_
  refine AllReadyH.cons rfl (fun K hK=> ?_) AllReadyH.nil
  go_simp
  refine(AZ _).mono ?_
  rintro e w3 ⟨rfl,rfl⟩
  go_wp2_with fail
  exact⟨rfl,HBAD.out.2.1,.inl ⟨HBAD.out.1,rfl,HBAD.out.2.2⟩⟩
 by_cases hc:r.st=0
 case pos=>
  have HBAD:=hbad (by cases hb:BD 6 r.st with | false=>rfl | true=>exfalso;unfold BD at hb;simp at hb;omega)
  have d0:decide ((r.st:Int)≤6)=true:=decide_eq_true (by omega)
  have d1:((r.st:Int) !=0)=false:=by rw [bne_eq_false_iff_eq];omega
  clear hbad
  refine wp_region_held_drew (S:=fun W=>W.cell? ⟨h6,0,none⟩=some (.int .i64 6)∧W.cell? ⟨b,8,none⟩=some (.int .i64 r.st)) (by kernel_rfl) ⟨x0,y8⟩ (fun hHeld=> ?_)
  refine AB (i:=0) (v:= ?_) rfl (by kernel_rfl) (fun _ _ _ h=>h) (by intro w hSw;(try dsimp only at hSw);go_simp;try with_reducible rfl) hHeld ?_
  refine AB (i:=1) (v:= ?_) rfl (by kernel_rfl) (fun _ _ _ h=>h) (by intro w hSw;(try dsimp only at hSw);go_simp;try with_reducible rfl) hHeld ?_
  refine AB (i:=2) (v:= ?_) rfl (by kernel_rfl) (fun _ _ _ h=>h) (by intro w hSw;(try dsimp only at hSw);go_simp;try with_reducible rfl) hHeld ?_
  refine AB (i:=3) (v:= ?_) rfl (by kernel_rfl) (fun _ _ _ h=>h) (by intro w hSw;(try dsimp only at hSw);go_simp;try with_reducible rfl) hHeld ?_
  refine AB (i:=4) (v:= ?_) rfl (by kernel_rfl) (fun _ _ _ h=>h) (by intro w hSw;(try dsimp only at hSw);go_simp;try with_reducible rfl) hHeld ?_
  refine AB (i:=5) (v:= ?_) rfl (by kernel_rfl) (fun _ _ _ h=>h) (by intro w hSw;(try dsimp only at hSw);go_simp;try with_reducible rfl) hHeld ?_
  refine AB (i:=6) (v:= ?_) rfl (by kernel_rfl) (fun _ _ _ h=>h) (by intro w hSw;(try dsimp only at hSw);go_simp;try with_reducible rfl) hHeld ?_
  refine AB (i:=7) (v:= ?_) rfl (by kernel_rfl) (fun _ _ _ h=>h) (by intro w hSw;(try dsimp only at hSw);go_simp;try with_reducible rfl) hHeld ?_
  refine AB (i:=8) (v:= ?_) rfl (by kernel_rfl) (fun _ _ _ h=>h) (by intro w hSw;(try dsimp only at hSw);go_simp;try with_reducible rfl) hHeld ?_
  refine AB (i:=9) (v:= ?_) rfl (by kernel_rfl) (fun _ _ _ h=>h) (by intro w hSw;(try dsimp only at hSw);go_simp;try with_reducible rfl) hHeld ?_
  refine AB (i:=10) (v:= ?_) rfl (by kernel_rfl) (fun _ _ _ h=>h) (by intro w hSw;(try dsimp only at hSw);go_simp;try with_reducible rfl) hHeld ?_
  refine AJ (i:=11) rfl (by kernel_rfl) (fun _ _ _ h=>h) hHeld ?_
  refine AJ (i:=12) rfl (by kernel_rfl) (fun _ _ _ h=>h) hHeld ?_
  refine AJ (i:=13) rfl (by kernel_rfl) (fun _ _ _ h=>h) hHeld ?_
  refine AJ (i:=14) rfl (by kernel_rfl) (fun _ _ _ h=>h) hHeld ?_
  refine AJ (i:=15) rfl (by kernel_rfl) (fun _ _ _ h=>h) hHeld ?_
  refine AJ (i:=16) rfl (by kernel_rfl) (fun _ _ _ h=>h) hHeld ?_
  refine AJ (i:=17) rfl (by kernel_rfl) (fun _ _ _ h=>h) hHeld ?_
  refine AB (i:=18) (v:= ?_) rfl (by kernel_rfl) (fun _ _ _ h=>h) (by intro w hSw;(try dsimp only at hSw);go_simp;try with_reducible rfl) hHeld ?_
  refine AB (i:=19) (v:= ?_) rfl (by kernel_rfl) (fun _ _ _ h=>h) (by intro w hSw;(try dsimp only at hSw);go_simp;try with_reducible rfl) hHeld ?_
  refine wpAnyH_ready (rs:= [20]) (by kernel_rfl) (by simp) ?_
  refine AllReadyH.cons rfl (fun K hK=> ?_) AllReadyH.nil
  go_simp
  refine(AP _).mono ?_
  rintro e w3 ⟨rfl,rfl⟩
  refine hK.out _ _ ⟨x0,y8⟩ (fun AX=> ?_)
  clear hK K
  refine wpAnyH_done (by kernel_rfl) ?_ _
  clear hHeld AX
  go_wp2_with fail
  refine(AZ _).mono ?_
  rintro e w3 ⟨rfl,rfl⟩
  go_wp2_with fail
  exact⟨rfl,HBAD.out.2.1,.inl ⟨HBAD.out.1,rfl,HBAD.out.2.2⟩⟩
 by_cases hc:r.st<5
 case pos=>
  have HBAD:=hbad (by cases hb:BD 6 r.st with | false=>rfl | true=>exfalso;unfold BD at hb;simp at hb;omega)
  have d0:decide ((r.st:Int)≤6)=true:=decide_eq_true (by omega)
  have d1:((r.st:Int) !=0)=true:=by rw [bne_iff_ne];omega
  have d2:decide (5≤(r.st:Int))=false:=decide_eq_false (by omega)
  clear hbad
  refine wp_region_held_drew (S:=fun W=>W.cell? ⟨h6,0,none⟩=some (.int .i64 6)∧W.cell? ⟨b,8,none⟩=some (.int .i64 r.st)) (by kernel_rfl) ⟨x0,y8⟩ (fun hHeld=> ?_)
  refine AB (i:=0) (v:= ?_) rfl (by kernel_rfl) (fun _ _ _ h=>h) (by intro w hSw;(try dsimp only at hSw);go_simp;try with_reducible rfl) hHeld ?_
  refine AB (i:=1) (v:= ?_) rfl (by kernel_rfl) (fun _ _ _ h=>h) (by intro w hSw;(try dsimp only at hSw);go_simp;try with_reducible rfl) hHeld ?_
  refine AB (i:=2) (v:= ?_) rfl (by kernel_rfl) (fun _ _ _ h=>h) (by intro w hSw;(try dsimp only at hSw);go_simp;try with_reducible rfl) hHeld ?_
  refine AB (i:=3) (v:= ?_) rfl (by kernel_rfl) (fun _ _ _ h=>h) (by intro w hSw;(try dsimp only at hSw);go_simp;try with_reducible rfl) hHeld ?_
  refine AB (i:=4) (v:= ?_) rfl (by kernel_rfl) (fun _ _ _ h=>h) (by intro w hSw;(try dsimp only at hSw);go_simp;try with_reducible rfl) hHeld ?_
  refine AB (i:=5) (v:= ?_) rfl (by kernel_rfl) (fun _ _ _ h=>h) (by intro w hSw;(try dsimp only at hSw);go_simp;try with_reducible rfl) hHeld ?_
  refine AB (i:=6) (v:= ?_) rfl (by kernel_rfl) (fun _ _ _ h=>h) (by intro w hSw;(try dsimp only at hSw);go_simp;try with_reducible rfl) hHeld ?_
  refine AB (i:=7) (v:= ?_) rfl (by kernel_rfl) (fun _ _ _ h=>h) (by intro w hSw;(try dsimp only at hSw);go_simp;try with_reducible rfl) hHeld ?_
  refine AB (i:=8) (v:= ?_) rfl (by kernel_rfl) (fun _ _ _ h=>h) (by intro w hSw;(try dsimp only at hSw);go_simp;try with_reducible rfl) hHeld ?_
  refine AB (i:=9) (v:= ?_) rfl (by kernel_rfl) (fun _ _ _ h=>h) (by intro w hSw;(try dsimp only at hSw);go_simp;try with_reducible rfl) hHeld ?_
  refine AB (i:=10) (v:= ?_) rfl (by kernel_rfl) (fun _ _ _ h=>h) (by intro w hSw;(try dsimp only at hSw);go_simp;try with_reducible rfl) hHeld ?_
  refine AJ (i:=11) rfl (by kernel_rfl) (fun _ _ _ h=>h) hHeld ?_
  refine AJ (i:=12) rfl (by kernel_rfl) (fun _ _ _ h=>h) hHeld ?_
  refine AJ (i:=13) rfl (by kernel_rfl) (fun _ _ _ h=>h) hHeld ?_
  refine AJ (i:=14) rfl (by kernel_rfl) (fun _ _ _ h=>h) hHeld ?_
  refine AJ (i:=15) rfl (by kernel_rfl) (fun _ _ _ h=>h) hHeld ?_
  refine AJ (i:=16) rfl (by kernel_rfl) (fun _ _ _ h=>h) hHeld ?_
  refine AJ (i:=17) rfl (by kernel_rfl) (fun _ _ _ h=>h) hHeld ?_
  refine AB (i:=18) (v:= ?_) rfl (by kernel_rfl) (fun _ _ _ h=>h) (by intro w hSw;(try dsimp only at hSw);go_simp;try with_reducible rfl) hHeld ?_
  refine AB (i:=19) (v:= ?_) rfl (by kernel_rfl) (fun _ _ _ h=>h) (by intro w hSw;(try dsimp only at hSw);go_simp;try with_reducible rfl) hHeld ?_
  refine wpAnyH_ready (rs:= [20]) (by kernel_rfl) (by simp) ?_
  refine AllReadyH.cons rfl (fun K hK=> ?_) AllReadyH.nil
  go_simp
  refine(AP _).mono ?_
  rintro e w3 ⟨rfl,rfl⟩
  refine hK.out _ _ ⟨x0,y8⟩ (fun AX=> ?_)
  clear hK K
  refine wpAnyH_done (by kernel_rfl) ?_ _
  clear hHeld AX
  go_wp2_with fail
  refine(AP _).mono ?_
  rintro e w3 ⟨rfl,rfl⟩
  go_wp2_with fail
  refine(AZ _).mono ?_
  rintro e w3 ⟨rfl,rfl⟩
  go_wp2_with fail
  exact⟨rfl,HBAD.out.2.1,.inl ⟨HBAD.out.1,rfl,HBAD.out.2.2⟩⟩
 have d0:decide ((r.st:Int)≤6)=true:=decide_eq_true (by omega)
 have d1:((r.st:Int) !=0)=true:=by rw [bne_iff_ne];omega
 have d2:decide (5≤(r.st:Int))=true:=decide_eq_true (by omega)
 have XW:Hid (Ai r (PV::t)=(Ar 6 r.m t).map (fun m'=>(⟨m',6⟩:Nb))):=AA (by
  have ho:BD 6 r.st=true:=by
   cases hb:BD 6 r.st with
   | true=>rfl
   | false=>exfalso;unfold BD at hb;simp at hb;omega
  rw [VI.out,ho];rfl)
 clear hbad
 refine wp_region_held_drew (S:=fun W=>W.cell? ⟨h6,0,none⟩=some (.int .i64 6)∧W.cell? ⟨b,8,none⟩=some (.int .i64 r.st)) (by kernel_rfl) ⟨x0,y8⟩ (fun hHeld=> ?_)
 refine AB (i:=0) (v:= ?_) rfl (by kernel_rfl) (fun _ _ _ h=>h) (by intro w hSw;(try dsimp only at hSw);go_simp;try with_reducible rfl) hHeld ?_
 refine AB (i:=1) (v:= ?_) rfl (by kernel_rfl) (fun _ _ _ h=>h) (by intro w hSw;(try dsimp only at hSw);go_simp;try with_reducible rfl) hHeld ?_
 refine AB (i:=2) (v:= ?_) rfl (by kernel_rfl) (fun _ _ _ h=>h) (by intro w hSw;(try dsimp only at hSw);go_simp;try with_reducible rfl) hHeld ?_
 refine AB (i:=3) (v:= ?_) rfl (by kernel_rfl) (fun _ _ _ h=>h) (by intro w hSw;(try dsimp only at hSw);go_simp;try with_reducible rfl) hHeld ?_
 refine AB (i:=4) (v:= ?_) rfl (by kernel_rfl) (fun _ _ _ h=>h) (by intro w hSw;(try dsimp only at hSw);go_simp;try with_reducible rfl) hHeld ?_
 refine AB (i:=5) (v:= ?_) rfl (by kernel_rfl) (fun _ _ _ h=>h) (by intro w hSw;(try dsimp only at hSw);go_simp;try with_reducible rfl) hHeld ?_
 refine AB (i:=6) (v:= ?_) rfl (by kernel_rfl) (fun _ _ _ h=>h) (by intro w hSw;(try dsimp only at hSw);go_simp;try with_reducible rfl) hHeld ?_
 refine AB (i:=7) (v:= ?_) rfl (by kernel_rfl) (fun _ _ _ h=>h) (by intro w hSw;(try dsimp only at hSw);go_simp;try with_reducible rfl) hHeld ?_
 refine AB (i:=8) (v:= ?_) rfl (by kernel_rfl) (fun _ _ _ h=>h) (by intro w hSw;(try dsimp only at hSw);go_simp;try with_reducible rfl) hHeld ?_
 refine AB (i:=9) (v:= ?_) rfl (by kernel_rfl) (fun _ _ _ h=>h) (by intro w hSw;(try dsimp only at hSw);go_simp;try with_reducible rfl) hHeld ?_
 refine AB (i:=10) (v:= ?_) rfl (by kernel_rfl) (fun _ _ _ h=>h) (by intro w hSw;(try dsimp only at hSw);go_simp;try with_reducible rfl) hHeld ?_
 refine AJ (i:=11) rfl (by kernel_rfl) (fun _ _ _ h=>h) hHeld ?_
 refine AJ (i:=12) rfl (by kernel_rfl) (fun _ _ _ h=>h) hHeld ?_
 refine AJ (i:=13) rfl (by kernel_rfl) (fun _ _ _ h=>h) hHeld ?_
 refine AJ (i:=14) rfl (by kernel_rfl) (fun _ _ _ h=>h) hHeld ?_
 refine AJ (i:=15) rfl (by kernel_rfl) (fun _ _ _ h=>h) hHeld ?_
 refine AJ (i:=16) rfl (by kernel_rfl) (fun _ _ _ h=>h) hHeld ?_
 refine AJ (i:=17) rfl (by kernel_rfl) (fun _ _ _ h=>h) hHeld ?_
 refine AB (i:=18) (v:= ?_) rfl (by kernel_rfl) (fun _ _ _ h=>h) (by intro w hSw;(try dsimp only at hSw);go_simp;try with_reducible rfl) hHeld ?_
 refine AB (i:=19) (v:= ?_) rfl (by kernel_rfl) (fun _ _ _ h=>h) (by intro w hSw;(try dsimp only at hSw);go_simp;try with_reducible rfl) hHeld ?_
 refine wpAnyH_ready (rs:= [20]) (by kernel_rfl) (by simp) ?_
 refine AllReadyH.cons rfl (fun K hK=> ?_) AllReadyH.nil
 go_simp
 refine(AP _).mono ?_
 rintro e w3 ⟨rfl,rfl⟩
 refine hK.out _ _ ⟨x0,y8⟩ (fun AX=> ?_)
 clear hK K
 refine wpAnyH_done (by kernel_rfl) ?_ _
 clear hHeld AX
 go_wp2_with fail
 refine(AP _).mono ?_
 rintro e w3 ⟨rfl,rfl⟩
 go_wp2_with fail
 refine(AP _).mono ?_
 rintro e w3 ⟨rfl,rfl⟩
 go_upto_region 10 with fail
 have Un:QZ B b (w2.setCell ⟨b,8,none⟩ (.int .i64 (6:Nat))).drew _ v1 v2 v3 v6 v7 v8 r.m 6 ln:=((HR.out.below HB2.out).stage 6).below ((Below.refl _ _).drew)
 have hx5:AV (w2.setCell ⟨b,8,none⟩ (.int .i64 (6:Nat))).drew h6 148 [.int .i64 6,.func (.func 93) #[] #[]]:=(RG.out.far (p:=⟨b,8,none⟩) (by show h6≠b;omega) _).drewN 1
 have XY:Keep (fun k=>k<B∧k≠b) w (w2.setCell ⟨b,8,none⟩ (.int .i64 (6:Nat))).drew:=(((Keep.Am HB2.out).ER (fun k hk _=>hk)).setCell (p:=⟨b,8,none⟩) (fun e=>e.2 rfl) _).drew
 have XZ:En (w2.setCell ⟨b,8,none⟩ (.int .i64 (6:Nat))).drew A (PV::t):=(HW2.out.keep (K:=fun k=>k≠b) (((Keep.refl _ w2).setCell (p:=⟨b,8,none⟩) (fun e=>e rfl) _).drew) (by omega))
 have Xa:Dt hi (w2.setCell ⟨b,8,none⟩ (.int .i64 (6:Nat))).drew:=HI.out.env.to (((HB2.out.mono (show hi≤w.heap.size by omega)).setCell (p:=⟨b,8,none⟩) hhi _).drew)
 generalize World.drew (w2.setCell _ _)=w5 at*
 have x1:=hx5.q 1 rfl
 have Ra:=AA Un;have Rb:=AA XY;have iD:=AA XZ;have Zt:=AA Xa
 clear Un XY XZ Xa hx5 x0 y8 z8 RG HW2
 go_wp2_with fail
 rw [RH.out]
 refine(cO ⟨Ra.out,iD.out,Zt.out,hhi,HI.out.lens,by omega⟩ (List.cons_ne_nil _ _)).mono ?_
 rintro e w6 hm
 have hpost:Gw B b w ln (Ai r (PV::t)) e w6:=by
  rcases hm with⟨h1,h2,h3⟩ | ⟨m',h1,h2,h3,h4⟩
  ·refine⟨Rb.out.trans ((Keep.Am h3).ER (fun k hk _=>hk)),.inl ⟨?_,h2,(h3.cell (p:=⟨b,9,none⟩) Ra.out.blk.lt).trans (Ra.out.blk.cell 9)⟩⟩
   rw [XW.out];rw [List.tail_cons] at h1;rw [h1];rfl
  ·refine⟨Rb.out.trans h3,.inr ⟨⟨m',6⟩,?_,h2,?_⟩⟩
   ·rw [XW.out];rw [List.tail_cons] at h1;rw [h1];rfl
   ·exact .inr ⟨rfl,h4⟩
 have HP:=AA hpost
 rcases hm with⟨_,rfl,_⟩ | ⟨m',_,rfl,_,_⟩
 ·go_wp2_with fail
  exact⟨rfl,HP.out⟩
 ·go_wp2_with fail
  go_end0
  exact HP.out
theorem nL (h:qE B b hi M w r ln s) {t:List ByteArray} (hwd:EP s=PW::t):
 Calls prog 59 #[.pointer (some ⟨b,0,none⟩),.string s,.map (some M)] w (Gw B b w ln (Ai r (EP s))):=by
 have hcall:=Hq s (by have:=h.sz;omega) w
 obtain⟨hws,hpos⟩:=Ho s
 have hsz:=h.sz
 rw [hwd] at hcall hws⊢
 have hlv:Ai r (PW::t)=if BD 7 r.st=true then(Ar 7 r.m t).map (fun m'=>(⟨m',7⟩:Nb)) else none:=by
  have hk:EX PW=7:=by kernel_rfl
  unfold Ai
  simp only [hk]
  rw [if_neg (by decide)]
 have VI:=AA hlv
 have HI:=AA h
 have hz0:((((PW::t).length:Nat):Int)==0)=false:=by rw [beq_eq_false_iff_ne,List.length_cons];omega
 obtain⟨n,hn⟩: ∃n,n=(PW::t).length:=⟨_,rfl⟩
 rw [←hn] at hz0
 have hn0:0<n:=by rw [hn,List.length_cons];omega
 have RH:=AA hn
 have Es:=AA hcall
 have dM:=h.mlt
 have hhi:=h.hhi
 have R7:=AA h.map
 obtain⟨col,v1,v2,v3,v6,v7,v8,hr⟩:=h.rd.close
 have hlow:=hr.low
 have htop:=hr.top
 have HR:=AA hr
 clear hcall hlv h hr
 go_enter func59,ntmps59
 go_wp2_with fail
 refine Es.out.mono ?_
 clear Es
 rintro e w1 ⟨A,rfl,hA,ho,hb1⟩
 have hw1:=KY ho hA (List.cons_ne_nil _ _) (by omega)
 have q0:w1.cell? ⟨A,0,none⟩=some (.string ⟨#[100,97,116,97]⟩):=hw1.at_ 0 _ rfl
 have hlt1:=hw1.lt
 have hbl:=HR.out.blk.lt
 have hsz1:=hb1.size
 have g8:w1.cell? ⟨b,8,none⟩=some (.int .i64 r.st):=(hb1.cell (p:=⟨b,8,none⟩) hbl).trans (HR.out.blk.cell 8)
 have Ie:w1.heap[M]?=some (.map JD 8):=(hb1.block M dM).trans R7.out
 have M6:=M5 (P:=prog) (W:=w1) (s:=⟨#[100,97,116,97]⟩) underlying108 underlying9 Ie (i:=6) (v:= .agg #[.int .i64 7,.func (.func 94) #[] #[]]) (by kernel_rfl)
 have HW1:=AA hw1;have HB1:=AA hb1
 rw [←RH.out]
 have Qw:(((⟨#[100,97,116,97]⟩:ByteArray)[0].toNat:Int)==59)=false:=by decide
 clear hn ho hb1 hw1 Ie hws hpos hwd
 go_wp2_with fail
 generalize hw2:World.alloc _ _=w2
 have I5:Below w1.heap.size w1 w2:=by rw [←hw2];exact(Below.refl _ _).alloc (Nat.le_refl _) _
 have hx2:AV w2 w1.heap.size 148 [.int .i64 7,.func (.func 94) #[] #[]]:=by rw [←hw2];exact AV.new w1 _ [.int .i64 7,.func (.func 94) #[] #[]]
 obtain⟨h6,TL⟩: ∃h6,h6=w1.heap.size:=⟨_,rfl⟩
 rw [←TL] at hx2⊢
 have dA:w.heap.size≤h6:=by omega
 have HB2:=AA (HB1.out.trans (I5.mono hsz1))
 have HW2:=AA (HW1.out.below I5)
 have x0:=hx2.q 0 rfl
 have x1:=hx2.q 1 rfl
 have y8:w2.cell? ⟨b,8,none⟩=some (.int .i64 r.st):=(HB2.out.cell (p:=⟨b,8,none⟩) hbl).trans (HR.out.blk.cell 8)
 have z8:=(HR.out.blk.below HB2.out hbl).frozen 8
 have RG:=AA hx2
 clear hw2 I5 hx2 TL g8 q0 M6 HW1 HB1
 have hbad:BD 7 r.st=false→Hid (Ai r (PW::t)=none∧Keep (fun k=>k<B∧k≠b) w w2.drew∧w2.drew.cell? ⟨b,9,none⟩=some (.int .i64 ln)):=fun hf=>
  AA ⟨by rw [VI.out,hf];rfl,((Keep.Am HB2.out).ER (fun k hk _=>hk)).drew,(HB2.out.cell (p:=⟨b,9,none⟩) hbl).trans (HR.out.blk.cell 9)⟩
 have hN0:((⟨#[100,97,116,97]⟩:ByteArray)[0].toNat:Int)=100:=by decide
 rw [hN0]
 clear Qw hN0
 by_cases hc:7<r.st
 case pos=>
  have HBAD:=hbad (by cases hb:BD 7 r.st with | false=>rfl | true=>exfalso;unfold BD at hb;simp at hb;omega)
  have d0:decide ((r.st:Int)≤7)=false:=decide_eq_false (by omega)
  clear hbad
  refine wp_region_held_drew (S:=fun W=>W.cell? ⟨h6,0,none⟩=some (.int .i64 7)∧W.cell? ⟨b,8,none⟩=some (.int .i64 r.st)) (by kernel_rfl) ⟨x0,y8⟩ (fun hHeld=> ?_)
  refine AB (i:=0) (v:= ?_) rfl (by kernel_rfl) (fun _ _ _ h=>h) (by intro w hSw;(try dsimp only at hSw);go_simp;try with_reducible rfl) hHeld ?_
  refine AB (i:=1) (v:= ?_) rfl (by kernel_rfl) (fun _ _ _ h=>h) (by intro w hSw;(try dsimp only at hSw);go_simp;try with_reducible rfl) hHeld ?_
  refine AB (i:=2) (v:= ?_) rfl (by kernel_rfl) (fun _ _ _ h=>h) (by intro w hSw;(try dsimp only at hSw);go_simp;try with_reducible rfl) hHeld ?_
  refine AB (i:=3) (v:= ?_) rfl (by kernel_rfl) (fun _ _ _ h=>h) (by intro w hSw;(try dsimp only at hSw);go_simp;try with_reducible rfl) hHeld ?_
  refine AB (i:=4) (v:= ?_) rfl (by kernel_rfl) (fun _ _ _ h=>h) (by intro w hSw;(try dsimp only at hSw);go_simp;try with_reducible rfl) hHeld ?_
  refine AB (i:=5) (v:= ?_) rfl (by kernel_rfl) (fun _ _ _ h=>h) (by intro w hSw;(try dsimp only at hSw);go_simp;try with_reducible rfl) hHeld ?_
  refine AB (i:=6) (v:= ?_) rfl (by kernel_rfl) (fun _ _ _ h=>h) (by intro w hSw;(try dsimp only at hSw);go_simp;try with_reducible rfl) hHeld ?_
  refine AB (i:=7) (v:= ?_) rfl (by kernel_rfl) (fun _ _ _ h=>h) (by intro w hSw;(try dsimp only at hSw);go_simp;try with_reducible rfl) hHeld ?_
  refine AJ (i:=8) rfl (by kernel_rfl) (fun _ _ _ h=>h) hHeld ?_
  refine AJ (i:=9) rfl (by kernel_rfl) (fun _ _ _ h=>h) hHeld ?_
  refine AJ (i:=10) rfl (by kernel_rfl) (fun _ _ _ h=>h) hHeld ?_
  refine AJ (i:=11) rfl (by kernel_rfl) (fun _ _ _ h=>h) hHeld ?_
  refine AJ (i:=12) rfl (by kernel_rfl) (fun _ _ _ h=>h) hHeld ?_
  refine AJ (i:=13) rfl (by kernel_rfl) (fun _ _ _ h=>h) hHeld ?_
  refine AJ (i:=14) rfl (by kernel_rfl) (fun _ _ _ h=>h) hHeld ?_
  refine AJ (i:=15) rfl (by kernel_rfl) (fun _ _ _ h=>h) hHeld ?_
  refine AJ (i:=16) rfl (by kernel_rfl) (fun _ _ _ h=>h) hHeld ?_
  refine AJ (i:=17) rfl (by kernel_rfl) (fun _ _ _ h=>h) hHeld ?_
  refine AJ (i:=18) rfl (by kernel_rfl) (fun _ _ _ h=>h) hHeld ?_
  refine AB (i:=19) (v:= ?_) rfl (by kernel_rfl) (fun _ _ _ h=>h) (by intro w hSw;(try dsimp only at hSw);go_simp;try with_reducible rfl) hHeld ?_
  refine wpAnyH_ready (rs:= [20]) (by kernel_rfl) (by simp) ?_
  refine AllReadyH.cons rfl (fun K hK=> ?_) AllReadyH.nil
  go_simp
  refine(AZ _).mono ?_
  rintro e w3 ⟨rfl,rfl⟩
  go_wp2_with fail
  exact⟨rfl,HBAD.out.2.1,.inl ⟨HBAD.out.1,rfl,HBAD.out.2.2⟩⟩
 by_cases hc:r.st=0
 case pos=>
  have HBAD:=hbad (by cases hb:BD 7 r.st with | false=>rfl | true=>exfalso;unfold BD at hb;simp at hb;omega)
  have d0:decide ((r.st:Int)≤7)=true:=decide_eq_true (by omega)
  have d1:((r.st:Int) !=0)=false:=by rw [bne_eq_false_iff_eq];omega
  clear hbad
  refine wp_region_held_drew (S:=fun W=>W.cell? ⟨h6,0,none⟩=some (.int .i64 7)∧W.cell? ⟨b,8,none⟩=some (.int .i64 r.st)) (by kernel_rfl) ⟨x0,y8⟩ (fun hHeld=> ?_)
  refine AB (i:=0) (v:= ?_) rfl (by kernel_rfl) (fun _ _ _ h=>h) (by intro w hSw;(try dsimp only at hSw);go_simp;try with_reducible rfl) hHeld ?_
  refine AB (i:=1) (v:= ?_) rfl (by kernel_rfl) (fun _ _ _ h=>h) (by intro w hSw;(try dsimp only at hSw);go_simp;try with_reducible rfl) hHeld ?_
  refine AB (i:=2) (v:= ?_) rfl (by kernel_rfl) (fun _ _ _ h=>h) (by intro w hSw;(try dsimp only at hSw);go_simp;try with_reducible rfl) hHeld ?_
  refine AB (i:=3) (v:= ?_) rfl (by kernel_rfl) (fun _ _ _ h=>h) (by intro w hSw;(try dsimp only at hSw);go_simp;try with_reducible rfl) hHeld ?_
  refine AB (i:=4) (v:= ?_) rfl (by kernel_rfl) (fun _ _ _ h=>h) (by intro w hSw;(try dsimp only at hSw);go_simp;try with_reducible rfl) hHeld ?_
  refine AB (i:=5) (v:= ?_) rfl (by kernel_rfl) (fun _ _ _ h=>h) (by intro w hSw;(try dsimp only at hSw);go_simp;try with_reducible rfl) hHeld ?_
  refine AB (i:=6) (v:= ?_) rfl (by kernel_rfl) (fun _ _ _ h=>h) (by intro w hSw;(try dsimp only at hSw);go_simp;try with_reducible rfl) hHeld ?_
  refine AB (i:=7) (v:= ?_) rfl (by kernel_rfl) (fun _ _ _ h=>h) (by intro w hSw;(try dsimp only at hSw);go_simp;try with_reducible rfl) hHeld ?_
  refine AB (i:=8) (v:= ?_) rfl (by kernel_rfl) (fun _ _ _ h=>h) (by intro w hSw;(try dsimp only at hSw);go_simp;try with_reducible rfl) hHeld ?_
  refine AB (i:=9) (v:= ?_) rfl (by kernel_rfl) (fun _ _ _ h=>h) (by intro w hSw;(try dsimp only at hSw);go_simp;try with_reducible rfl) hHeld ?_
  refine AB (i:=10) (v:= ?_) rfl (by kernel_rfl) (fun _ _ _ h=>h) (by intro w hSw;(try dsimp only at hSw);go_simp;try with_reducible rfl) hHeld ?_
  refine AJ (i:=11) rfl (by kernel_rfl) (fun _ _ _ h=>h) hHeld ?_
  refine AJ (i:=12) rfl (by kernel_rfl) (fun _ _ _ h=>h) hHeld ?_
  refine AJ (i:=13) rfl (by kernel_rfl) (fun _ _ _ h=>h) hHeld ?_
  refine AJ (i:=14) rfl (by kernel_rfl) (fun _ _ _ h=>h) hHeld ?_
  refine AJ (i:=15) rfl (by kernel_rfl) (fun _ _ _ h=>h) hHeld ?_
  refine AJ (i:=16) rfl (by kernel_rfl) (fun _ _ _ h=>h) hHeld ?_
  refine AJ (i:=17) rfl (by kernel_rfl) (fun _ _ _ h=>h) hHeld ?_
  refine AB (i:=18) (v:= ?_) rfl (by kernel_rfl) (fun _ _ _ h=>h) (by intro w hSw;(try dsimp only at hSw);go_simp;try with_reducible rfl) hHeld ?_
  refine AB (i:=19) (v:= ?_) rfl (by kernel_rfl) (fun _ _ _ h=>h) (by intro w hSw;(try dsimp only at hSw);go_simp;try with_reducible rfl) hHeld ?_
  refine wpAnyH_ready (rs:= [20]) (by kernel_rfl) (by simp) ?_
  refine AllReadyH.cons rfl (fun K hK=> ?_) AllReadyH.nil
  go_simp
  refine(AP _).mono ?_
  rintro e w3 ⟨rfl,rfl⟩
  refine hK.out _ _ ⟨x0,y8⟩ (fun AX=> ?_)
  clear hK K
  refine wpAnyH_done (by kernel_rfl) ?_ _
  clear hHeld AX
  go_wp2_with fail
  refine(AZ _).mono ?_
  rintro e w3 ⟨rfl,rfl⟩
  go_wp2_with fail
  exact⟨rfl,HBAD.out.2.1,.inl ⟨HBAD.out.1,rfl,HBAD.out.2.2⟩⟩
 by_cases hc:r.st<5
 case pos=>
  have HBAD:=hbad (by cases hb:BD 7 r.st with | false=>rfl | true=>exfalso;unfold BD at hb;simp at hb;omega)
  have d0:decide ((r.st:Int)≤7)=true:=decide_eq_true (by omega)
  have d1:((r.st:Int) !=0)=true:=by rw [bne_iff_ne];omega
  have d2:decide (5≤(r.st:Int))=false:=decide_eq_false (by omega)
  clear hbad
  refine wp_region_held_drew (S:=fun W=>W.cell? ⟨h6,0,none⟩=some (.int .i64 7)∧W.cell? ⟨b,8,none⟩=some (.int .i64 r.st)) (by kernel_rfl) ⟨x0,y8⟩ (fun hHeld=> ?_)
  refine AB (i:=0) (v:= ?_) rfl (by kernel_rfl) (fun _ _ _ h=>h) (by intro w hSw;(try dsimp only at hSw);go_simp;try with_reducible rfl) hHeld ?_
  refine AB (i:=1) (v:= ?_) rfl (by kernel_rfl) (fun _ _ _ h=>h) (by intro w hSw;(try dsimp only at hSw);go_simp;try with_reducible rfl) hHeld ?_
  refine AB (i:=2) (v:= ?_) rfl (by kernel_rfl) (fun _ _ _ h=>h) (by intro w hSw;(try dsimp only at hSw);go_simp;try with_reducible rfl) hHeld ?_
  refine AB (i:=3) (v:= ?_) rfl (by kernel_rfl) (fun _ _ _ h=>h) (by intro w hSw;(try dsimp only at hSw);go_simp;try with_reducible rfl) hHeld ?_
  refine AB (i:=4) (v:= ?_) rfl (by kernel_rfl) (fun _ _ _ h=>h) (by intro w hSw;(try dsimp only at hSw);go_simp;try with_reducible rfl) hHeld ?_
  refine AB (i:=5) (v:= ?_) rfl (by kernel_rfl) (fun _ _ _ h=>h) (by intro w hSw;(try dsimp only at hSw);go_simp;try with_reducible rfl) hHeld ?_
  refine AB (i:=6) (v:= ?_) rfl (by kernel_rfl) (fun _ _ _ h=>h) (by intro w hSw;(try dsimp only at hSw);go_simp;try with_reducible rfl) hHeld ?_
  refine AB (i:=7) (v:= ?_) rfl (by kernel_rfl) (fun _ _ _ h=>h) (by intro w hSw;(try dsimp only at hSw);go_simp;try with_reducible rfl) hHeld ?_
  refine AB (i:=8) (v:= ?_) rfl (by kernel_rfl) (fun _ _ _ h=>h) (by intro w hSw;(try dsimp only at hSw);go_simp;try with_reducible rfl) hHeld ?_
  refine AB (i:=9) (v:= ?_) rfl (by kernel_rfl) (fun _ _ _ h=>h) (by intro w hSw;(try dsimp only at hSw);go_simp;try with_reducible rfl) hHeld ?_
  refine AB (i:=10) (v:= ?_) rfl (by kernel_rfl) (fun _ _ _ h=>h) (by intro w hSw;(try dsimp only at hSw);go_simp;try with_reducible rfl) hHeld ?_
  refine AJ (i:=11) rfl (by kernel_rfl) (fun _ _ _ h=>h) hHeld ?_
  refine AJ (i:=12) rfl (by kernel_rfl) (fun _ _ _ h=>h) hHeld ?_
  refine AJ (i:=13) rfl (by kernel_rfl) (fun _ _ _ h=>h) hHeld ?_
  refine AJ (i:=14) rfl (by kernel_rfl) (fun _ _ _ h=>h) hHeld ?_
  refine AJ (i:=15) rfl (by kernel_rfl) (fun _ _ _ h=>h) hHeld ?_
  refine AJ (i:=16) rfl (by kernel_rfl) (fun _ _ _ h=>h) hHeld ?_
  refine AJ (i:=17) rfl (by kernel_rfl) (fun _ _ _ h=>h) hHeld ?_
  refine AB (i:=18) (v:= ?_) rfl (by kernel_rfl) (fun _ _ _ h=>h) (by intro w hSw;(try dsimp only at hSw);go_simp;try with_reducible rfl) hHeld ?_
  refine AB (i:=19) (v:= ?_) rfl (by kernel_rfl) (fun _ _ _ h=>h) (by intro w hSw;(try dsimp only at hSw);go_simp;try with_reducible rfl) hHeld ?_
  refine wpAnyH_ready (rs:= [20]) (by kernel_rfl) (by simp) ?_
  refine AllReadyH.cons rfl (fun K hK=> ?_) AllReadyH.nil
  go_simp
  refine(AP _).mono ?_
  rintro e w3 ⟨rfl,rfl⟩
  refine hK.out _ _ ⟨x0,y8⟩ (fun AX=> ?_)
  clear hK K
  refine wpAnyH_done (by kernel_rfl) ?_ _
  clear hHeld AX
  go_wp2_with fail
  refine(AP _).mono ?_
  rintro e w3 ⟨rfl,rfl⟩
  go_wp2_with fail
  refine(AZ _).mono ?_
  rintro e w3 ⟨rfl,rfl⟩
  go_wp2_with fail
  exact⟨rfl,HBAD.out.2.1,.inl ⟨HBAD.out.1,rfl,HBAD.out.2.2⟩⟩
 have d0:decide ((r.st:Int)≤7)=true:=decide_eq_true (by omega)
 have d1:((r.st:Int) !=0)=true:=by rw [bne_iff_ne];omega
 have d2:decide (5≤(r.st:Int))=true:=decide_eq_true (by omega)
 have XW:Hid (Ai r (PW::t)=(Ar 7 r.m t).map (fun m'=>(⟨m',7⟩:Nb))):=AA (by
  have ho:BD 7 r.st=true:=by
   cases hb:BD 7 r.st with
   | true=>rfl
   | false=>exfalso;unfold BD at hb;simp at hb;omega
  rw [VI.out,ho];rfl)
 clear hbad
 refine wp_region_held_drew (S:=fun W=>W.cell? ⟨h6,0,none⟩=some (.int .i64 7)∧W.cell? ⟨b,8,none⟩=some (.int .i64 r.st)) (by kernel_rfl) ⟨x0,y8⟩ (fun hHeld=> ?_)
 refine AB (i:=0) (v:= ?_) rfl (by kernel_rfl) (fun _ _ _ h=>h) (by intro w hSw;(try dsimp only at hSw);go_simp;try with_reducible rfl) hHeld ?_
 refine AB (i:=1) (v:= ?_) rfl (by kernel_rfl) (fun _ _ _ h=>h) (by intro w hSw;(try dsimp only at hSw);go_simp;try with_reducible rfl) hHeld ?_
 refine AB (i:=2) (v:= ?_) rfl (by kernel_rfl) (fun _ _ _ h=>h) (by intro w hSw;(try dsimp only at hSw);go_simp;try with_reducible rfl) hHeld ?_
 refine AB (i:=3) (v:= ?_) rfl (by kernel_rfl) (fun _ _ _ h=>h) (by intro w hSw;(try dsimp only at hSw);go_simp;try with_reducible rfl) hHeld ?_
 refine AB (i:=4) (v:= ?_) rfl (by kernel_rfl) (fun _ _ _ h=>h) (by intro w hSw;(try dsimp only at hSw);go_simp;try with_reducible rfl) hHeld ?_
 refine AB (i:=5) (v:= ?_) rfl (by kernel_rfl) (fun _ _ _ h=>h) (by intro w hSw;(try dsimp only at hSw);go_simp;try with_reducible rfl) hHeld ?_
 refine AB (i:=6) (v:= ?_) rfl (by kernel_rfl) (fun _ _ _ h=>h) (by intro w hSw;(try dsimp only at hSw);go_simp;try with_reducible rfl) hHeld ?_
 refine AB (i:=7) (v:= ?_) rfl (by kernel_rfl) (fun _ _ _ h=>h) (by intro w hSw;(try dsimp only at hSw);go_simp;try with_reducible rfl) hHeld ?_
 refine AB (i:=8) (v:= ?_) rfl (by kernel_rfl) (fun _ _ _ h=>h) (by intro w hSw;(try dsimp only at hSw);go_simp;try with_reducible rfl) hHeld ?_
 refine AB (i:=9) (v:= ?_) rfl (by kernel_rfl) (fun _ _ _ h=>h) (by intro w hSw;(try dsimp only at hSw);go_simp;try with_reducible rfl) hHeld ?_
 refine AB (i:=10) (v:= ?_) rfl (by kernel_rfl) (fun _ _ _ h=>h) (by intro w hSw;(try dsimp only at hSw);go_simp;try with_reducible rfl) hHeld ?_
 refine AJ (i:=11) rfl (by kernel_rfl) (fun _ _ _ h=>h) hHeld ?_
 refine AJ (i:=12) rfl (by kernel_rfl) (fun _ _ _ h=>h) hHeld ?_
 refine AJ (i:=13) rfl (by kernel_rfl) (fun _ _ _ h=>h) hHeld ?_
 refine AJ (i:=14) rfl (by kernel_rfl) (fun _ _ _ h=>h) hHeld ?_
 refine AJ (i:=15) rfl (by kernel_rfl) (fun _ _ _ h=>h) hHeld ?_
 refine AJ (i:=16) rfl (by kernel_rfl) (fun _ _ _ h=>h) hHeld ?_
 refine AJ (i:=17) rfl (by kernel_rfl) (fun _ _ _ h=>h) hHeld ?_
 refine AB (i:=18) (v:= ?_) rfl (by kernel_rfl) (fun _ _ _ h=>h) (by intro w hSw;(try dsimp only at hSw);go_simp;try with_reducible rfl) hHeld ?_
 refine AB (i:=19) (v:= ?_) rfl (by kernel_rfl) (fun _ _ _ h=>h) (by intro w hSw;(try dsimp only at hSw);go_simp;try with_reducible rfl) hHeld ?_
 refine wpAnyH_ready (rs:= [20]) (by kernel_rfl) (by simp) ?_
 refine AllReadyH.cons rfl (fun K hK=> ?_) AllReadyH.nil
 go_simp
 refine(AP _).mono ?_
 rintro e w3 ⟨rfl,rfl⟩
 refine hK.out _ _ ⟨x0,y8⟩ (fun AX=> ?_)
 clear hK K
 refine wpAnyH_done (by kernel_rfl) ?_ _
 clear hHeld AX
 go_wp2_with fail
 refine(AP _).mono ?_
 rintro e w3 ⟨rfl,rfl⟩
 go_wp2_with fail
 refine(AP _).mono ?_
 rintro e w3 ⟨rfl,rfl⟩
 go_upto_region 10 with fail
 have Un:QZ B b (w2.setCell ⟨b,8,none⟩ (.int .i64 (7:Nat))).drew _ v1 v2 v3 v6 v7 v8 r.m 7 ln:=((HR.out.below HB2.out).stage 7).below ((Below.refl _ _).drew)
 have hx5:AV (w2.setCell ⟨b,8,none⟩ (.int .i64 (7:Nat))).drew h6 148 [.int .i64 7,.func (.func 94) #[] #[]]:=(RG.out.far (p:=⟨b,8,none⟩) (by show h6≠b;omega) _).drewN 1
 have XY:Keep (fun k=>k<B∧k≠b) w (w2.setCell ⟨b,8,none⟩ (.int .i64 (7:Nat))).drew:=(((Keep.Am HB2.out).ER (fun k hk _=>hk)).setCell (p:=⟨b,8,none⟩) (fun e=>e.2 rfl) _).drew
 have XZ:En (w2.setCell ⟨b,8,none⟩ (.int .i64 (7:Nat))).drew A (PW::t):=(HW2.out.keep (K:=fun k=>k≠b) (((Keep.refl _ w2).setCell (p:=⟨b,8,none⟩) (fun e=>e rfl) _).drew) (by omega))
 have Xa:Dt hi (w2.setCell ⟨b,8,none⟩ (.int .i64 (7:Nat))).drew:=HI.out.env.to (((HB2.out.mono (show hi≤w.heap.size by omega)).setCell (p:=⟨b,8,none⟩) hhi _).drew)
 generalize World.drew (w2.setCell _ _)=w5 at*
 have x1:=hx5.q 1 rfl
 have Ra:=AA Un;have Rb:=AA XY;have iD:=AA XZ;have Zt:=AA Xa
 clear Un XY XZ Xa hx5 x0 y8 z8 RG HW2
 go_wp2_with fail
 rw [RH.out]
 refine(yY ⟨Ra.out,iD.out,Zt.out,hhi,HI.out.lens,by omega⟩ (List.cons_ne_nil _ _)).mono ?_
 rintro e w6 hm
 have hpost:Gw B b w ln (Ai r (PW::t)) e w6:=by
  rcases hm with⟨h1,h2,h3⟩ | ⟨m',h1,h2,h3,h4⟩
  ·refine⟨Rb.out.trans ((Keep.Am h3).ER (fun k hk _=>hk)),.inl ⟨?_,h2,(h3.cell (p:=⟨b,9,none⟩) Ra.out.blk.lt).trans (Ra.out.blk.cell 9)⟩⟩
   rw [XW.out];rw [List.tail_cons] at h1;rw [h1];rfl
  ·refine⟨Rb.out.trans h3,.inr ⟨⟨m',7⟩,?_,h2,?_⟩⟩
   ·rw [XW.out];rw [List.tail_cons] at h1;rw [h1];rfl
   ·exact .inl ⟨(show(7:Nat)≠6 by decide),h4⟩
 have HP:=AA hpost
 rcases hm with⟨_,rfl,_⟩ | ⟨m',_,rfl,_,_⟩
 ·go_wp2_with fail
  exact⟨rfl,HP.out⟩
 ·go_wp2_with fail
  go_end0
  exact HP.out
theorem nM (h:qE B b hi M w r ln s) {t:List ByteArray} (hwd:EP s=Jm::t):
 Calls prog 59 #[.pointer (some ⟨b,0,none⟩),.string s,.map (some M)] w (Gw B b w ln (Ai r (EP s))):=by
 have hcall:=Hq s (by have:=h.sz;omega) w
 obtain⟨hws,hpos⟩:=Ho s
 have hsz:=h.sz
 rw [hwd] at hcall hws⊢
 have hlv:Ai r (Jm::t)=if BD 8 r.st=true then(Ar 8 r.m t).map (fun m'=>(⟨m',8⟩:Nb)) else none:=by
  have hk:EX Jm=8:=by kernel_rfl
  unfold Ai
  simp only [hk]
  rw [if_neg (by decide)]
 have VI:=AA hlv
 have HI:=AA h
 have hz0:((((Jm::t).length:Nat):Int)==0)=false:=by rw [beq_eq_false_iff_ne,List.length_cons];omega
 obtain⟨n,hn⟩: ∃n,n=(Jm::t).length:=⟨_,rfl⟩
 rw [←hn] at hz0
 have hn0:0<n:=by rw [hn,List.length_cons];omega
 have RH:=AA hn
 have Es:=AA hcall
 have dM:=h.mlt
 have hhi:=h.hhi
 have R7:=AA h.map
 obtain⟨col,v1,v2,v3,v6,v7,v8,hr⟩:=h.rd.close
 have hlow:=hr.low
 have htop:=hr.top
 have HR:=AA hr
 clear hcall hlv h hr
 go_enter func59,ntmps59
 go_wp2_with fail
 refine Es.out.mono ?_
 clear Es
 rintro e w1 ⟨A,rfl,hA,ho,hb1⟩
 have hw1:=KY ho hA (List.cons_ne_nil _ _) (by omega)
 have q0:w1.cell? ⟨A,0,none⟩=some (.string ⟨#[101,120,112,111,114,116]⟩):=hw1.at_ 0 _ rfl
 have hlt1:=hw1.lt
 have hbl:=HR.out.blk.lt
 have hsz1:=hb1.size
 have g8:w1.cell? ⟨b,8,none⟩=some (.int .i64 r.st):=(hb1.cell (p:=⟨b,8,none⟩) hbl).trans (HR.out.blk.cell 8)
 have Ie:w1.heap[M]?=some (.map JD 8):=(hb1.block M dM).trans R7.out
 have M6:=M5 (P:=prog) (W:=w1) (s:=⟨#[101,120,112,111,114,116]⟩) underlying108 underlying9 Ie (i:=7) (v:= .agg #[.int .i64 8,.func (.func 95) #[] #[]]) (by kernel_rfl)
 have HW1:=AA hw1;have HB1:=AA hb1
 rw [←RH.out]
 have Qw:(((⟨#[101,120,112,111,114,116]⟩:ByteArray)[0].toNat:Int)==59)=false:=by decide
 clear hn ho hb1 hw1 Ie hws hpos hwd
 go_wp2_with fail
 generalize hw2:World.alloc _ _=w2
 have I5:Below w1.heap.size w1 w2:=by rw [←hw2];exact(Below.refl _ _).alloc (Nat.le_refl _) _
 have hx2:AV w2 w1.heap.size 148 [.int .i64 8,.func (.func 95) #[] #[]]:=by rw [←hw2];exact AV.new w1 _ [.int .i64 8,.func (.func 95) #[] #[]]
 obtain⟨h6,TL⟩: ∃h6,h6=w1.heap.size:=⟨_,rfl⟩
 rw [←TL] at hx2⊢
 have dA:w.heap.size≤h6:=by omega
 have HB2:=AA (HB1.out.trans (I5.mono hsz1))
 have HW2:=AA (HW1.out.below I5)
 have x0:=hx2.q 0 rfl
 have x1:=hx2.q 1 rfl
 have y8:w2.cell? ⟨b,8,none⟩=some (.int .i64 r.st):=(HB2.out.cell (p:=⟨b,8,none⟩) hbl).trans (HR.out.blk.cell 8)
 have z8:=(HR.out.blk.below HB2.out hbl).frozen 8
 have RG:=AA hx2
 clear hw2 I5 hx2 TL g8 q0 M6 HW1 HB1
 have hbad:BD 8 r.st=false→Hid (Ai r (Jm::t)=none∧Keep (fun k=>k<B∧k≠b) w w2.drew∧w2.drew.cell? ⟨b,9,none⟩=some (.int .i64 ln)):=fun hf=>
  AA ⟨by rw [VI.out,hf];rfl,((Keep.Am HB2.out).ER (fun k hk _=>hk)).drew,(HB2.out.cell (p:=⟨b,9,none⟩) hbl).trans (HR.out.blk.cell 9)⟩
 have hN0:((⟨#[101,120,112,111,114,116]⟩:ByteArray)[0].toNat:Int)=101:=by decide
 rw [hN0]
 clear Qw hN0
 by_cases hc:8<r.st
 case pos=>
  have HBAD:=hbad (by cases hb:BD 8 r.st with | false=>rfl | true=>exfalso;unfold BD at hb;simp at hb;omega)
  have d0:decide ((r.st:Int)≤8)=false:=decide_eq_false (by omega)
  clear hbad
  refine wp_region_held_drew (S:=fun W=>W.cell? ⟨h6,0,none⟩=some (.int .i64 8)∧W.cell? ⟨b,8,none⟩=some (.int .i64 r.st)) (by kernel_rfl) ⟨x0,y8⟩ (fun hHeld=> ?_)
  refine AB (i:=0) (v:= ?_) rfl (by kernel_rfl) (fun _ _ _ h=>h) (by intro w hSw;(try dsimp only at hSw);go_simp;try with_reducible rfl) hHeld ?_
  refine AB (i:=1) (v:= ?_) rfl (by kernel_rfl) (fun _ _ _ h=>h) (by intro w hSw;(try dsimp only at hSw);go_simp;try with_reducible rfl) hHeld ?_
  refine AB (i:=2) (v:= ?_) rfl (by kernel_rfl) (fun _ _ _ h=>h) (by intro w hSw;(try dsimp only at hSw);go_simp;try with_reducible rfl) hHeld ?_
  refine AB (i:=3) (v:= ?_) rfl (by kernel_rfl) (fun _ _ _ h=>h) (by intro w hSw;(try dsimp only at hSw);go_simp;try with_reducible rfl) hHeld ?_
  refine AB (i:=4) (v:= ?_) rfl (by kernel_rfl) (fun _ _ _ h=>h) (by intro w hSw;(try dsimp only at hSw);go_simp;try with_reducible rfl) hHeld ?_
  refine AB (i:=5) (v:= ?_) rfl (by kernel_rfl) (fun _ _ _ h=>h) (by intro w hSw;(try dsimp only at hSw);go_simp;try with_reducible rfl) hHeld ?_
  refine AB (i:=6) (v:= ?_) rfl (by kernel_rfl) (fun _ _ _ h=>h) (by intro w hSw;(try dsimp only at hSw);go_simp;try with_reducible rfl) hHeld ?_
  refine AB (i:=7) (v:= ?_) rfl (by kernel_rfl) (fun _ _ _ h=>h) (by intro w hSw;(try dsimp only at hSw);go_simp;try with_reducible rfl) hHeld ?_
  refine AJ (i:=8) rfl (by kernel_rfl) (fun _ _ _ h=>h) hHeld ?_
  refine AJ (i:=9) rfl (by kernel_rfl) (fun _ _ _ h=>h) hHeld ?_
  refine AJ (i:=10) rfl (by kernel_rfl) (fun _ _ _ h=>h) hHeld ?_
  refine AJ (i:=11) rfl (by kernel_rfl) (fun _ _ _ h=>h) hHeld ?_
  refine AJ (i:=12) rfl (by kernel_rfl) (fun _ _ _ h=>h) hHeld ?_
  refine AJ (i:=13) rfl (by kernel_rfl) (fun _ _ _ h=>h) hHeld ?_
  refine AJ (i:=14) rfl (by kernel_rfl) (fun _ _ _ h=>h) hHeld ?_
  refine AJ (i:=15) rfl (by kernel_rfl) (fun _ _ _ h=>h) hHeld ?_
  refine AJ (i:=16) rfl (by kernel_rfl) (fun _ _ _ h=>h) hHeld ?_
  refine AJ (i:=17) rfl (by kernel_rfl) (fun _ _ _ h=>h) hHeld ?_
  refine AJ (i:=18) rfl (by kernel_rfl) (fun _ _ _ h=>h) hHeld ?_
  refine AB (i:=19) (v:= ?_) rfl (by kernel_rfl) (fun _ _ _ h=>h) (by intro w hSw;(try dsimp only at hSw);go_simp;try with_reducible rfl) hHeld ?_
  refine wpAnyH_ready (rs:= [20]) (by kernel_rfl) (by simp) ?_
  refine AllReadyH.cons rfl (fun K hK=> ?_) AllReadyH.nil
  go_simp
  refine(AZ _).mono ?_
  rintro e w3 ⟨rfl,rfl⟩
  go_wp2_with fail
  exact⟨rfl,HBAD.out.2.1,.inl ⟨HBAD.out.1,rfl,HBAD.out.2.2⟩⟩
 by_cases hc:r.st=0
 case pos=>
  have HBAD:=hbad (by cases hb:BD 8 r.st with | false=>rfl | true=>exfalso;unfold BD at hb;simp at hb;omega)
  have d0:decide ((r.st:Int)≤8)=true:=decide_eq_true (by omega)
  have d1:((r.st:Int) !=0)=false:=by rw [bne_eq_false_iff_eq];omega
  clear hbad
  refine wp_region_held_drew (S:=fun W=>W.cell? ⟨h6,0,none⟩=some (.int .i64 8)∧W.cell? ⟨b,8,none⟩=some (.int .i64 r.st)) (by kernel_rfl) ⟨x0,y8⟩ (fun hHeld=> ?_)
  refine AB (i:=0) (v:= ?_) rfl (by kernel_rfl) (fun _ _ _ h=>h) (by intro w hSw;(try dsimp only at hSw);go_simp;try with_reducible rfl) hHeld ?_
  refine AB (i:=1) (v:= ?_) rfl (by kernel_rfl) (fun _ _ _ h=>h) (by intro w hSw;(try dsimp only at hSw);go_simp;try with_reducible rfl) hHeld ?_
  refine AB (i:=2) (v:= ?_) rfl (by kernel_rfl) (fun _ _ _ h=>h) (by intro w hSw;(try dsimp only at hSw);go_simp;try with_reducible rfl) hHeld ?_
  refine AB (i:=3) (v:= ?_) rfl (by kernel_rfl) (fun _ _ _ h=>h) (by intro w hSw;(try dsimp only at hSw);go_simp;try with_reducible rfl) hHeld ?_
  refine AB (i:=4) (v:= ?_) rfl (by kernel_rfl) (fun _ _ _ h=>h) (by intro w hSw;(try dsimp only at hSw);go_simp;try with_reducible rfl) hHeld ?_
  refine AB (i:=5) (v:= ?_) rfl (by kernel_rfl) (fun _ _ _ h=>h) (by intro w hSw;(try dsimp only at hSw);go_simp;try with_reducible rfl) hHeld ?_
  refine AB (i:=6) (v:= ?_) rfl (by kernel_rfl) (fun _ _ _ h=>h) (by intro w hSw;(try dsimp only at hSw);go_simp;try with_reducible rfl) hHeld ?_
  refine AB (i:=7) (v:= ?_) rfl (by kernel_rfl) (fun _ _ _ h=>h) (by intro w hSw;(try dsimp only at hSw);go_simp;try with_reducible rfl) hHeld ?_
  refine AB (i:=8) (v:= ?_) rfl (by kernel_rfl) (fun _ _ _ h=>h) (by intro w hSw;(try dsimp only at hSw);go_simp;try with_reducible rfl) hHeld ?_
  refine AB (i:=9) (v:= ?_) rfl (by kernel_rfl) (fun _ _ _ h=>h) (by intro w hSw;(try dsimp only at hSw);go_simp;try with_reducible rfl) hHeld ?_
  refine AB (i:=10) (v:= ?_) rfl (by kernel_rfl) (fun _ _ _ h=>h) (by intro w hSw;(try dsimp only at hSw);go_simp;try with_reducible rfl) hHeld ?_
  refine AJ (i:=11) rfl (by kernel_rfl) (fun _ _ _ h=>h) hHeld ?_
  refine AJ (i:=12) rfl (by kernel_rfl) (fun _ _ _ h=>h) hHeld ?_
  refine AJ (i:=13) rfl (by kernel_rfl) (fun _ _ _ h=>h) hHeld ?_
  refine AJ (i:=14) rfl (by kernel_rfl) (fun _ _ _ h=>h) hHeld ?_
  refine AJ (i:=15) rfl (by kernel_rfl) (fun _ _ _ h=>h) hHeld ?_
  refine AJ (i:=16) rfl (by kernel_rfl) (fun _ _ _ h=>h) hHeld ?_
  refine AJ (i:=17) rfl (by kernel_rfl) (fun _ _ _ h=>h) hHeld ?_
  refine AB (i:=18) (v:= ?_) rfl (by kernel_rfl) (fun _ _ _ h=>h) (by intro w hSw;(try dsimp only at hSw);go_simp;try with_reducible rfl) hHeld ?_
  refine AB (i:=19) (v:= ?_) rfl (by kernel_rfl) (fun _ _ _ h=>h) (by intro w hSw;(try dsimp only at hSw);go_simp;try with_reducible rfl) hHeld ?_
  refine wpAnyH_ready (rs:= [20]) (by kernel_rfl) (by simp) ?_
  refine AllReadyH.cons rfl (fun K hK=> ?_) AllReadyH.nil
  go_simp
  refine(AP _).mono ?_
  rintro e w3 ⟨rfl,rfl⟩
  refine hK.out _ _ ⟨x0,y8⟩ (fun AX=> ?_)
  clear hK K
  refine wpAnyH_done (by kernel_rfl) ?_ _
  clear hHeld AX
  go_wp2_with fail
  refine(AZ _).mono ?_
  rintro e w3 ⟨rfl,rfl⟩
  go_wp2_with fail
  exact⟨rfl,HBAD.out.2.1,.inl ⟨HBAD.out.1,rfl,HBAD.out.2.2⟩⟩
 by_cases hc:r.st<5
 case pos=>
  have HBAD:=hbad (by cases hb:BD 8 r.st with | false=>rfl | true=>exfalso;unfold BD at hb;simp at hb;omega)
  have d0:decide ((r.st:Int)≤8)=true:=decide_eq_true (by omega)
  have d1:((r.st:Int) !=0)=true:=by rw [bne_iff_ne];omega
  have d2:decide (5≤(r.st:Int))=false:=decide_eq_false (by omega)
  clear hbad
  refine wp_region_held_drew (S:=fun W=>W.cell? ⟨h6,0,none⟩=some (.int .i64 8)∧W.cell? ⟨b,8,none⟩=some (.int .i64 r.st)) (by kernel_rfl) ⟨x0,y8⟩ (fun hHeld=> ?_)
  refine AB (i:=0) (v:= ?_) rfl (by kernel_rfl) (fun _ _ _ h=>h) (by intro w hSw;(try dsimp only at hSw);go_simp;try with_reducible rfl) hHeld ?_
  refine AB (i:=1) (v:= ?_) rfl (by kernel_rfl) (fun _ _ _ h=>h) (by intro w hSw;(try dsimp only at hSw);go_simp;try with_reducible rfl) hHeld ?_
  refine AB (i:=2) (v:= ?_) rfl (by kernel_rfl) (fun _ _ _ h=>h) (by intro w hSw;(try dsimp only at hSw);go_simp;try with_reducible rfl) hHeld ?_
  refine AB (i:=3) (v:= ?_) rfl (by kernel_rfl) (fun _ _ _ h=>h) (by intro w hSw;(try dsimp only at hSw);go_simp;try with_reducible rfl) hHeld ?_
  refine AB (i:=4) (v:= ?_) rfl (by kernel_rfl) (fun _ _ _ h=>h) (by intro w hSw;(try dsimp only at hSw);go_simp;try with_reducible rfl) hHeld ?_
  refine AB (i:=5) (v:= ?_) rfl (by kernel_rfl) (fun _ _ _ h=>h) (by intro w hSw;(try dsimp only at hSw);go_simp;try with_reducible rfl) hHeld ?_
  refine AB (i:=6) (v:= ?_) rfl (by kernel_rfl) (fun _ _ _ h=>h) (by intro w hSw;(try dsimp only at hSw);go_simp;try with_reducible rfl) hHeld ?_
  refine AB (i:=7) (v:= ?_) rfl (by kernel_rfl) (fun _ _ _ h=>h) (by intro w hSw;(try dsimp only at hSw);go_simp;try with_reducible rfl) hHeld ?_
  refine AB (i:=8) (v:= ?_) rfl (by kernel_rfl) (fun _ _ _ h=>h) (by intro w hSw;(try dsimp only at hSw);go_simp;try with_reducible rfl) hHeld ?_
  refine AB (i:=9) (v:= ?_) rfl (by kernel_rfl) (fun _ _ _ h=>h) (by intro w hSw;(try dsimp only at hSw);go_simp;try with_reducible rfl) hHeld ?_
  refine AB (i:=10) (v:= ?_) rfl (by kernel_rfl) (fun _ _ _ h=>h) (by intro w hSw;(try dsimp only at hSw);go_simp;try with_reducible rfl) hHeld ?_
  refine AJ (i:=11) rfl (by kernel_rfl) (fun _ _ _ h=>h) hHeld ?_
  refine AJ (i:=12) rfl (by kernel_rfl) (fun _ _ _ h=>h) hHeld ?_
  refine AJ (i:=13) rfl (by kernel_rfl) (fun _ _ _ h=>h) hHeld ?_
  refine AJ (i:=14) rfl (by kernel_rfl) (fun _ _ _ h=>h) hHeld ?_
  refine AJ (i:=15) rfl (by kernel_rfl) (fun _ _ _ h=>h) hHeld ?_
  refine AJ (i:=16) rfl (by kernel_rfl) (fun _ _ _ h=>h) hHeld ?_
  refine AJ (i:=17) rfl (by kernel_rfl) (fun _ _ _ h=>h) hHeld ?_
  refine AB (i:=18) (v:= ?_) rfl (by kernel_rfl) (fun _ _ _ h=>h) (by intro w hSw;(try dsimp only at hSw);go_simp;try with_reducible rfl) hHeld ?_
  refine AB (i:=19) (v:= ?_) rfl (by kernel_rfl) (fun _ _ _ h=>h) (by intro w hSw;(try dsimp only at hSw);go_simp;try with_reducible rfl) hHeld ?_
  refine wpAnyH_ready (rs:= [20]) (by kernel_rfl) (by simp) ?_
  refine AllReadyH.cons rfl (fun K hK=> ?_) AllReadyH.nil
  go_simp
  refine(AP _).mono ?_
  rintro e w3 ⟨rfl,rfl⟩
  refine hK.out _ _ ⟨x0,y8⟩ (fun AX=> ?_)
  clear hK K
  refine wpAnyH_done (by kernel_rfl) ?_ _
  clear hHeld AX
  go_wp2_with fail
  refine(AP _).mono ?_
  rintro e w3 ⟨rfl,rfl⟩
  go_wp2_with fail
  refine(AZ _).mono ?_
  rintro e w3 ⟨rfl,rfl⟩
  go_wp2_with fail
  exact⟨rfl,HBAD.out.2.1,.inl ⟨HBAD.out.1,rfl,HBAD.out.2.2⟩⟩
 have d0:decide ((r.st:Int)≤8)=true:=decide_eq_true (by omega)
 have d1:((r.st:Int) !=0)=true:=by rw [bne_iff_ne];omega
 have d2:decide (5≤(r.st:Int))=true:=decide_eq_true (by omega)
 have XW:Hid (Ai r (Jm::t)=(Ar 8 r.m t).map (fun m'=>(⟨m',8⟩:Nb))):=AA (by
  have ho:BD 8 r.st=true:=by
   cases hb:BD 8 r.st with
   | true=>rfl
   | false=>exfalso;unfold BD at hb;simp at hb;omega
  rw [VI.out,ho];rfl)
 clear hbad
 refine wp_region_held_drew (S:=fun W=>W.cell? ⟨h6,0,none⟩=some (.int .i64 8)∧W.cell? ⟨b,8,none⟩=some (.int .i64 r.st)) (by kernel_rfl) ⟨x0,y8⟩ (fun hHeld=> ?_)
 refine AB (i:=0) (v:= ?_) rfl (by kernel_rfl) (fun _ _ _ h=>h) (by intro w hSw;(try dsimp only at hSw);go_simp;try with_reducible rfl) hHeld ?_
 refine AB (i:=1) (v:= ?_) rfl (by kernel_rfl) (fun _ _ _ h=>h) (by intro w hSw;(try dsimp only at hSw);go_simp;try with_reducible rfl) hHeld ?_
 refine AB (i:=2) (v:= ?_) rfl (by kernel_rfl) (fun _ _ _ h=>h) (by intro w hSw;(try dsimp only at hSw);go_simp;try with_reducible rfl) hHeld ?_
 refine AB (i:=3) (v:= ?_) rfl (by kernel_rfl) (fun _ _ _ h=>h) (by intro w hSw;(try dsimp only at hSw);go_simp;try with_reducible rfl) hHeld ?_
 refine AB (i:=4) (v:= ?_) rfl (by kernel_rfl) (fun _ _ _ h=>h) (by intro w hSw;(try dsimp only at hSw);go_simp;try with_reducible rfl) hHeld ?_
 refine AB (i:=5) (v:= ?_) rfl (by kernel_rfl) (fun _ _ _ h=>h) (by intro w hSw;(try dsimp only at hSw);go_simp;try with_reducible rfl) hHeld ?_
 refine AB (i:=6) (v:= ?_) rfl (by kernel_rfl) (fun _ _ _ h=>h) (by intro w hSw;(try dsimp only at hSw);go_simp;try with_reducible rfl) hHeld ?_
 refine AB (i:=7) (v:= ?_) rfl (by kernel_rfl) (fun _ _ _ h=>h) (by intro w hSw;(try dsimp only at hSw);go_simp;try with_reducible rfl) hHeld ?_
 refine AB (i:=8) (v:= ?_) rfl (by kernel_rfl) (fun _ _ _ h=>h) (by intro w hSw;(try dsimp only at hSw);go_simp;try with_reducible rfl) hHeld ?_
 refine AB (i:=9) (v:= ?_) rfl (by kernel_rfl) (fun _ _ _ h=>h) (by intro w hSw;(try dsimp only at hSw);go_simp;try with_reducible rfl) hHeld ?_
 refine AB (i:=10) (v:= ?_) rfl (by kernel_rfl) (fun _ _ _ h=>h) (by intro w hSw;(try dsimp only at hSw);go_simp;try with_reducible rfl) hHeld ?_
 refine AJ (i:=11) rfl (by kernel_rfl) (fun _ _ _ h=>h) hHeld ?_
 refine AJ (i:=12) rfl (by kernel_rfl) (fun _ _ _ h=>h) hHeld ?_
 refine AJ (i:=13) rfl (by kernel_rfl) (fun _ _ _ h=>h) hHeld ?_
 refine AJ (i:=14) rfl (by kernel_rfl) (fun _ _ _ h=>h) hHeld ?_
 refine AJ (i:=15) rfl (by kernel_rfl) (fun _ _ _ h=>h) hHeld ?_
 refine AJ (i:=16) rfl (by kernel_rfl) (fun _ _ _ h=>h) hHeld ?_
 refine AJ (i:=17) rfl (by kernel_rfl) (fun _ _ _ h=>h) hHeld ?_
 refine AB (i:=18) (v:= ?_) rfl (by kernel_rfl) (fun _ _ _ h=>h) (by intro w hSw;(try dsimp only at hSw);go_simp;try with_reducible rfl) hHeld ?_
 refine AB (i:=19) (v:= ?_) rfl (by kernel_rfl) (fun _ _ _ h=>h) (by intro w hSw;(try dsimp only at hSw);go_simp;try with_reducible rfl) hHeld ?_
 refine wpAnyH_ready (rs:= [20]) (by kernel_rfl) (by simp) ?_
 refine AllReadyH.cons rfl (fun K hK=> ?_) AllReadyH.nil
 go_simp
 refine(AP _).mono ?_
 rintro e w3 ⟨rfl,rfl⟩
 refine hK.out _ _ ⟨x0,y8⟩ (fun AX=> ?_)
 clear hK K
 refine wpAnyH_done (by kernel_rfl) ?_ _
 clear hHeld AX
 go_wp2_with fail
 refine(AP _).mono ?_
 rintro e w3 ⟨rfl,rfl⟩
 go_wp2_with fail
 refine(AP _).mono ?_
 rintro e w3 ⟨rfl,rfl⟩
 go_upto_region 10 with fail
 have Un:QZ B b (w2.setCell ⟨b,8,none⟩ (.int .i64 (8:Nat))).drew _ v1 v2 v3 v6 v7 v8 r.m 8 ln:=((HR.out.below HB2.out).stage 8).below ((Below.refl _ _).drew)
 have hx5:AV (w2.setCell ⟨b,8,none⟩ (.int .i64 (8:Nat))).drew h6 148 [.int .i64 8,.func (.func 95) #[] #[]]:=(RG.out.far (p:=⟨b,8,none⟩) (by show h6≠b;omega) _).drewN 1
 have XY:Keep (fun k=>k<B∧k≠b) w (w2.setCell ⟨b,8,none⟩ (.int .i64 (8:Nat))).drew:=(((Keep.Am HB2.out).ER (fun k hk _=>hk)).setCell (p:=⟨b,8,none⟩) (fun e=>e.2 rfl) _).drew
 have XZ:En (w2.setCell ⟨b,8,none⟩ (.int .i64 (8:Nat))).drew A (Jm::t):=(HW2.out.keep (K:=fun k=>k≠b) (((Keep.refl _ w2).setCell (p:=⟨b,8,none⟩) (fun e=>e rfl) _).drew) (by omega))
 have Xa:Dt hi (w2.setCell ⟨b,8,none⟩ (.int .i64 (8:Nat))).drew:=HI.out.env.to (((HB2.out.mono (show hi≤w.heap.size by omega)).setCell (p:=⟨b,8,none⟩) hhi _).drew)
 generalize World.drew (w2.setCell _ _)=w5 at*
 have x1:=hx5.q 1 rfl
 have Ra:=AA Un;have Rb:=AA XY;have iD:=AA XZ;have Zt:=AA Xa
 clear Un XY XZ Xa hx5 x0 y8 z8 RG HW2
 go_wp2_with fail
 rw [RH.out]
 refine(mD ⟨Ra.out,iD.out,Zt.out,hhi,HI.out.lens,by omega⟩ (List.cons_ne_nil _ _)).mono ?_
 rintro e w6 hm
 have hpost:Gw B b w ln (Ai r (Jm::t)) e w6:=by
  rcases hm with⟨h1,h2,h3⟩ | ⟨m',h1,h2,h3,h4⟩
  ·refine⟨Rb.out.trans ((Keep.Am h3).ER (fun k hk _=>hk)),.inl ⟨?_,h2,(h3.cell (p:=⟨b,9,none⟩) Ra.out.blk.lt).trans (Ra.out.blk.cell 9)⟩⟩
   rw [XW.out];rw [List.tail_cons] at h1;rw [h1];rfl
  ·refine⟨Rb.out.trans h3,.inr ⟨⟨m',8⟩,?_,h2,?_⟩⟩
   ·rw [XW.out];rw [List.tail_cons] at h1;rw [h1];rfl
   ·exact .inl ⟨(show(8:Nat)≠6 by decide),h4⟩
 have HP:=AA hpost
 rcases hm with⟨_,rfl,_⟩ | ⟨m',_,rfl,_,_⟩
 ·go_wp2_with fail
  exact⟨rfl,HP.out⟩
 ·go_wp2_with fail
  go_end0
  exact HP.out
end
end Go.Proofs.YtebgikflpgcnlaaGreatDoor
