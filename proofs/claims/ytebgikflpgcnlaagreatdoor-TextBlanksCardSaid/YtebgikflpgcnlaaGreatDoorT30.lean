/- Part 30 of the proof: RdrN -/
import Derived.Test.YtebgikflpgcnlaaGreatDoorT29
namespace Go.Proofs.YtebgikflpgcnlaaGreatDoor
set_option linter.unusedVariables false
set_option linter.unusedSimpArgs false
set_option maxRecDepth 100000
set_option maxHeartbeats 4000000
open Go.RowKit Tryz
section
variable {B b hi M:Nat} {w:World} {r:RdV} {ln:Nat} {s:ByteArray}
theorem rd_read_5 (h:LIn B b hi M w r ln s) {t:List ByteArray} (hwd:wdsV s=memoryW::t):
 Calls prog 59 #[.pointer (some ⟨b,0,none⟩),.string s,.map (some M)] w (RdPost B b w ln (lineV r (wdsV s))):=by
 have hcall:=txt_words s (by have:=h.sz;omega) w
 obtain⟨hws,hpos⟩:=wds_facts s
 have hsz:=h.sz
 rw [hwd] at hcall hws⊢
 have hlv:lineV r (memoryW::t)=if okSt 5 r.st=true then(readK 5 r.m t).map (fun m'=>(⟨m',5⟩:RdV)) else none:=by
  have hk:kindW memoryW=5:=by kernel_rfl
  unfold lineV
  simp only [hk]
  rw [if_neg (by decide)]
 have HLV:=hideIt hlv
 have HI:=hideIt h
 have hz0:((((memoryW::t).length:Nat):Int)==0)=false:=by rw [beq_eq_false_iff_ne,List.length_cons];omega
 obtain⟨n,hn⟩: ∃n,n=(memoryW::t).length:=⟨_,rfl⟩
 rw [←hn] at hz0
 have hn0:0<n:=by rw [hn,List.length_cons];omega
 have HNN:=hideIt hn
 have HCALL:=hideIt hcall
 have hMl:=h.mlt
 have hhi:=h.hhi
 have HMAP:=hideIt h.map
 obtain⟨col,v1,v2,v3,v6,v7,v8,hr⟩:=h.rd.close
 have hlow:=hr.low
 have htop:=hr.top
 have HR:=hideIt hr
 clear hcall hlv h hr
 go_enter func59,ntmps59
 go_wp2_with fail
 refine HCALL.out.mono ?_
 clear HCALL
 rintro e w1 ⟨A,rfl,hA,ho,hb1⟩
 have hw1:=words_at ho hA (List.cons_ne_nil _ _) (by omega)
 have q0:w1.cell? ⟨A,0,none⟩=some (.string ⟨#[109,101,109,111,114,121]⟩):=hw1.at_ 0 _ rfl
 have hlt1:=hw1.lt
 have hbl:=HR.out.blk.lt
 have hsz1:=hb1.size
 have g8:w1.cell? ⟨b,8,none⟩=some (.int .i64 r.st):=(hb1.cell (p:=⟨b,8,none⟩) hbl).trans (HR.out.blk.cell 8)
 have hmap1:w1.heap[M]?=some (.map ruleEs 8):=(hb1.block M hMl).trans HMAP.out
 have hlook:=run_look (P:=prog) (W:=w1) (s:=⟨#[109,101,109,111,114,121]⟩) underlying108 underlying9 hmap1 (i:=4) (v:= .agg #[.int .i64 5,.func (.func 92) #[] #[]]) (by kernel_rfl)
 have HW1:=hideIt hw1;have HB1:=hideIt hb1
 rw [←HNN.out]
 have hq59:(((⟨#[109,101,109,111,114,121]⟩:ByteArray)[0].toNat:Int)==59)=false:=by decide
 clear hn ho hb1 hw1 hmap1 hws hpos hwd
 go_wp2_with fail
 generalize hw2:World.alloc _ _=w2
 have hb12:Below w1.heap.size w1 w2:=by rw [←hw2];exact(Below.refl _ _).alloc (Nat.le_refl _) _
 have hx2:Blk w2 w1.heap.size 148 [.int .i64 5,.func (.func 92) #[] #[]]:=by rw [←hw2];exact Blk.new w1 _ [.int .i64 5,.func (.func 92) #[] #[]]
 obtain⟨h6,hh6⟩: ∃h6,h6=w1.heap.size:=⟨_,rfl⟩
 rw [←hh6] at hx2⊢
 have hhl:w.heap.size≤h6:=by omega
 have HB2:=hideIt (HB1.out.trans (hb12.mono hsz1))
 have HW2:=hideIt (HW1.out.below hb12)
 have x0:=hx2.q 0 rfl
 have x1:=hx2.q 1 rfl
 have y8:w2.cell? ⟨b,8,none⟩=some (.int .i64 r.st):=(HB2.out.cell (p:=⟨b,8,none⟩) hbl).trans (HR.out.blk.cell 8)
 have z8:=(HR.out.blk.below HB2.out hbl).frozen 8
 have HX2:=hideIt hx2
 clear hw2 hb12 hx2 hh6 g8 q0 hlook HW1 HB1
 have hbad:okSt 5 r.st=false→Hid (lineV r (memoryW::t)=none∧Keep (fun k=>k<B∧k≠b) w w2.drew∧w2.drew.cell? ⟨b,9,none⟩=some (.int .i64 ln)):=fun hf=>
  hideIt ⟨by rw [HLV.out,hf];rfl,((Keep.of_all HB2.out).mono0 (fun k hk _=>hk)).drew,(HB2.out.cell (p:=⟨b,9,none⟩) hbl).trans (HR.out.blk.cell 9)⟩
 have hN0:((⟨#[109,101,109,111,114,121]⟩:ByteArray)[0].toNat:Int)=109:=by decide
 rw [hN0]
 clear hq59 hN0
 by_cases hc:5<r.st
 case pos=>
  have HBAD:=hbad (by cases hb:okSt 5 r.st with | false=>rfl | true=>exfalso;unfold okSt at hb;simp at hb;omega)
  have d0:decide ((r.st:Int)≤5)=false:=decide_eq_false (by omega)
  clear hbad
  refine wp_region_held_drew (S:=fun W=>W.cell? ⟨h6,0,none⟩=some (.int .i64 5)∧W.cell? ⟨b,8,none⟩=some (.int .i64 r.st)) (by kernel_rfl) ⟨x0,y8⟩ (fun hHeld=> ?_)
  refine takeIt (i:=0) (v:= ?_) rfl (by kernel_rfl) (fun _ _ _ h=>h) rfl (by intro w hSw;(try dsimp only at hSw);go_simp;try with_reducible rfl) hHeld ?_
  refine takeIt (i:=1) (v:= ?_) rfl (by kernel_rfl) (fun _ _ _ h=>h) rfl (by intro w hSw;(try dsimp only at hSw);go_simp;try with_reducible rfl) hHeld ?_
  refine takeIt (i:=2) (v:= ?_) rfl (by kernel_rfl) (fun _ _ _ h=>h) rfl (by intro w hSw;(try dsimp only at hSw);go_simp;try with_reducible rfl) hHeld ?_
  refine takeIt (i:=3) (v:= ?_) rfl (by kernel_rfl) (fun _ _ _ h=>h) rfl (by intro w hSw;(try dsimp only at hSw);go_simp;try with_reducible rfl) hHeld ?_
  refine takeIt (i:=4) (v:= ?_) rfl (by kernel_rfl) (fun _ _ _ h=>h) rfl (by intro w hSw;(try dsimp only at hSw);go_simp;try with_reducible rfl) hHeld ?_
  refine takeIt (i:=5) (v:= ?_) rfl (by kernel_rfl) (fun _ _ _ h=>h) rfl (by intro w hSw;(try dsimp only at hSw);go_simp;try with_reducible rfl) hHeld ?_
  refine takeIt (i:=6) (v:= ?_) rfl (by kernel_rfl) (fun _ _ _ h=>h) rfl (by intro w hSw;(try dsimp only at hSw);go_simp;try with_reducible rfl) hHeld ?_
  refine takeIt (i:=7) (v:= ?_) rfl (by kernel_rfl) (fun _ _ _ h=>h) rfl (by intro w hSw;(try dsimp only at hSw);go_simp;try with_reducible rfl) hHeld ?_
  refine wpAnyH_take (i:=8) (v:=undef) rfl (by kernel_rfl) (by kernel_rfl) (by kernel_rfl) (fun _ _ _ h=>h) (Or.inr ⟨by kernel_rfl,rfl⟩) hHeld ?_
  refine wpAnyH_take (i:=9) (v:=undef) rfl (by kernel_rfl) (by kernel_rfl) (by kernel_rfl) (fun _ _ _ h=>h) (Or.inr ⟨by kernel_rfl,rfl⟩) hHeld ?_
  refine wpAnyH_take (i:=10) (v:=undef) rfl (by kernel_rfl) (by kernel_rfl) (by kernel_rfl) (fun _ _ _ h=>h) (Or.inr ⟨by kernel_rfl,rfl⟩) hHeld ?_
  refine wpAnyH_take (i:=11) (v:=undef) rfl (by kernel_rfl) (by kernel_rfl) (by kernel_rfl) (fun _ _ _ h=>h) (Or.inr ⟨by kernel_rfl,rfl⟩) hHeld ?_
  refine wpAnyH_take (i:=12) (v:=undef) rfl (by kernel_rfl) (by kernel_rfl) (by kernel_rfl) (fun _ _ _ h=>h) (Or.inr ⟨by kernel_rfl,rfl⟩) hHeld ?_
  refine wpAnyH_take (i:=13) (v:=undef) rfl (by kernel_rfl) (by kernel_rfl) (by kernel_rfl) (fun _ _ _ h=>h) (Or.inr ⟨by kernel_rfl,rfl⟩) hHeld ?_
  refine wpAnyH_take (i:=14) (v:=undef) rfl (by kernel_rfl) (by kernel_rfl) (by kernel_rfl) (fun _ _ _ h=>h) (Or.inr ⟨by kernel_rfl,rfl⟩) hHeld ?_
  refine wpAnyH_take (i:=15) (v:=undef) rfl (by kernel_rfl) (by kernel_rfl) (by kernel_rfl) (fun _ _ _ h=>h) (Or.inr ⟨by kernel_rfl,rfl⟩) hHeld ?_
  refine wpAnyH_take (i:=16) (v:=undef) rfl (by kernel_rfl) (by kernel_rfl) (by kernel_rfl) (fun _ _ _ h=>h) (Or.inr ⟨by kernel_rfl,rfl⟩) hHeld ?_
  refine wpAnyH_take (i:=17) (v:=undef) rfl (by kernel_rfl) (by kernel_rfl) (by kernel_rfl) (fun _ _ _ h=>h) (Or.inr ⟨by kernel_rfl,rfl⟩) hHeld ?_
  refine wpAnyH_take (i:=18) (v:=undef) rfl (by kernel_rfl) (by kernel_rfl) (by kernel_rfl) (fun _ _ _ h=>h) (Or.inr ⟨by kernel_rfl,rfl⟩) hHeld ?_
  refine takeIt (i:=19) (v:= ?_) rfl (by kernel_rfl) (fun _ _ _ h=>h) rfl (by intro w hSw;(try dsimp only at hSw);go_simp;try with_reducible rfl) hHeld ?_
  refine wpAnyH_ready (rs:= [20]) (by kernel_rfl) (by simp) ?_
  refine AllReadyH.cons rfl (fun K hK=> ?_) AllReadyH.nil
  go_simp
  refine(txt_must_no _).mono ?_
  rintro e w3 ⟨rfl,rfl⟩
  go_wp2_with fail
  exact⟨rfl,HBAD.out.2.1,.inl ⟨HBAD.out.1,rfl,HBAD.out.2.2⟩⟩
 by_cases hc:r.st=5
 case pos=>
  have HBAD:=hbad (by cases hb:okSt 5 r.st with | false=>rfl | true=>exfalso;unfold okSt at hb;simp at hb;omega)
  have d0:decide ((r.st:Int)≤5)=true:=decide_eq_true (by omega)
  have d1:decide ((r.st:Int)<5)=false:=decide_eq_false (by omega)
  clear hbad
  refine wp_region_held_drew (S:=fun W=>W.cell? ⟨h6,0,none⟩=some (.int .i64 5)∧W.cell? ⟨b,8,none⟩=some (.int .i64 r.st)) (by kernel_rfl) ⟨x0,y8⟩ (fun hHeld=> ?_)
  refine takeIt (i:=0) (v:= ?_) rfl (by kernel_rfl) (fun _ _ _ h=>h) rfl (by intro w hSw;(try dsimp only at hSw);go_simp;try with_reducible rfl) hHeld ?_
  refine takeIt (i:=1) (v:= ?_) rfl (by kernel_rfl) (fun _ _ _ h=>h) rfl (by intro w hSw;(try dsimp only at hSw);go_simp;try with_reducible rfl) hHeld ?_
  refine takeIt (i:=2) (v:= ?_) rfl (by kernel_rfl) (fun _ _ _ h=>h) rfl (by intro w hSw;(try dsimp only at hSw);go_simp;try with_reducible rfl) hHeld ?_
  refine takeIt (i:=3) (v:= ?_) rfl (by kernel_rfl) (fun _ _ _ h=>h) rfl (by intro w hSw;(try dsimp only at hSw);go_simp;try with_reducible rfl) hHeld ?_
  refine takeIt (i:=4) (v:= ?_) rfl (by kernel_rfl) (fun _ _ _ h=>h) rfl (by intro w hSw;(try dsimp only at hSw);go_simp;try with_reducible rfl) hHeld ?_
  refine takeIt (i:=5) (v:= ?_) rfl (by kernel_rfl) (fun _ _ _ h=>h) rfl (by intro w hSw;(try dsimp only at hSw);go_simp;try with_reducible rfl) hHeld ?_
  refine takeIt (i:=6) (v:= ?_) rfl (by kernel_rfl) (fun _ _ _ h=>h) rfl (by intro w hSw;(try dsimp only at hSw);go_simp;try with_reducible rfl) hHeld ?_
  refine takeIt (i:=7) (v:= ?_) rfl (by kernel_rfl) (fun _ _ _ h=>h) rfl (by intro w hSw;(try dsimp only at hSw);go_simp;try with_reducible rfl) hHeld ?_
  refine wpAnyH_take (i:=8) (v:= ?_) rfl (by kernel_rfl) (by kernel_rfl) (by kernel_rfl) (fun _ _ _ h=>h) (Or.inl ⟨by kernel_rfl,by intro w hSw;(try dsimp only at hSw);go_simp;try with_reducible rfl⟩) hHeld ?_
  refine wpAnyH_take (i:=9) (v:= ?_) rfl (by kernel_rfl) (by kernel_rfl) (by kernel_rfl) (fun _ _ _ h=>h) (Or.inl ⟨by kernel_rfl,by intro w hSw;(try dsimp only at hSw);go_simp;try with_reducible rfl⟩) hHeld ?_
  refine wpAnyH_take (i:=10) (v:= ?_) rfl (by kernel_rfl) (by kernel_rfl) (by kernel_rfl) (fun _ _ _ h=>h) (Or.inl ⟨by kernel_rfl,by intro w hSw;(try dsimp only at hSw);go_simp;try with_reducible rfl⟩) hHeld ?_
  refine wpAnyH_take (i:=11) (v:= ?_) rfl (by kernel_rfl) (by kernel_rfl) (by kernel_rfl) (fun _ _ _ h=>h) (Or.inl ⟨by kernel_rfl,by intro w hSw;(try dsimp only at hSw);go_simp;try with_reducible rfl⟩) hHeld ?_
  refine wpAnyH_take (i:=12) (v:= ?_) rfl (by kernel_rfl) (by kernel_rfl) (by kernel_rfl) (fun _ _ _ h=>h) (Or.inl ⟨by kernel_rfl,by intro w hSw;(try dsimp only at hSw);go_simp;try with_reducible rfl⟩) hHeld ?_
  refine wpAnyH_take (i:=13) (v:= ?_) rfl (by kernel_rfl) (by kernel_rfl) (by kernel_rfl) (fun _ _ _ h=>h) (Or.inl ⟨by kernel_rfl,by intro w hSw;(try dsimp only at hSw);go_simp;try with_reducible rfl⟩) hHeld ?_
  refine wpAnyH_take (i:=14) (v:= ?_) rfl (by kernel_rfl) (by kernel_rfl) (by kernel_rfl) (fun _ _ _ h=>h) (Or.inl ⟨by kernel_rfl,by intro w hSw;(try dsimp only at hSw);go_simp;try with_reducible rfl⟩) hHeld ?_
  refine wpAnyH_take (i:=15) (v:= ?_) rfl (by kernel_rfl) (by kernel_rfl) (by kernel_rfl) (fun _ _ _ h=>h) (Or.inl ⟨by kernel_rfl,by intro w hSw;(try dsimp only at hSw);go_simp;try with_reducible rfl⟩) hHeld ?_
  refine wpAnyH_take (i:=16) (v:= ?_) rfl (by kernel_rfl) (by kernel_rfl) (by kernel_rfl) (fun _ _ _ h=>h) (Or.inl ⟨by kernel_rfl,by intro w hSw;(try dsimp only at hSw);go_simp;try with_reducible rfl⟩) hHeld ?_
  refine wpAnyH_take (i:=17) (v:= ?_) rfl (by kernel_rfl) (by kernel_rfl) (by kernel_rfl) (fun _ _ _ h=>h) (Or.inl ⟨by kernel_rfl,by intro w hSw;(try dsimp only at hSw);go_simp;try with_reducible rfl⟩) hHeld ?_
  refine wpAnyH_take (i:=18) (v:= ?_) rfl (by kernel_rfl) (by kernel_rfl) (by kernel_rfl) (fun _ _ _ h=>h) (Or.inl ⟨by kernel_rfl,by intro w hSw;(try dsimp only at hSw);go_simp;try with_reducible rfl⟩) hHeld ?_
  refine takeIt (i:=19) (v:= ?_) rfl (by kernel_rfl) (fun _ _ _ h=>h) rfl (by intro w hSw;(try dsimp only at hSw);go_simp;try with_reducible rfl) hHeld ?_
  refine wpAnyH_ready (rs:= [20]) (by kernel_rfl) (by simp) ?_
  refine AllReadyH.cons rfl (fun K hK=> ?_) AllReadyH.nil
  go_simp
  refine(txt_must_no _).mono ?_
  rintro e w3 ⟨rfl,rfl⟩
  go_wp2_with fail
  exact⟨rfl,HBAD.out.2.1,.inl ⟨HBAD.out.1,rfl,HBAD.out.2.2⟩⟩
 by_cases hc:r.st=0
 case pos=>
  have HBAD:=hbad (by cases hb:okSt 5 r.st with | false=>rfl | true=>exfalso;unfold okSt at hb;simp at hb;omega)
  have d0:decide ((r.st:Int)≤5)=true:=decide_eq_true (by omega)
  have d1:decide ((r.st:Int)<5)=true:=decide_eq_true (by omega)
  have d2:((r.st:Int) !=0)=false:=by rw [bne_eq_false_iff_eq];omega
  clear hbad
  refine wp_region_held_drew (S:=fun W=>W.cell? ⟨h6,0,none⟩=some (.int .i64 5)∧W.cell? ⟨b,8,none⟩=some (.int .i64 r.st)) (by kernel_rfl) ⟨x0,y8⟩ (fun hHeld=> ?_)
  refine takeIt (i:=0) (v:= ?_) rfl (by kernel_rfl) (fun _ _ _ h=>h) rfl (by intro w hSw;(try dsimp only at hSw);go_simp;try with_reducible rfl) hHeld ?_
  refine takeIt (i:=1) (v:= ?_) rfl (by kernel_rfl) (fun _ _ _ h=>h) rfl (by intro w hSw;(try dsimp only at hSw);go_simp;try with_reducible rfl) hHeld ?_
  refine takeIt (i:=2) (v:= ?_) rfl (by kernel_rfl) (fun _ _ _ h=>h) rfl (by intro w hSw;(try dsimp only at hSw);go_simp;try with_reducible rfl) hHeld ?_
  refine takeIt (i:=3) (v:= ?_) rfl (by kernel_rfl) (fun _ _ _ h=>h) rfl (by intro w hSw;(try dsimp only at hSw);go_simp;try with_reducible rfl) hHeld ?_
  refine takeIt (i:=4) (v:= ?_) rfl (by kernel_rfl) (fun _ _ _ h=>h) rfl (by intro w hSw;(try dsimp only at hSw);go_simp;try with_reducible rfl) hHeld ?_
  refine takeIt (i:=5) (v:= ?_) rfl (by kernel_rfl) (fun _ _ _ h=>h) rfl (by intro w hSw;(try dsimp only at hSw);go_simp;try with_reducible rfl) hHeld ?_
  refine takeIt (i:=6) (v:= ?_) rfl (by kernel_rfl) (fun _ _ _ h=>h) rfl (by intro w hSw;(try dsimp only at hSw);go_simp;try with_reducible rfl) hHeld ?_
  refine takeIt (i:=7) (v:= ?_) rfl (by kernel_rfl) (fun _ _ _ h=>h) rfl (by intro w hSw;(try dsimp only at hSw);go_simp;try with_reducible rfl) hHeld ?_
  refine wpAnyH_take (i:=8) (v:= ?_) rfl (by kernel_rfl) (by kernel_rfl) (by kernel_rfl) (fun _ _ _ h=>h) (Or.inl ⟨by kernel_rfl,by intro w hSw;(try dsimp only at hSw);go_simp;try with_reducible rfl⟩) hHeld ?_
  refine wpAnyH_take (i:=9) (v:= ?_) rfl (by kernel_rfl) (by kernel_rfl) (by kernel_rfl) (fun _ _ _ h=>h) (Or.inl ⟨by kernel_rfl,by intro w hSw;(try dsimp only at hSw);go_simp;try with_reducible rfl⟩) hHeld ?_
  refine wpAnyH_take (i:=10) (v:= ?_) rfl (by kernel_rfl) (by kernel_rfl) (by kernel_rfl) (fun _ _ _ h=>h) (Or.inl ⟨by kernel_rfl,by intro w hSw;(try dsimp only at hSw);go_simp;try with_reducible rfl⟩) hHeld ?_
  refine wpAnyH_take (i:=11) (v:= ?_) rfl (by kernel_rfl) (by kernel_rfl) (by kernel_rfl) (fun _ _ _ h=>h) (Or.inl ⟨by kernel_rfl,by intro w hSw;(try dsimp only at hSw);go_simp;try with_reducible rfl⟩) hHeld ?_
  refine wpAnyH_take (i:=12) (v:= ?_) rfl (by kernel_rfl) (by kernel_rfl) (by kernel_rfl) (fun _ _ _ h=>h) (Or.inl ⟨by kernel_rfl,by intro w hSw;(try dsimp only at hSw);go_simp;try with_reducible rfl⟩) hHeld ?_
  refine wpAnyH_take (i:=13) (v:= ?_) rfl (by kernel_rfl) (by kernel_rfl) (by kernel_rfl) (fun _ _ _ h=>h) (Or.inl ⟨by kernel_rfl,by intro w hSw;(try dsimp only at hSw);go_simp;try with_reducible rfl⟩) hHeld ?_
  refine wpAnyH_take (i:=14) (v:= ?_) rfl (by kernel_rfl) (by kernel_rfl) (by kernel_rfl) (fun _ _ _ h=>h) (Or.inl ⟨by kernel_rfl,by intro w hSw;(try dsimp only at hSw);go_simp;try with_reducible rfl⟩) hHeld ?_
  refine wpAnyH_take (i:=15) (v:= ?_) rfl (by kernel_rfl) (by kernel_rfl) (by kernel_rfl) (fun _ _ _ h=>h) (Or.inl ⟨by kernel_rfl,by intro w hSw;(try dsimp only at hSw);go_simp;try with_reducible rfl⟩) hHeld ?_
  refine wpAnyH_take (i:=16) (v:= ?_) rfl (by kernel_rfl) (by kernel_rfl) (by kernel_rfl) (fun _ _ _ h=>h) (Or.inl ⟨by kernel_rfl,by intro w hSw;(try dsimp only at hSw);go_simp;try with_reducible rfl⟩) hHeld ?_
  refine wpAnyH_take (i:=17) (v:= ?_) rfl (by kernel_rfl) (by kernel_rfl) (by kernel_rfl) (fun _ _ _ h=>h) (Or.inl ⟨by kernel_rfl,by intro w hSw;(try dsimp only at hSw);go_simp;try with_reducible rfl⟩) hHeld ?_
  refine wpAnyH_take (i:=18) (v:= ?_) rfl (by kernel_rfl) (by kernel_rfl) (by kernel_rfl) (fun _ _ _ h=>h) (Or.inl ⟨by kernel_rfl,by intro w hSw;(try dsimp only at hSw);go_simp;try with_reducible rfl⟩) hHeld ?_
  refine takeIt (i:=19) (v:= ?_) rfl (by kernel_rfl) (fun _ _ _ h=>h) rfl (by intro w hSw;(try dsimp only at hSw);go_simp;try with_reducible rfl) hHeld ?_
  refine wpAnyH_ready (rs:= [20]) (by kernel_rfl) (by simp) ?_
  refine AllReadyH.cons rfl (fun K hK=> ?_) AllReadyH.nil
  go_simp
  refine(txt_must_yes _).mono ?_
  rintro e w3 ⟨rfl,rfl⟩
  refine hK.out _ _ ⟨x0,y8⟩ (fun hHeld2=> ?_)
  clear hK K
  refine wpAnyH_done (by kernel_rfl) ?_ _
  clear hHeld hHeld2
  go_wp2_with fail
  refine(txt_must_no _).mono ?_
  rintro e w3 ⟨rfl,rfl⟩
  go_wp2_with fail
  exact⟨rfl,HBAD.out.2.1,.inl ⟨HBAD.out.1,rfl,HBAD.out.2.2⟩⟩
 have d0:decide ((r.st:Int)≤5)=true:=decide_eq_true (by omega)
 have d1:decide ((r.st:Int)<5)=true:=decide_eq_true (by omega)
 have d2:((r.st:Int) !=0)=true:=by rw [bne_iff_ne];omega
 have HOK:Hid (lineV r (memoryW::t)=(readK 5 r.m t).map (fun m'=>(⟨m',5⟩:RdV))):=hideIt (by
  have ho:okSt 5 r.st=true:=by
   cases hb:okSt 5 r.st with
   | true=>rfl
   | false=>exfalso;unfold okSt at hb;simp at hb;omega
  rw [HLV.out,ho];rfl)
 clear hbad
 refine wp_region_held_drew (S:=fun W=>W.cell? ⟨h6,0,none⟩=some (.int .i64 5)∧W.cell? ⟨b,8,none⟩=some (.int .i64 r.st)) (by kernel_rfl) ⟨x0,y8⟩ (fun hHeld=> ?_)
 refine takeIt (i:=0) (v:= ?_) rfl (by kernel_rfl) (fun _ _ _ h=>h) rfl (by intro w hSw;(try dsimp only at hSw);go_simp;try with_reducible rfl) hHeld ?_
 refine takeIt (i:=1) (v:= ?_) rfl (by kernel_rfl) (fun _ _ _ h=>h) rfl (by intro w hSw;(try dsimp only at hSw);go_simp;try with_reducible rfl) hHeld ?_
 refine takeIt (i:=2) (v:= ?_) rfl (by kernel_rfl) (fun _ _ _ h=>h) rfl (by intro w hSw;(try dsimp only at hSw);go_simp;try with_reducible rfl) hHeld ?_
 refine takeIt (i:=3) (v:= ?_) rfl (by kernel_rfl) (fun _ _ _ h=>h) rfl (by intro w hSw;(try dsimp only at hSw);go_simp;try with_reducible rfl) hHeld ?_
 refine takeIt (i:=4) (v:= ?_) rfl (by kernel_rfl) (fun _ _ _ h=>h) rfl (by intro w hSw;(try dsimp only at hSw);go_simp;try with_reducible rfl) hHeld ?_
 refine takeIt (i:=5) (v:= ?_) rfl (by kernel_rfl) (fun _ _ _ h=>h) rfl (by intro w hSw;(try dsimp only at hSw);go_simp;try with_reducible rfl) hHeld ?_
 refine takeIt (i:=6) (v:= ?_) rfl (by kernel_rfl) (fun _ _ _ h=>h) rfl (by intro w hSw;(try dsimp only at hSw);go_simp;try with_reducible rfl) hHeld ?_
 refine takeIt (i:=7) (v:= ?_) rfl (by kernel_rfl) (fun _ _ _ h=>h) rfl (by intro w hSw;(try dsimp only at hSw);go_simp;try with_reducible rfl) hHeld ?_
 refine wpAnyH_take (i:=8) (v:= ?_) rfl (by kernel_rfl) (by kernel_rfl) (by kernel_rfl) (fun _ _ _ h=>h) (Or.inl ⟨by kernel_rfl,by intro w hSw;(try dsimp only at hSw);go_simp;try with_reducible rfl⟩) hHeld ?_
 refine wpAnyH_take (i:=9) (v:= ?_) rfl (by kernel_rfl) (by kernel_rfl) (by kernel_rfl) (fun _ _ _ h=>h) (Or.inl ⟨by kernel_rfl,by intro w hSw;(try dsimp only at hSw);go_simp;try with_reducible rfl⟩) hHeld ?_
 refine wpAnyH_take (i:=10) (v:= ?_) rfl (by kernel_rfl) (by kernel_rfl) (by kernel_rfl) (fun _ _ _ h=>h) (Or.inl ⟨by kernel_rfl,by intro w hSw;(try dsimp only at hSw);go_simp;try with_reducible rfl⟩) hHeld ?_
 refine wpAnyH_take (i:=11) (v:= ?_) rfl (by kernel_rfl) (by kernel_rfl) (by kernel_rfl) (fun _ _ _ h=>h) (Or.inl ⟨by kernel_rfl,by intro w hSw;(try dsimp only at hSw);go_simp;try with_reducible rfl⟩) hHeld ?_
 refine wpAnyH_take (i:=12) (v:= ?_) rfl (by kernel_rfl) (by kernel_rfl) (by kernel_rfl) (fun _ _ _ h=>h) (Or.inl ⟨by kernel_rfl,by intro w hSw;(try dsimp only at hSw);go_simp;try with_reducible rfl⟩) hHeld ?_
 refine wpAnyH_take (i:=13) (v:= ?_) rfl (by kernel_rfl) (by kernel_rfl) (by kernel_rfl) (fun _ _ _ h=>h) (Or.inl ⟨by kernel_rfl,by intro w hSw;(try dsimp only at hSw);go_simp;try with_reducible rfl⟩) hHeld ?_
 refine wpAnyH_take (i:=14) (v:= ?_) rfl (by kernel_rfl) (by kernel_rfl) (by kernel_rfl) (fun _ _ _ h=>h) (Or.inl ⟨by kernel_rfl,by intro w hSw;(try dsimp only at hSw);go_simp;try with_reducible rfl⟩) hHeld ?_
 refine wpAnyH_take (i:=15) (v:= ?_) rfl (by kernel_rfl) (by kernel_rfl) (by kernel_rfl) (fun _ _ _ h=>h) (Or.inl ⟨by kernel_rfl,by intro w hSw;(try dsimp only at hSw);go_simp;try with_reducible rfl⟩) hHeld ?_
 refine wpAnyH_take (i:=16) (v:= ?_) rfl (by kernel_rfl) (by kernel_rfl) (by kernel_rfl) (fun _ _ _ h=>h) (Or.inl ⟨by kernel_rfl,by intro w hSw;(try dsimp only at hSw);go_simp;try with_reducible rfl⟩) hHeld ?_
 refine wpAnyH_take (i:=17) (v:= ?_) rfl (by kernel_rfl) (by kernel_rfl) (by kernel_rfl) (fun _ _ _ h=>h) (Or.inl ⟨by kernel_rfl,by intro w hSw;(try dsimp only at hSw);go_simp;try with_reducible rfl⟩) hHeld ?_
 refine wpAnyH_take (i:=18) (v:= ?_) rfl (by kernel_rfl) (by kernel_rfl) (by kernel_rfl) (fun _ _ _ h=>h) (Or.inl ⟨by kernel_rfl,by intro w hSw;(try dsimp only at hSw);go_simp;try with_reducible rfl⟩) hHeld ?_
 refine takeIt (i:=19) (v:= ?_) rfl (by kernel_rfl) (fun _ _ _ h=>h) rfl (by intro w hSw;(try dsimp only at hSw);go_simp;try with_reducible rfl) hHeld ?_
 refine wpAnyH_ready (rs:= [20]) (by kernel_rfl) (by simp) ?_
 refine AllReadyH.cons rfl (fun K hK=> ?_) AllReadyH.nil
 go_simp
 refine(txt_must_yes _).mono ?_
 rintro e w3 ⟨rfl,rfl⟩
 refine hK.out _ _ ⟨x0,y8⟩ (fun hHeld2=> ?_)
 clear hK K
 refine wpAnyH_done (by kernel_rfl) ?_ _
 clear hHeld hHeld2
 go_wp2_with fail
 refine(txt_must_yes _).mono ?_
 rintro e w3 ⟨rfl,rfl⟩
 go_wp2_with fail
 refine(txt_must_yes _).mono ?_
 rintro e w3 ⟨rfl,rfl⟩
 go_upto_region 10 with fail
 have hr5:RdC B b (w2.setCell ⟨b,8,none⟩ (.int .i64 (5:Nat))).drew _ v1 v2 v3 v6 v7 v8 r.m 5 ln:=((HR.out.below HB2.out).stage 5).below ((Below.refl _ _).drew)
 have hx5:Blk (w2.setCell ⟨b,8,none⟩ (.int .i64 (5:Nat))).drew h6 148 [.int .i64 5,.func (.func 92) #[] #[]]:=(HX2.out.far (p:=⟨b,8,none⟩) (by show h6≠b;omega) _).drewN 1
 have hK5:Keep (fun k=>k<B∧k≠b) w (w2.setCell ⟨b,8,none⟩ (.int .i64 (5:Nat))).drew:=(((Keep.of_all HB2.out).mono0 (fun k hk _=>hk)).setCell (p:=⟨b,8,none⟩) (fun e=>e.2 rfl) _).drew
 have hW5:WordsAt (w2.setCell ⟨b,8,none⟩ (.int .i64 (5:Nat))).drew A (memoryW::t):=(HW2.out.keep (K:=fun k=>k≠b) (((Keep.refl _ w2).setCell (p:=⟨b,8,none⟩) (fun e=>e rfl) _).drew) (by omega))
 have hE5:EnvAt hi (w2.setCell ⟨b,8,none⟩ (.int .i64 (5:Nat))).drew:=HI.out.env.to (((HB2.out.mono (show hi≤w.heap.size by omega)).setCell (p:=⟨b,8,none⟩) hhi _).drew)
 generalize World.drew (w2.setCell _ _)=w5 at*
 have x1:=hx5.q 1 rfl
 have HR5:=hideIt hr5;have HK5:=hideIt hK5;have HW5:=hideIt hW5;have HE5:=hideIt hE5
 clear hr5 hK5 hW5 hE5 hx5 x0 y8 z8 HX2 HW2
 go_wp2_with fail
 rw [HNN.out]
 refine(rd_memory ⟨HR5.out,HW5.out,HE5.out,hhi,HI.out.lens,by omega⟩ (List.cons_ne_nil _ _)).mono ?_
 rintro e w6 hm
 have hpost:RdPost B b w ln (lineV r (memoryW::t)) e w6:=by
  rcases hm with⟨h1,h2,h3⟩ | ⟨m',h1,h2,h3,h4⟩
  ·refine⟨HK5.out.trans ((Keep.of_all h3).mono0 (fun k hk _=>hk)),.inl ⟨?_,h2,(h3.cell (p:=⟨b,9,none⟩) HR5.out.blk.lt).trans (HR5.out.blk.cell 9)⟩⟩
   rw [HOK.out];rw [List.tail_cons] at h1;rw [h1];rfl
  ·refine⟨HK5.out.trans h3,.inr ⟨⟨m',5⟩,?_,h2,?_⟩⟩
   ·rw [HOK.out];rw [List.tail_cons] at h1;rw [h1];rfl
   ·exact .inl ⟨(show(5:Nat)≠6 by decide),h4⟩
 have HP:=hideIt hpost
 rcases hm with⟨_,rfl,_⟩ | ⟨m',_,rfl,_,_⟩
 ·go_wp2_with fail
  exact⟨rfl,HP.out⟩
 ·go_wp2_with fail
  go_end0
  exact HP.out
theorem rd_read_6 (h:LIn B b hi M w r ln s) {t:List ByteArray} (hwd:wdsV s=funcW::t):
 Calls prog 59 #[.pointer (some ⟨b,0,none⟩),.string s,.map (some M)] w (RdPost B b w ln (lineV r (wdsV s))):=by
 have hcall:=txt_words s (by have:=h.sz;omega) w
 obtain⟨hws,hpos⟩:=wds_facts s
 have hsz:=h.sz
 rw [hwd] at hcall hws⊢
 have hlv:lineV r (funcW::t)=if okSt 6 r.st=true then(readK 6 r.m t).map (fun m'=>(⟨m',6⟩:RdV)) else none:=by
  have hk:kindW funcW=6:=by kernel_rfl
  unfold lineV
  simp only [hk]
  rw [if_neg (by decide)]
 have HLV:=hideIt hlv
 have HI:=hideIt h
 have hz0:((((funcW::t).length:Nat):Int)==0)=false:=by rw [beq_eq_false_iff_ne,List.length_cons];omega
 obtain⟨n,hn⟩: ∃n,n=(funcW::t).length:=⟨_,rfl⟩
 rw [←hn] at hz0
 have hn0:0<n:=by rw [hn,List.length_cons];omega
 have HNN:=hideIt hn
 have HCALL:=hideIt hcall
 have hMl:=h.mlt
 have hhi:=h.hhi
 have HMAP:=hideIt h.map
 obtain⟨col,v1,v2,v3,v6,v7,v8,hr⟩:=h.rd.close
 have hlow:=hr.low
 have htop:=hr.top
 have HR:=hideIt hr
 clear hcall hlv h hr
 go_enter func59,ntmps59
 go_wp2_with fail
 refine HCALL.out.mono ?_
 clear HCALL
 rintro e w1 ⟨A,rfl,hA,ho,hb1⟩
 have hw1:=words_at ho hA (List.cons_ne_nil _ _) (by omega)
 have q0:w1.cell? ⟨A,0,none⟩=some (.string ⟨#[102,117,110,99]⟩):=hw1.at_ 0 _ rfl
 have hlt1:=hw1.lt
 have hbl:=HR.out.blk.lt
 have hsz1:=hb1.size
 have g8:w1.cell? ⟨b,8,none⟩=some (.int .i64 r.st):=(hb1.cell (p:=⟨b,8,none⟩) hbl).trans (HR.out.blk.cell 8)
 have hmap1:w1.heap[M]?=some (.map ruleEs 8):=(hb1.block M hMl).trans HMAP.out
 have hlook:=run_look (P:=prog) (W:=w1) (s:=⟨#[102,117,110,99]⟩) underlying108 underlying9 hmap1 (i:=5) (v:= .agg #[.int .i64 6,.func (.func 93) #[] #[]]) (by kernel_rfl)
 have HW1:=hideIt hw1;have HB1:=hideIt hb1
 rw [←HNN.out]
 have hq59:(((⟨#[102,117,110,99]⟩:ByteArray)[0].toNat:Int)==59)=false:=by decide
 clear hn ho hb1 hw1 hmap1 hws hpos hwd
 go_wp2_with fail
 generalize hw2:World.alloc _ _=w2
 have hb12:Below w1.heap.size w1 w2:=by rw [←hw2];exact(Below.refl _ _).alloc (Nat.le_refl _) _
 have hx2:Blk w2 w1.heap.size 148 [.int .i64 6,.func (.func 93) #[] #[]]:=by rw [←hw2];exact Blk.new w1 _ [.int .i64 6,.func (.func 93) #[] #[]]
 obtain⟨h6,hh6⟩: ∃h6,h6=w1.heap.size:=⟨_,rfl⟩
 rw [←hh6] at hx2⊢
 have hhl:w.heap.size≤h6:=by omega
 have HB2:=hideIt (HB1.out.trans (hb12.mono hsz1))
 have HW2:=hideIt (HW1.out.below hb12)
 have x0:=hx2.q 0 rfl
 have x1:=hx2.q 1 rfl
 have y8:w2.cell? ⟨b,8,none⟩=some (.int .i64 r.st):=(HB2.out.cell (p:=⟨b,8,none⟩) hbl).trans (HR.out.blk.cell 8)
 have z8:=(HR.out.blk.below HB2.out hbl).frozen 8
 have HX2:=hideIt hx2
 clear hw2 hb12 hx2 hh6 g8 q0 hlook HW1 HB1
 have hbad:okSt 6 r.st=false→Hid (lineV r (funcW::t)=none∧Keep (fun k=>k<B∧k≠b) w w2.drew∧w2.drew.cell? ⟨b,9,none⟩=some (.int .i64 ln)):=fun hf=>
  hideIt ⟨by rw [HLV.out,hf];rfl,((Keep.of_all HB2.out).mono0 (fun k hk _=>hk)).drew,(HB2.out.cell (p:=⟨b,9,none⟩) hbl).trans (HR.out.blk.cell 9)⟩
 have hN0:((⟨#[102,117,110,99]⟩:ByteArray)[0].toNat:Int)=102:=by decide
 rw [hN0]
 clear hq59 hN0
 by_cases hc:6<r.st
 case pos=>
  have HBAD:=hbad (by cases hb:okSt 6 r.st with | false=>rfl | true=>exfalso;unfold okSt at hb;simp at hb;omega)
  have d0:decide ((r.st:Int)≤6)=false:=decide_eq_false (by omega)
  clear hbad
  refine wp_region_held_drew (S:=fun W=>W.cell? ⟨h6,0,none⟩=some (.int .i64 6)∧W.cell? ⟨b,8,none⟩=some (.int .i64 r.st)) (by kernel_rfl) ⟨x0,y8⟩ (fun hHeld=> ?_)
  refine takeIt (i:=0) (v:= ?_) rfl (by kernel_rfl) (fun _ _ _ h=>h) rfl (by intro w hSw;(try dsimp only at hSw);go_simp;try with_reducible rfl) hHeld ?_
  refine takeIt (i:=1) (v:= ?_) rfl (by kernel_rfl) (fun _ _ _ h=>h) rfl (by intro w hSw;(try dsimp only at hSw);go_simp;try with_reducible rfl) hHeld ?_
  refine takeIt (i:=2) (v:= ?_) rfl (by kernel_rfl) (fun _ _ _ h=>h) rfl (by intro w hSw;(try dsimp only at hSw);go_simp;try with_reducible rfl) hHeld ?_
  refine takeIt (i:=3) (v:= ?_) rfl (by kernel_rfl) (fun _ _ _ h=>h) rfl (by intro w hSw;(try dsimp only at hSw);go_simp;try with_reducible rfl) hHeld ?_
  refine takeIt (i:=4) (v:= ?_) rfl (by kernel_rfl) (fun _ _ _ h=>h) rfl (by intro w hSw;(try dsimp only at hSw);go_simp;try with_reducible rfl) hHeld ?_
  refine takeIt (i:=5) (v:= ?_) rfl (by kernel_rfl) (fun _ _ _ h=>h) rfl (by intro w hSw;(try dsimp only at hSw);go_simp;try with_reducible rfl) hHeld ?_
  refine takeIt (i:=6) (v:= ?_) rfl (by kernel_rfl) (fun _ _ _ h=>h) rfl (by intro w hSw;(try dsimp only at hSw);go_simp;try with_reducible rfl) hHeld ?_
  refine takeIt (i:=7) (v:= ?_) rfl (by kernel_rfl) (fun _ _ _ h=>h) rfl (by intro w hSw;(try dsimp only at hSw);go_simp;try with_reducible rfl) hHeld ?_
  refine wpAnyH_take (i:=8) (v:=undef) rfl (by kernel_rfl) (by kernel_rfl) (by kernel_rfl) (fun _ _ _ h=>h) (Or.inr ⟨by kernel_rfl,rfl⟩) hHeld ?_
  refine wpAnyH_take (i:=9) (v:=undef) rfl (by kernel_rfl) (by kernel_rfl) (by kernel_rfl) (fun _ _ _ h=>h) (Or.inr ⟨by kernel_rfl,rfl⟩) hHeld ?_
  refine wpAnyH_take (i:=10) (v:=undef) rfl (by kernel_rfl) (by kernel_rfl) (by kernel_rfl) (fun _ _ _ h=>h) (Or.inr ⟨by kernel_rfl,rfl⟩) hHeld ?_
  refine wpAnyH_take (i:=11) (v:=undef) rfl (by kernel_rfl) (by kernel_rfl) (by kernel_rfl) (fun _ _ _ h=>h) (Or.inr ⟨by kernel_rfl,rfl⟩) hHeld ?_
  refine wpAnyH_take (i:=12) (v:=undef) rfl (by kernel_rfl) (by kernel_rfl) (by kernel_rfl) (fun _ _ _ h=>h) (Or.inr ⟨by kernel_rfl,rfl⟩) hHeld ?_
  refine wpAnyH_take (i:=13) (v:=undef) rfl (by kernel_rfl) (by kernel_rfl) (by kernel_rfl) (fun _ _ _ h=>h) (Or.inr ⟨by kernel_rfl,rfl⟩) hHeld ?_
  refine wpAnyH_take (i:=14) (v:=undef) rfl (by kernel_rfl) (by kernel_rfl) (by kernel_rfl) (fun _ _ _ h=>h) (Or.inr ⟨by kernel_rfl,rfl⟩) hHeld ?_
  refine wpAnyH_take (i:=15) (v:=undef) rfl (by kernel_rfl) (by kernel_rfl) (by kernel_rfl) (fun _ _ _ h=>h) (Or.inr ⟨by kernel_rfl,rfl⟩) hHeld ?_
  refine wpAnyH_take (i:=16) (v:=undef) rfl (by kernel_rfl) (by kernel_rfl) (by kernel_rfl) (fun _ _ _ h=>h) (Or.inr ⟨by kernel_rfl,rfl⟩) hHeld ?_
  refine wpAnyH_take (i:=17) (v:=undef) rfl (by kernel_rfl) (by kernel_rfl) (by kernel_rfl) (fun _ _ _ h=>h) (Or.inr ⟨by kernel_rfl,rfl⟩) hHeld ?_
  refine wpAnyH_take (i:=18) (v:=undef) rfl (by kernel_rfl) (by kernel_rfl) (by kernel_rfl) (fun _ _ _ h=>h) (Or.inr ⟨by kernel_rfl,rfl⟩) hHeld ?_
  refine takeIt (i:=19) (v:= ?_) rfl (by kernel_rfl) (fun _ _ _ h=>h) rfl (by intro w hSw;(try dsimp only at hSw);go_simp;try with_reducible rfl) hHeld ?_
  refine wpAnyH_ready (rs:= [20]) (by kernel_rfl) (by simp) ?_
  refine AllReadyH.cons rfl (fun K hK=> ?_) AllReadyH.nil
  go_simp
  refine(txt_must_no _).mono ?_
  rintro e w3 ⟨rfl,rfl⟩
  go_wp2_with fail
  exact⟨rfl,HBAD.out.2.1,.inl ⟨HBAD.out.1,rfl,HBAD.out.2.2⟩⟩
 by_cases hc:r.st=0
 case pos=>
  have HBAD:=hbad (by cases hb:okSt 6 r.st with | false=>rfl | true=>exfalso;unfold okSt at hb;simp at hb;omega)
  have d0:decide ((r.st:Int)≤6)=true:=decide_eq_true (by omega)
  have d1:((r.st:Int) !=0)=false:=by rw [bne_eq_false_iff_eq];omega
  clear hbad
  refine wp_region_held_drew (S:=fun W=>W.cell? ⟨h6,0,none⟩=some (.int .i64 6)∧W.cell? ⟨b,8,none⟩=some (.int .i64 r.st)) (by kernel_rfl) ⟨x0,y8⟩ (fun hHeld=> ?_)
  refine takeIt (i:=0) (v:= ?_) rfl (by kernel_rfl) (fun _ _ _ h=>h) rfl (by intro w hSw;(try dsimp only at hSw);go_simp;try with_reducible rfl) hHeld ?_
  refine takeIt (i:=1) (v:= ?_) rfl (by kernel_rfl) (fun _ _ _ h=>h) rfl (by intro w hSw;(try dsimp only at hSw);go_simp;try with_reducible rfl) hHeld ?_
  refine takeIt (i:=2) (v:= ?_) rfl (by kernel_rfl) (fun _ _ _ h=>h) rfl (by intro w hSw;(try dsimp only at hSw);go_simp;try with_reducible rfl) hHeld ?_
  refine takeIt (i:=3) (v:= ?_) rfl (by kernel_rfl) (fun _ _ _ h=>h) rfl (by intro w hSw;(try dsimp only at hSw);go_simp;try with_reducible rfl) hHeld ?_
  refine takeIt (i:=4) (v:= ?_) rfl (by kernel_rfl) (fun _ _ _ h=>h) rfl (by intro w hSw;(try dsimp only at hSw);go_simp;try with_reducible rfl) hHeld ?_
  refine takeIt (i:=5) (v:= ?_) rfl (by kernel_rfl) (fun _ _ _ h=>h) rfl (by intro w hSw;(try dsimp only at hSw);go_simp;try with_reducible rfl) hHeld ?_
  refine takeIt (i:=6) (v:= ?_) rfl (by kernel_rfl) (fun _ _ _ h=>h) rfl (by intro w hSw;(try dsimp only at hSw);go_simp;try with_reducible rfl) hHeld ?_
  refine takeIt (i:=7) (v:= ?_) rfl (by kernel_rfl) (fun _ _ _ h=>h) rfl (by intro w hSw;(try dsimp only at hSw);go_simp;try with_reducible rfl) hHeld ?_
  refine wpAnyH_take (i:=8) (v:= ?_) rfl (by kernel_rfl) (by kernel_rfl) (by kernel_rfl) (fun _ _ _ h=>h) (Or.inl ⟨by kernel_rfl,by intro w hSw;(try dsimp only at hSw);go_simp;try with_reducible rfl⟩) hHeld ?_
  refine wpAnyH_take (i:=9) (v:= ?_) rfl (by kernel_rfl) (by kernel_rfl) (by kernel_rfl) (fun _ _ _ h=>h) (Or.inl ⟨by kernel_rfl,by intro w hSw;(try dsimp only at hSw);go_simp;try with_reducible rfl⟩) hHeld ?_
  refine wpAnyH_take (i:=10) (v:= ?_) rfl (by kernel_rfl) (by kernel_rfl) (by kernel_rfl) (fun _ _ _ h=>h) (Or.inl ⟨by kernel_rfl,by intro w hSw;(try dsimp only at hSw);go_simp;try with_reducible rfl⟩) hHeld ?_
  refine wpAnyH_take (i:=11) (v:=undef) rfl (by kernel_rfl) (by kernel_rfl) (by kernel_rfl) (fun _ _ _ h=>h) (Or.inr ⟨by kernel_rfl,rfl⟩) hHeld ?_
  refine wpAnyH_take (i:=12) (v:=undef) rfl (by kernel_rfl) (by kernel_rfl) (by kernel_rfl) (fun _ _ _ h=>h) (Or.inr ⟨by kernel_rfl,rfl⟩) hHeld ?_
  refine wpAnyH_take (i:=13) (v:=undef) rfl (by kernel_rfl) (by kernel_rfl) (by kernel_rfl) (fun _ _ _ h=>h) (Or.inr ⟨by kernel_rfl,rfl⟩) hHeld ?_
  refine wpAnyH_take (i:=14) (v:=undef) rfl (by kernel_rfl) (by kernel_rfl) (by kernel_rfl) (fun _ _ _ h=>h) (Or.inr ⟨by kernel_rfl,rfl⟩) hHeld ?_
  refine wpAnyH_take (i:=15) (v:=undef) rfl (by kernel_rfl) (by kernel_rfl) (by kernel_rfl) (fun _ _ _ h=>h) (Or.inr ⟨by kernel_rfl,rfl⟩) hHeld ?_
  refine wpAnyH_take (i:=16) (v:=undef) rfl (by kernel_rfl) (by kernel_rfl) (by kernel_rfl) (fun _ _ _ h=>h) (Or.inr ⟨by kernel_rfl,rfl⟩) hHeld ?_
  refine wpAnyH_take (i:=17) (v:=undef) rfl (by kernel_rfl) (by kernel_rfl) (by kernel_rfl) (fun _ _ _ h=>h) (Or.inr ⟨by kernel_rfl,rfl⟩) hHeld ?_
  refine wpAnyH_take (i:=18) (v:= ?_) rfl (by kernel_rfl) (by kernel_rfl) (by kernel_rfl) (fun _ _ _ h=>h) (Or.inl ⟨by kernel_rfl,by intro w hSw;(try dsimp only at hSw);go_simp;try with_reducible rfl⟩) hHeld ?_
  refine takeIt (i:=19) (v:= ?_) rfl (by kernel_rfl) (fun _ _ _ h=>h) rfl (by intro w hSw;(try dsimp only at hSw);go_simp;try with_reducible rfl) hHeld ?_
  refine wpAnyH_ready (rs:= [20]) (by kernel_rfl) (by simp) ?_
  refine AllReadyH.cons rfl (fun K hK=> ?_) AllReadyH.nil
  go_simp
  refine(txt_must_yes _).mono ?_
  rintro e w3 ⟨rfl,rfl⟩
  refine hK.out _ _ ⟨x0,y8⟩ (fun hHeld2=> ?_)
  clear hK K
  refine wpAnyH_done (by kernel_rfl) ?_ _
  clear hHeld hHeld2
  go_wp2_with fail
  refine(txt_must_no _).mono ?_
  rintro e w3 ⟨rfl,rfl⟩
  go_wp2_with fail
  exact⟨rfl,HBAD.out.2.1,.inl ⟨HBAD.out.1,rfl,HBAD.out.2.2⟩⟩
 by_cases hc:r.st<5
 case pos=>
  have HBAD:=hbad (by cases hb:okSt 6 r.st with | false=>rfl | true=>exfalso;unfold okSt at hb;simp at hb;omega)
  have d0:decide ((r.st:Int)≤6)=true:=decide_eq_true (by omega)
  have d1:((r.st:Int) !=0)=true:=by rw [bne_iff_ne];omega
  have d2:decide (5≤(r.st:Int))=false:=decide_eq_false (by omega)
  clear hbad
  refine wp_region_held_drew (S:=fun W=>W.cell? ⟨h6,0,none⟩=some (.int .i64 6)∧W.cell? ⟨b,8,none⟩=some (.int .i64 r.st)) (by kernel_rfl) ⟨x0,y8⟩ (fun hHeld=> ?_)
  refine takeIt (i:=0) (v:= ?_) rfl (by kernel_rfl) (fun _ _ _ h=>h) rfl (by intro w hSw;(try dsimp only at hSw);go_simp;try with_reducible rfl) hHeld ?_
  refine takeIt (i:=1) (v:= ?_) rfl (by kernel_rfl) (fun _ _ _ h=>h) rfl (by intro w hSw;(try dsimp only at hSw);go_simp;try with_reducible rfl) hHeld ?_
  refine takeIt (i:=2) (v:= ?_) rfl (by kernel_rfl) (fun _ _ _ h=>h) rfl (by intro w hSw;(try dsimp only at hSw);go_simp;try with_reducible rfl) hHeld ?_
  refine takeIt (i:=3) (v:= ?_) rfl (by kernel_rfl) (fun _ _ _ h=>h) rfl (by intro w hSw;(try dsimp only at hSw);go_simp;try with_reducible rfl) hHeld ?_
  refine takeIt (i:=4) (v:= ?_) rfl (by kernel_rfl) (fun _ _ _ h=>h) rfl (by intro w hSw;(try dsimp only at hSw);go_simp;try with_reducible rfl) hHeld ?_
  refine takeIt (i:=5) (v:= ?_) rfl (by kernel_rfl) (fun _ _ _ h=>h) rfl (by intro w hSw;(try dsimp only at hSw);go_simp;try with_reducible rfl) hHeld ?_
  refine takeIt (i:=6) (v:= ?_) rfl (by kernel_rfl) (fun _ _ _ h=>h) rfl (by intro w hSw;(try dsimp only at hSw);go_simp;try with_reducible rfl) hHeld ?_
  refine takeIt (i:=7) (v:= ?_) rfl (by kernel_rfl) (fun _ _ _ h=>h) rfl (by intro w hSw;(try dsimp only at hSw);go_simp;try with_reducible rfl) hHeld ?_
  refine wpAnyH_take (i:=8) (v:= ?_) rfl (by kernel_rfl) (by kernel_rfl) (by kernel_rfl) (fun _ _ _ h=>h) (Or.inl ⟨by kernel_rfl,by intro w hSw;(try dsimp only at hSw);go_simp;try with_reducible rfl⟩) hHeld ?_
  refine wpAnyH_take (i:=9) (v:= ?_) rfl (by kernel_rfl) (by kernel_rfl) (by kernel_rfl) (fun _ _ _ h=>h) (Or.inl ⟨by kernel_rfl,by intro w hSw;(try dsimp only at hSw);go_simp;try with_reducible rfl⟩) hHeld ?_
  refine wpAnyH_take (i:=10) (v:= ?_) rfl (by kernel_rfl) (by kernel_rfl) (by kernel_rfl) (fun _ _ _ h=>h) (Or.inl ⟨by kernel_rfl,by intro w hSw;(try dsimp only at hSw);go_simp;try with_reducible rfl⟩) hHeld ?_
  refine wpAnyH_take (i:=11) (v:=undef) rfl (by kernel_rfl) (by kernel_rfl) (by kernel_rfl) (fun _ _ _ h=>h) (Or.inr ⟨by kernel_rfl,rfl⟩) hHeld ?_
  refine wpAnyH_take (i:=12) (v:=undef) rfl (by kernel_rfl) (by kernel_rfl) (by kernel_rfl) (fun _ _ _ h=>h) (Or.inr ⟨by kernel_rfl,rfl⟩) hHeld ?_
  refine wpAnyH_take (i:=13) (v:=undef) rfl (by kernel_rfl) (by kernel_rfl) (by kernel_rfl) (fun _ _ _ h=>h) (Or.inr ⟨by kernel_rfl,rfl⟩) hHeld ?_
  refine wpAnyH_take (i:=14) (v:=undef) rfl (by kernel_rfl) (by kernel_rfl) (by kernel_rfl) (fun _ _ _ h=>h) (Or.inr ⟨by kernel_rfl,rfl⟩) hHeld ?_
  refine wpAnyH_take (i:=15) (v:=undef) rfl (by kernel_rfl) (by kernel_rfl) (by kernel_rfl) (fun _ _ _ h=>h) (Or.inr ⟨by kernel_rfl,rfl⟩) hHeld ?_
  refine wpAnyH_take (i:=16) (v:=undef) rfl (by kernel_rfl) (by kernel_rfl) (by kernel_rfl) (fun _ _ _ h=>h) (Or.inr ⟨by kernel_rfl,rfl⟩) hHeld ?_
  refine wpAnyH_take (i:=17) (v:=undef) rfl (by kernel_rfl) (by kernel_rfl) (by kernel_rfl) (fun _ _ _ h=>h) (Or.inr ⟨by kernel_rfl,rfl⟩) hHeld ?_
  refine wpAnyH_take (i:=18) (v:= ?_) rfl (by kernel_rfl) (by kernel_rfl) (by kernel_rfl) (fun _ _ _ h=>h) (Or.inl ⟨by kernel_rfl,by intro w hSw;(try dsimp only at hSw);go_simp;try with_reducible rfl⟩) hHeld ?_
  refine takeIt (i:=19) (v:= ?_) rfl (by kernel_rfl) (fun _ _ _ h=>h) rfl (by intro w hSw;(try dsimp only at hSw);go_simp;try with_reducible rfl) hHeld ?_
  refine wpAnyH_ready (rs:= [20]) (by kernel_rfl) (by simp) ?_
  refine AllReadyH.cons rfl (fun K hK=> ?_) AllReadyH.nil
  go_simp
  refine(txt_must_yes _).mono ?_
  rintro e w3 ⟨rfl,rfl⟩
  refine hK.out _ _ ⟨x0,y8⟩ (fun hHeld2=> ?_)
  clear hK K
  refine wpAnyH_done (by kernel_rfl) ?_ _
  clear hHeld hHeld2
  go_wp2_with fail
  refine(txt_must_yes _).mono ?_
  rintro e w3 ⟨rfl,rfl⟩
  go_wp2_with fail
  refine(txt_must_no _).mono ?_
  rintro e w3 ⟨rfl,rfl⟩
  go_wp2_with fail
  exact⟨rfl,HBAD.out.2.1,.inl ⟨HBAD.out.1,rfl,HBAD.out.2.2⟩⟩
 have d0:decide ((r.st:Int)≤6)=true:=decide_eq_true (by omega)
 have d1:((r.st:Int) !=0)=true:=by rw [bne_iff_ne];omega
 have d2:decide (5≤(r.st:Int))=true:=decide_eq_true (by omega)
 have HOK:Hid (lineV r (funcW::t)=(readK 6 r.m t).map (fun m'=>(⟨m',6⟩:RdV))):=hideIt (by
  have ho:okSt 6 r.st=true:=by
   cases hb:okSt 6 r.st with
   | true=>rfl
   | false=>exfalso;unfold okSt at hb;simp at hb;omega
  rw [HLV.out,ho];rfl)
 clear hbad
 refine wp_region_held_drew (S:=fun W=>W.cell? ⟨h6,0,none⟩=some (.int .i64 6)∧W.cell? ⟨b,8,none⟩=some (.int .i64 r.st)) (by kernel_rfl) ⟨x0,y8⟩ (fun hHeld=> ?_)
 refine takeIt (i:=0) (v:= ?_) rfl (by kernel_rfl) (fun _ _ _ h=>h) rfl (by intro w hSw;(try dsimp only at hSw);go_simp;try with_reducible rfl) hHeld ?_
 refine takeIt (i:=1) (v:= ?_) rfl (by kernel_rfl) (fun _ _ _ h=>h) rfl (by intro w hSw;(try dsimp only at hSw);go_simp;try with_reducible rfl) hHeld ?_
 refine takeIt (i:=2) (v:= ?_) rfl (by kernel_rfl) (fun _ _ _ h=>h) rfl (by intro w hSw;(try dsimp only at hSw);go_simp;try with_reducible rfl) hHeld ?_
 refine takeIt (i:=3) (v:= ?_) rfl (by kernel_rfl) (fun _ _ _ h=>h) rfl (by intro w hSw;(try dsimp only at hSw);go_simp;try with_reducible rfl) hHeld ?_
 refine takeIt (i:=4) (v:= ?_) rfl (by kernel_rfl) (fun _ _ _ h=>h) rfl (by intro w hSw;(try dsimp only at hSw);go_simp;try with_reducible rfl) hHeld ?_
 refine takeIt (i:=5) (v:= ?_) rfl (by kernel_rfl) (fun _ _ _ h=>h) rfl (by intro w hSw;(try dsimp only at hSw);go_simp;try with_reducible rfl) hHeld ?_
 refine takeIt (i:=6) (v:= ?_) rfl (by kernel_rfl) (fun _ _ _ h=>h) rfl (by intro w hSw;(try dsimp only at hSw);go_simp;try with_reducible rfl) hHeld ?_
 refine takeIt (i:=7) (v:= ?_) rfl (by kernel_rfl) (fun _ _ _ h=>h) rfl (by intro w hSw;(try dsimp only at hSw);go_simp;try with_reducible rfl) hHeld ?_
 refine wpAnyH_take (i:=8) (v:= ?_) rfl (by kernel_rfl) (by kernel_rfl) (by kernel_rfl) (fun _ _ _ h=>h) (Or.inl ⟨by kernel_rfl,by intro w hSw;(try dsimp only at hSw);go_simp;try with_reducible rfl⟩) hHeld ?_
 refine wpAnyH_take (i:=9) (v:= ?_) rfl (by kernel_rfl) (by kernel_rfl) (by kernel_rfl) (fun _ _ _ h=>h) (Or.inl ⟨by kernel_rfl,by intro w hSw;(try dsimp only at hSw);go_simp;try with_reducible rfl⟩) hHeld ?_
 refine wpAnyH_take (i:=10) (v:= ?_) rfl (by kernel_rfl) (by kernel_rfl) (by kernel_rfl) (fun _ _ _ h=>h) (Or.inl ⟨by kernel_rfl,by intro w hSw;(try dsimp only at hSw);go_simp;try with_reducible rfl⟩) hHeld ?_
 refine wpAnyH_take (i:=11) (v:=undef) rfl (by kernel_rfl) (by kernel_rfl) (by kernel_rfl) (fun _ _ _ h=>h) (Or.inr ⟨by kernel_rfl,rfl⟩) hHeld ?_
 refine wpAnyH_take (i:=12) (v:=undef) rfl (by kernel_rfl) (by kernel_rfl) (by kernel_rfl) (fun _ _ _ h=>h) (Or.inr ⟨by kernel_rfl,rfl⟩) hHeld ?_
 refine wpAnyH_take (i:=13) (v:=undef) rfl (by kernel_rfl) (by kernel_rfl) (by kernel_rfl) (fun _ _ _ h=>h) (Or.inr ⟨by kernel_rfl,rfl⟩) hHeld ?_
 refine wpAnyH_take (i:=14) (v:=undef) rfl (by kernel_rfl) (by kernel_rfl) (by kernel_rfl) (fun _ _ _ h=>h) (Or.inr ⟨by kernel_rfl,rfl⟩) hHeld ?_
 refine wpAnyH_take (i:=15) (v:=undef) rfl (by kernel_rfl) (by kernel_rfl) (by kernel_rfl) (fun _ _ _ h=>h) (Or.inr ⟨by kernel_rfl,rfl⟩) hHeld ?_
 refine wpAnyH_take (i:=16) (v:=undef) rfl (by kernel_rfl) (by kernel_rfl) (by kernel_rfl) (fun _ _ _ h=>h) (Or.inr ⟨by kernel_rfl,rfl⟩) hHeld ?_
 refine wpAnyH_take (i:=17) (v:=undef) rfl (by kernel_rfl) (by kernel_rfl) (by kernel_rfl) (fun _ _ _ h=>h) (Or.inr ⟨by kernel_rfl,rfl⟩) hHeld ?_
 refine wpAnyH_take (i:=18) (v:= ?_) rfl (by kernel_rfl) (by kernel_rfl) (by kernel_rfl) (fun _ _ _ h=>h) (Or.inl ⟨by kernel_rfl,by intro w hSw;(try dsimp only at hSw);go_simp;try with_reducible rfl⟩) hHeld ?_
 refine takeIt (i:=19) (v:= ?_) rfl (by kernel_rfl) (fun _ _ _ h=>h) rfl (by intro w hSw;(try dsimp only at hSw);go_simp;try with_reducible rfl) hHeld ?_
 refine wpAnyH_ready (rs:= [20]) (by kernel_rfl) (by simp) ?_
 refine AllReadyH.cons rfl (fun K hK=> ?_) AllReadyH.nil
 go_simp
 refine(txt_must_yes _).mono ?_
 rintro e w3 ⟨rfl,rfl⟩
 refine hK.out _ _ ⟨x0,y8⟩ (fun hHeld2=> ?_)
 clear hK K
 refine wpAnyH_done (by kernel_rfl) ?_ _
 clear hHeld hHeld2
 go_wp2_with fail
 refine(txt_must_yes _).mono ?_
 rintro e w3 ⟨rfl,rfl⟩
 go_wp2_with fail
 refine(txt_must_yes _).mono ?_
 rintro e w3 ⟨rfl,rfl⟩
 go_upto_region 10 with fail
 have hr5:RdC B b (w2.setCell ⟨b,8,none⟩ (.int .i64 (6:Nat))).drew _ v1 v2 v3 v6 v7 v8 r.m 6 ln:=((HR.out.below HB2.out).stage 6).below ((Below.refl _ _).drew)
 have hx5:Blk (w2.setCell ⟨b,8,none⟩ (.int .i64 (6:Nat))).drew h6 148 [.int .i64 6,.func (.func 93) #[] #[]]:=(HX2.out.far (p:=⟨b,8,none⟩) (by show h6≠b;omega) _).drewN 1
 have hK5:Keep (fun k=>k<B∧k≠b) w (w2.setCell ⟨b,8,none⟩ (.int .i64 (6:Nat))).drew:=(((Keep.of_all HB2.out).mono0 (fun k hk _=>hk)).setCell (p:=⟨b,8,none⟩) (fun e=>e.2 rfl) _).drew
 have hW5:WordsAt (w2.setCell ⟨b,8,none⟩ (.int .i64 (6:Nat))).drew A (funcW::t):=(HW2.out.keep (K:=fun k=>k≠b) (((Keep.refl _ w2).setCell (p:=⟨b,8,none⟩) (fun e=>e rfl) _).drew) (by omega))
 have hE5:EnvAt hi (w2.setCell ⟨b,8,none⟩ (.int .i64 (6:Nat))).drew:=HI.out.env.to (((HB2.out.mono (show hi≤w.heap.size by omega)).setCell (p:=⟨b,8,none⟩) hhi _).drew)
 generalize World.drew (w2.setCell _ _)=w5 at*
 have x1:=hx5.q 1 rfl
 have HR5:=hideIt hr5;have HK5:=hideIt hK5;have HW5:=hideIt hW5;have HE5:=hideIt hE5
 clear hr5 hK5 hW5 hE5 hx5 x0 y8 z8 HX2 HW2
 go_wp2_with fail
 rw [HNN.out]
 refine(rd_function ⟨HR5.out,HW5.out,HE5.out,hhi,HI.out.lens,by omega⟩ (List.cons_ne_nil _ _)).mono ?_
 rintro e w6 hm
 have hpost:RdPost B b w ln (lineV r (funcW::t)) e w6:=by
  rcases hm with⟨h1,h2,h3⟩ | ⟨m',h1,h2,h3,h4⟩
  ·refine⟨HK5.out.trans ((Keep.of_all h3).mono0 (fun k hk _=>hk)),.inl ⟨?_,h2,(h3.cell (p:=⟨b,9,none⟩) HR5.out.blk.lt).trans (HR5.out.blk.cell 9)⟩⟩
   rw [HOK.out];rw [List.tail_cons] at h1;rw [h1];rfl
  ·refine⟨HK5.out.trans h3,.inr ⟨⟨m',6⟩,?_,h2,?_⟩⟩
   ·rw [HOK.out];rw [List.tail_cons] at h1;rw [h1];rfl
   ·exact .inr ⟨rfl,h4⟩
 have HP:=hideIt hpost
 rcases hm with⟨_,rfl,_⟩ | ⟨m',_,rfl,_,_⟩
 ·go_wp2_with fail
  exact⟨rfl,HP.out⟩
 ·go_wp2_with fail
  go_end0
  exact HP.out
theorem rd_read_7 (h:LIn B b hi M w r ln s) {t:List ByteArray} (hwd:wdsV s=dataW::t):
 Calls prog 59 #[.pointer (some ⟨b,0,none⟩),.string s,.map (some M)] w (RdPost B b w ln (lineV r (wdsV s))):=by
 have hcall:=txt_words s (by have:=h.sz;omega) w
 obtain⟨hws,hpos⟩:=wds_facts s
 have hsz:=h.sz
 rw [hwd] at hcall hws⊢
 have hlv:lineV r (dataW::t)=if okSt 7 r.st=true then(readK 7 r.m t).map (fun m'=>(⟨m',7⟩:RdV)) else none:=by
  have hk:kindW dataW=7:=by kernel_rfl
  unfold lineV
  simp only [hk]
  rw [if_neg (by decide)]
 have HLV:=hideIt hlv
 have HI:=hideIt h
 have hz0:((((dataW::t).length:Nat):Int)==0)=false:=by rw [beq_eq_false_iff_ne,List.length_cons];omega
 obtain⟨n,hn⟩: ∃n,n=(dataW::t).length:=⟨_,rfl⟩
 rw [←hn] at hz0
 have hn0:0<n:=by rw [hn,List.length_cons];omega
 have HNN:=hideIt hn
 have HCALL:=hideIt hcall
 have hMl:=h.mlt
 have hhi:=h.hhi
 have HMAP:=hideIt h.map
 obtain⟨col,v1,v2,v3,v6,v7,v8,hr⟩:=h.rd.close
 have hlow:=hr.low
 have htop:=hr.top
 have HR:=hideIt hr
 clear hcall hlv h hr
 go_enter func59,ntmps59
 go_wp2_with fail
 refine HCALL.out.mono ?_
 clear HCALL
 rintro e w1 ⟨A,rfl,hA,ho,hb1⟩
 have hw1:=words_at ho hA (List.cons_ne_nil _ _) (by omega)
 have q0:w1.cell? ⟨A,0,none⟩=some (.string ⟨#[100,97,116,97]⟩):=hw1.at_ 0 _ rfl
 have hlt1:=hw1.lt
 have hbl:=HR.out.blk.lt
 have hsz1:=hb1.size
 have g8:w1.cell? ⟨b,8,none⟩=some (.int .i64 r.st):=(hb1.cell (p:=⟨b,8,none⟩) hbl).trans (HR.out.blk.cell 8)
 have hmap1:w1.heap[M]?=some (.map ruleEs 8):=(hb1.block M hMl).trans HMAP.out
 have hlook:=run_look (P:=prog) (W:=w1) (s:=⟨#[100,97,116,97]⟩) underlying108 underlying9 hmap1 (i:=6) (v:= .agg #[.int .i64 7,.func (.func 94) #[] #[]]) (by kernel_rfl)
 have HW1:=hideIt hw1;have HB1:=hideIt hb1
 rw [←HNN.out]
 have hq59:(((⟨#[100,97,116,97]⟩:ByteArray)[0].toNat:Int)==59)=false:=by decide
 clear hn ho hb1 hw1 hmap1 hws hpos hwd
 go_wp2_with fail
 generalize hw2:World.alloc _ _=w2
 have hb12:Below w1.heap.size w1 w2:=by rw [←hw2];exact(Below.refl _ _).alloc (Nat.le_refl _) _
 have hx2:Blk w2 w1.heap.size 148 [.int .i64 7,.func (.func 94) #[] #[]]:=by rw [←hw2];exact Blk.new w1 _ [.int .i64 7,.func (.func 94) #[] #[]]
 obtain⟨h6,hh6⟩: ∃h6,h6=w1.heap.size:=⟨_,rfl⟩
 rw [←hh6] at hx2⊢
 have hhl:w.heap.size≤h6:=by omega
 have HB2:=hideIt (HB1.out.trans (hb12.mono hsz1))
 have HW2:=hideIt (HW1.out.below hb12)
 have x0:=hx2.q 0 rfl
 have x1:=hx2.q 1 rfl
 have y8:w2.cell? ⟨b,8,none⟩=some (.int .i64 r.st):=(HB2.out.cell (p:=⟨b,8,none⟩) hbl).trans (HR.out.blk.cell 8)
 have z8:=(HR.out.blk.below HB2.out hbl).frozen 8
 have HX2:=hideIt hx2
 clear hw2 hb12 hx2 hh6 g8 q0 hlook HW1 HB1
 have hbad:okSt 7 r.st=false→Hid (lineV r (dataW::t)=none∧Keep (fun k=>k<B∧k≠b) w w2.drew∧w2.drew.cell? ⟨b,9,none⟩=some (.int .i64 ln)):=fun hf=>
  hideIt ⟨by rw [HLV.out,hf];rfl,((Keep.of_all HB2.out).mono0 (fun k hk _=>hk)).drew,(HB2.out.cell (p:=⟨b,9,none⟩) hbl).trans (HR.out.blk.cell 9)⟩
 have hN0:((⟨#[100,97,116,97]⟩:ByteArray)[0].toNat:Int)=100:=by decide
 rw [hN0]
 clear hq59 hN0
 by_cases hc:7<r.st
 case pos=>
  have HBAD:=hbad (by cases hb:okSt 7 r.st with | false=>rfl | true=>exfalso;unfold okSt at hb;simp at hb;omega)
  have d0:decide ((r.st:Int)≤7)=false:=decide_eq_false (by omega)
  clear hbad
  refine wp_region_held_drew (S:=fun W=>W.cell? ⟨h6,0,none⟩=some (.int .i64 7)∧W.cell? ⟨b,8,none⟩=some (.int .i64 r.st)) (by kernel_rfl) ⟨x0,y8⟩ (fun hHeld=> ?_)
  refine takeIt (i:=0) (v:= ?_) rfl (by kernel_rfl) (fun _ _ _ h=>h) rfl (by intro w hSw;(try dsimp only at hSw);go_simp;try with_reducible rfl) hHeld ?_
  refine takeIt (i:=1) (v:= ?_) rfl (by kernel_rfl) (fun _ _ _ h=>h) rfl (by intro w hSw;(try dsimp only at hSw);go_simp;try with_reducible rfl) hHeld ?_
  refine takeIt (i:=2) (v:= ?_) rfl (by kernel_rfl) (fun _ _ _ h=>h) rfl (by intro w hSw;(try dsimp only at hSw);go_simp;try with_reducible rfl) hHeld ?_
  refine takeIt (i:=3) (v:= ?_) rfl (by kernel_rfl) (fun _ _ _ h=>h) rfl (by intro w hSw;(try dsimp only at hSw);go_simp;try with_reducible rfl) hHeld ?_
  refine takeIt (i:=4) (v:= ?_) rfl (by kernel_rfl) (fun _ _ _ h=>h) rfl (by intro w hSw;(try dsimp only at hSw);go_simp;try with_reducible rfl) hHeld ?_
  refine takeIt (i:=5) (v:= ?_) rfl (by kernel_rfl) (fun _ _ _ h=>h) rfl (by intro w hSw;(try dsimp only at hSw);go_simp;try with_reducible rfl) hHeld ?_
  refine takeIt (i:=6) (v:= ?_) rfl (by kernel_rfl) (fun _ _ _ h=>h) rfl (by intro w hSw;(try dsimp only at hSw);go_simp;try with_reducible rfl) hHeld ?_
  refine takeIt (i:=7) (v:= ?_) rfl (by kernel_rfl) (fun _ _ _ h=>h) rfl (by intro w hSw;(try dsimp only at hSw);go_simp;try with_reducible rfl) hHeld ?_
  refine wpAnyH_take (i:=8) (v:=undef) rfl (by kernel_rfl) (by kernel_rfl) (by kernel_rfl) (fun _ _ _ h=>h) (Or.inr ⟨by kernel_rfl,rfl⟩) hHeld ?_
  refine wpAnyH_take (i:=9) (v:=undef) rfl (by kernel_rfl) (by kernel_rfl) (by kernel_rfl) (fun _ _ _ h=>h) (Or.inr ⟨by kernel_rfl,rfl⟩) hHeld ?_
  refine wpAnyH_take (i:=10) (v:=undef) rfl (by kernel_rfl) (by kernel_rfl) (by kernel_rfl) (fun _ _ _ h=>h) (Or.inr ⟨by kernel_rfl,rfl⟩) hHeld ?_
  refine wpAnyH_take (i:=11) (v:=undef) rfl (by kernel_rfl) (by kernel_rfl) (by kernel_rfl) (fun _ _ _ h=>h) (Or.inr ⟨by kernel_rfl,rfl⟩) hHeld ?_
  refine wpAnyH_take (i:=12) (v:=undef) rfl (by kernel_rfl) (by kernel_rfl) (by kernel_rfl) (fun _ _ _ h=>h) (Or.inr ⟨by kernel_rfl,rfl⟩) hHeld ?_
  refine wpAnyH_take (i:=13) (v:=undef) rfl (by kernel_rfl) (by kernel_rfl) (by kernel_rfl) (fun _ _ _ h=>h) (Or.inr ⟨by kernel_rfl,rfl⟩) hHeld ?_
  refine wpAnyH_take (i:=14) (v:=undef) rfl (by kernel_rfl) (by kernel_rfl) (by kernel_rfl) (fun _ _ _ h=>h) (Or.inr ⟨by kernel_rfl,rfl⟩) hHeld ?_
  refine wpAnyH_take (i:=15) (v:=undef) rfl (by kernel_rfl) (by kernel_rfl) (by kernel_rfl) (fun _ _ _ h=>h) (Or.inr ⟨by kernel_rfl,rfl⟩) hHeld ?_
  refine wpAnyH_take (i:=16) (v:=undef) rfl (by kernel_rfl) (by kernel_rfl) (by kernel_rfl) (fun _ _ _ h=>h) (Or.inr ⟨by kernel_rfl,rfl⟩) hHeld ?_
  refine wpAnyH_take (i:=17) (v:=undef) rfl (by kernel_rfl) (by kernel_rfl) (by kernel_rfl) (fun _ _ _ h=>h) (Or.inr ⟨by kernel_rfl,rfl⟩) hHeld ?_
  refine wpAnyH_take (i:=18) (v:=undef) rfl (by kernel_rfl) (by kernel_rfl) (by kernel_rfl) (fun _ _ _ h=>h) (Or.inr ⟨by kernel_rfl,rfl⟩) hHeld ?_
  refine takeIt (i:=19) (v:= ?_) rfl (by kernel_rfl) (fun _ _ _ h=>h) rfl (by intro w hSw;(try dsimp only at hSw);go_simp;try with_reducible rfl) hHeld ?_
  refine wpAnyH_ready (rs:= [20]) (by kernel_rfl) (by simp) ?_
  refine AllReadyH.cons rfl (fun K hK=> ?_) AllReadyH.nil
  go_simp
  refine(txt_must_no _).mono ?_
  rintro e w3 ⟨rfl,rfl⟩
  go_wp2_with fail
  exact⟨rfl,HBAD.out.2.1,.inl ⟨HBAD.out.1,rfl,HBAD.out.2.2⟩⟩
 by_cases hc:r.st=0
 case pos=>
  have HBAD:=hbad (by cases hb:okSt 7 r.st with | false=>rfl | true=>exfalso;unfold okSt at hb;simp at hb;omega)
  have d0:decide ((r.st:Int)≤7)=true:=decide_eq_true (by omega)
  have d1:((r.st:Int) !=0)=false:=by rw [bne_eq_false_iff_eq];omega
  clear hbad
  refine wp_region_held_drew (S:=fun W=>W.cell? ⟨h6,0,none⟩=some (.int .i64 7)∧W.cell? ⟨b,8,none⟩=some (.int .i64 r.st)) (by kernel_rfl) ⟨x0,y8⟩ (fun hHeld=> ?_)
  refine takeIt (i:=0) (v:= ?_) rfl (by kernel_rfl) (fun _ _ _ h=>h) rfl (by intro w hSw;(try dsimp only at hSw);go_simp;try with_reducible rfl) hHeld ?_
  refine takeIt (i:=1) (v:= ?_) rfl (by kernel_rfl) (fun _ _ _ h=>h) rfl (by intro w hSw;(try dsimp only at hSw);go_simp;try with_reducible rfl) hHeld ?_
  refine takeIt (i:=2) (v:= ?_) rfl (by kernel_rfl) (fun _ _ _ h=>h) rfl (by intro w hSw;(try dsimp only at hSw);go_simp;try with_reducible rfl) hHeld ?_
  refine takeIt (i:=3) (v:= ?_) rfl (by kernel_rfl) (fun _ _ _ h=>h) rfl (by intro w hSw;(try dsimp only at hSw);go_simp;try with_reducible rfl) hHeld ?_
  refine takeIt (i:=4) (v:= ?_) rfl (by kernel_rfl) (fun _ _ _ h=>h) rfl (by intro w hSw;(try dsimp only at hSw);go_simp;try with_reducible rfl) hHeld ?_
  refine takeIt (i:=5) (v:= ?_) rfl (by kernel_rfl) (fun _ _ _ h=>h) rfl (by intro w hSw;(try dsimp only at hSw);go_simp;try with_reducible rfl) hHeld ?_
  refine takeIt (i:=6) (v:= ?_) rfl (by kernel_rfl) (fun _ _ _ h=>h) rfl (by intro w hSw;(try dsimp only at hSw);go_simp;try with_reducible rfl) hHeld ?_
  refine takeIt (i:=7) (v:= ?_) rfl (by kernel_rfl) (fun _ _ _ h=>h) rfl (by intro w hSw;(try dsimp only at hSw);go_simp;try with_reducible rfl) hHeld ?_
  refine wpAnyH_take (i:=8) (v:= ?_) rfl (by kernel_rfl) (by kernel_rfl) (by kernel_rfl) (fun _ _ _ h=>h) (Or.inl ⟨by kernel_rfl,by intro w hSw;(try dsimp only at hSw);go_simp;try with_reducible rfl⟩) hHeld ?_
  refine wpAnyH_take (i:=9) (v:= ?_) rfl (by kernel_rfl) (by kernel_rfl) (by kernel_rfl) (fun _ _ _ h=>h) (Or.inl ⟨by kernel_rfl,by intro w hSw;(try dsimp only at hSw);go_simp;try with_reducible rfl⟩) hHeld ?_
  refine wpAnyH_take (i:=10) (v:= ?_) rfl (by kernel_rfl) (by kernel_rfl) (by kernel_rfl) (fun _ _ _ h=>h) (Or.inl ⟨by kernel_rfl,by intro w hSw;(try dsimp only at hSw);go_simp;try with_reducible rfl⟩) hHeld ?_
  refine wpAnyH_take (i:=11) (v:=undef) rfl (by kernel_rfl) (by kernel_rfl) (by kernel_rfl) (fun _ _ _ h=>h) (Or.inr ⟨by kernel_rfl,rfl⟩) hHeld ?_
  refine wpAnyH_take (i:=12) (v:=undef) rfl (by kernel_rfl) (by kernel_rfl) (by kernel_rfl) (fun _ _ _ h=>h) (Or.inr ⟨by kernel_rfl,rfl⟩) hHeld ?_
  refine wpAnyH_take (i:=13) (v:=undef) rfl (by kernel_rfl) (by kernel_rfl) (by kernel_rfl) (fun _ _ _ h=>h) (Or.inr ⟨by kernel_rfl,rfl⟩) hHeld ?_
  refine wpAnyH_take (i:=14) (v:=undef) rfl (by kernel_rfl) (by kernel_rfl) (by kernel_rfl) (fun _ _ _ h=>h) (Or.inr ⟨by kernel_rfl,rfl⟩) hHeld ?_
  refine wpAnyH_take (i:=15) (v:=undef) rfl (by kernel_rfl) (by kernel_rfl) (by kernel_rfl) (fun _ _ _ h=>h) (Or.inr ⟨by kernel_rfl,rfl⟩) hHeld ?_
  refine wpAnyH_take (i:=16) (v:=undef) rfl (by kernel_rfl) (by kernel_rfl) (by kernel_rfl) (fun _ _ _ h=>h) (Or.inr ⟨by kernel_rfl,rfl⟩) hHeld ?_
  refine wpAnyH_take (i:=17) (v:=undef) rfl (by kernel_rfl) (by kernel_rfl) (by kernel_rfl) (fun _ _ _ h=>h) (Or.inr ⟨by kernel_rfl,rfl⟩) hHeld ?_
  refine wpAnyH_take (i:=18) (v:= ?_) rfl (by kernel_rfl) (by kernel_rfl) (by kernel_rfl) (fun _ _ _ h=>h) (Or.inl ⟨by kernel_rfl,by intro w hSw;(try dsimp only at hSw);go_simp;try with_reducible rfl⟩) hHeld ?_
  refine takeIt (i:=19) (v:= ?_) rfl (by kernel_rfl) (fun _ _ _ h=>h) rfl (by intro w hSw;(try dsimp only at hSw);go_simp;try with_reducible rfl) hHeld ?_
  refine wpAnyH_ready (rs:= [20]) (by kernel_rfl) (by simp) ?_
  refine AllReadyH.cons rfl (fun K hK=> ?_) AllReadyH.nil
  go_simp
  refine(txt_must_yes _).mono ?_
  rintro e w3 ⟨rfl,rfl⟩
  refine hK.out _ _ ⟨x0,y8⟩ (fun hHeld2=> ?_)
  clear hK K
  refine wpAnyH_done (by kernel_rfl) ?_ _
  clear hHeld hHeld2
  go_wp2_with fail
  refine(txt_must_no _).mono ?_
  rintro e w3 ⟨rfl,rfl⟩
  go_wp2_with fail
  exact⟨rfl,HBAD.out.2.1,.inl ⟨HBAD.out.1,rfl,HBAD.out.2.2⟩⟩
 by_cases hc:r.st<5
 case pos=>
  have HBAD:=hbad (by cases hb:okSt 7 r.st with | false=>rfl | true=>exfalso;unfold okSt at hb;simp at hb;omega)
  have d0:decide ((r.st:Int)≤7)=true:=decide_eq_true (by omega)
  have d1:((r.st:Int) !=0)=true:=by rw [bne_iff_ne];omega
  have d2:decide (5≤(r.st:Int))=false:=decide_eq_false (by omega)
  clear hbad
  refine wp_region_held_drew (S:=fun W=>W.cell? ⟨h6,0,none⟩=some (.int .i64 7)∧W.cell? ⟨b,8,none⟩=some (.int .i64 r.st)) (by kernel_rfl) ⟨x0,y8⟩ (fun hHeld=> ?_)
  refine takeIt (i:=0) (v:= ?_) rfl (by kernel_rfl) (fun _ _ _ h=>h) rfl (by intro w hSw;(try dsimp only at hSw);go_simp;try with_reducible rfl) hHeld ?_
  refine takeIt (i:=1) (v:= ?_) rfl (by kernel_rfl) (fun _ _ _ h=>h) rfl (by intro w hSw;(try dsimp only at hSw);go_simp;try with_reducible rfl) hHeld ?_
  refine takeIt (i:=2) (v:= ?_) rfl (by kernel_rfl) (fun _ _ _ h=>h) rfl (by intro w hSw;(try dsimp only at hSw);go_simp;try with_reducible rfl) hHeld ?_
  refine takeIt (i:=3) (v:= ?_) rfl (by kernel_rfl) (fun _ _ _ h=>h) rfl (by intro w hSw;(try dsimp only at hSw);go_simp;try with_reducible rfl) hHeld ?_
  refine takeIt (i:=4) (v:= ?_) rfl (by kernel_rfl) (fun _ _ _ h=>h) rfl (by intro w hSw;(try dsimp only at hSw);go_simp;try with_reducible rfl) hHeld ?_
  refine takeIt (i:=5) (v:= ?_) rfl (by kernel_rfl) (fun _ _ _ h=>h) rfl (by intro w hSw;(try dsimp only at hSw);go_simp;try with_reducible rfl) hHeld ?_
  refine takeIt (i:=6) (v:= ?_) rfl (by kernel_rfl) (fun _ _ _ h=>h) rfl (by intro w hSw;(try dsimp only at hSw);go_simp;try with_reducible rfl) hHeld ?_
  refine takeIt (i:=7) (v:= ?_) rfl (by kernel_rfl) (fun _ _ _ h=>h) rfl (by intro w hSw;(try dsimp only at hSw);go_simp;try with_reducible rfl) hHeld ?_
  refine wpAnyH_take (i:=8) (v:= ?_) rfl (by kernel_rfl) (by kernel_rfl) (by kernel_rfl) (fun _ _ _ h=>h) (Or.inl ⟨by kernel_rfl,by intro w hSw;(try dsimp only at hSw);go_simp;try with_reducible rfl⟩) hHeld ?_
  refine wpAnyH_take (i:=9) (v:= ?_) rfl (by kernel_rfl) (by kernel_rfl) (by kernel_rfl) (fun _ _ _ h=>h) (Or.inl ⟨by kernel_rfl,by intro w hSw;(try dsimp only at hSw);go_simp;try with_reducible rfl⟩) hHeld ?_
  refine wpAnyH_take (i:=10) (v:= ?_) rfl (by kernel_rfl) (by kernel_rfl) (by kernel_rfl) (fun _ _ _ h=>h) (Or.inl ⟨by kernel_rfl,by intro w hSw;(try dsimp only at hSw);go_simp;try with_reducible rfl⟩) hHeld ?_
  refine wpAnyH_take (i:=11) (v:=undef) rfl (by kernel_rfl) (by kernel_rfl) (by kernel_rfl) (fun _ _ _ h=>h) (Or.inr ⟨by kernel_rfl,rfl⟩) hHeld ?_
  refine wpAnyH_take (i:=12) (v:=undef) rfl (by kernel_rfl) (by kernel_rfl) (by kernel_rfl) (fun _ _ _ h=>h) (Or.inr ⟨by kernel_rfl,rfl⟩) hHeld ?_
  refine wpAnyH_take (i:=13) (v:=undef) rfl (by kernel_rfl) (by kernel_rfl) (by kernel_rfl) (fun _ _ _ h=>h) (Or.inr ⟨by kernel_rfl,rfl⟩) hHeld ?_
  refine wpAnyH_take (i:=14) (v:=undef) rfl (by kernel_rfl) (by kernel_rfl) (by kernel_rfl) (fun _ _ _ h=>h) (Or.inr ⟨by kernel_rfl,rfl⟩) hHeld ?_
  refine wpAnyH_take (i:=15) (v:=undef) rfl (by kernel_rfl) (by kernel_rfl) (by kernel_rfl) (fun _ _ _ h=>h) (Or.inr ⟨by kernel_rfl,rfl⟩) hHeld ?_
  refine wpAnyH_take (i:=16) (v:=undef) rfl (by kernel_rfl) (by kernel_rfl) (by kernel_rfl) (fun _ _ _ h=>h) (Or.inr ⟨by kernel_rfl,rfl⟩) hHeld ?_
  refine wpAnyH_take (i:=17) (v:=undef) rfl (by kernel_rfl) (by kernel_rfl) (by kernel_rfl) (fun _ _ _ h=>h) (Or.inr ⟨by kernel_rfl,rfl⟩) hHeld ?_
  refine wpAnyH_take (i:=18) (v:= ?_) rfl (by kernel_rfl) (by kernel_rfl) (by kernel_rfl) (fun _ _ _ h=>h) (Or.inl ⟨by kernel_rfl,by intro w hSw;(try dsimp only at hSw);go_simp;try with_reducible rfl⟩) hHeld ?_
  refine takeIt (i:=19) (v:= ?_) rfl (by kernel_rfl) (fun _ _ _ h=>h) rfl (by intro w hSw;(try dsimp only at hSw);go_simp;try with_reducible rfl) hHeld ?_
  refine wpAnyH_ready (rs:= [20]) (by kernel_rfl) (by simp) ?_
  refine AllReadyH.cons rfl (fun K hK=> ?_) AllReadyH.nil
  go_simp
  refine(txt_must_yes _).mono ?_
  rintro e w3 ⟨rfl,rfl⟩
  refine hK.out _ _ ⟨x0,y8⟩ (fun hHeld2=> ?_)
  clear hK K
  refine wpAnyH_done (by kernel_rfl) ?_ _
  clear hHeld hHeld2
  go_wp2_with fail
  refine(txt_must_yes _).mono ?_
  rintro e w3 ⟨rfl,rfl⟩
  go_wp2_with fail
  refine(txt_must_no _).mono ?_
  rintro e w3 ⟨rfl,rfl⟩
  go_wp2_with fail
  exact⟨rfl,HBAD.out.2.1,.inl ⟨HBAD.out.1,rfl,HBAD.out.2.2⟩⟩
 have d0:decide ((r.st:Int)≤7)=true:=decide_eq_true (by omega)
 have d1:((r.st:Int) !=0)=true:=by rw [bne_iff_ne];omega
 have d2:decide (5≤(r.st:Int))=true:=decide_eq_true (by omega)
 have HOK:Hid (lineV r (dataW::t)=(readK 7 r.m t).map (fun m'=>(⟨m',7⟩:RdV))):=hideIt (by
  have ho:okSt 7 r.st=true:=by
   cases hb:okSt 7 r.st with
   | true=>rfl
   | false=>exfalso;unfold okSt at hb;simp at hb;omega
  rw [HLV.out,ho];rfl)
 clear hbad
 refine wp_region_held_drew (S:=fun W=>W.cell? ⟨h6,0,none⟩=some (.int .i64 7)∧W.cell? ⟨b,8,none⟩=some (.int .i64 r.st)) (by kernel_rfl) ⟨x0,y8⟩ (fun hHeld=> ?_)
 refine takeIt (i:=0) (v:= ?_) rfl (by kernel_rfl) (fun _ _ _ h=>h) rfl (by intro w hSw;(try dsimp only at hSw);go_simp;try with_reducible rfl) hHeld ?_
 refine takeIt (i:=1) (v:= ?_) rfl (by kernel_rfl) (fun _ _ _ h=>h) rfl (by intro w hSw;(try dsimp only at hSw);go_simp;try with_reducible rfl) hHeld ?_
 refine takeIt (i:=2) (v:= ?_) rfl (by kernel_rfl) (fun _ _ _ h=>h) rfl (by intro w hSw;(try dsimp only at hSw);go_simp;try with_reducible rfl) hHeld ?_
 refine takeIt (i:=3) (v:= ?_) rfl (by kernel_rfl) (fun _ _ _ h=>h) rfl (by intro w hSw;(try dsimp only at hSw);go_simp;try with_reducible rfl) hHeld ?_
 refine takeIt (i:=4) (v:= ?_) rfl (by kernel_rfl) (fun _ _ _ h=>h) rfl (by intro w hSw;(try dsimp only at hSw);go_simp;try with_reducible rfl) hHeld ?_
 refine takeIt (i:=5) (v:= ?_) rfl (by kernel_rfl) (fun _ _ _ h=>h) rfl (by intro w hSw;(try dsimp only at hSw);go_simp;try with_reducible rfl) hHeld ?_
 refine takeIt (i:=6) (v:= ?_) rfl (by kernel_rfl) (fun _ _ _ h=>h) rfl (by intro w hSw;(try dsimp only at hSw);go_simp;try with_reducible rfl) hHeld ?_
 refine takeIt (i:=7) (v:= ?_) rfl (by kernel_rfl) (fun _ _ _ h=>h) rfl (by intro w hSw;(try dsimp only at hSw);go_simp;try with_reducible rfl) hHeld ?_
 refine wpAnyH_take (i:=8) (v:= ?_) rfl (by kernel_rfl) (by kernel_rfl) (by kernel_rfl) (fun _ _ _ h=>h) (Or.inl ⟨by kernel_rfl,by intro w hSw;(try dsimp only at hSw);go_simp;try with_reducible rfl⟩) hHeld ?_
 refine wpAnyH_take (i:=9) (v:= ?_) rfl (by kernel_rfl) (by kernel_rfl) (by kernel_rfl) (fun _ _ _ h=>h) (Or.inl ⟨by kernel_rfl,by intro w hSw;(try dsimp only at hSw);go_simp;try with_reducible rfl⟩) hHeld ?_
 refine wpAnyH_take (i:=10) (v:= ?_) rfl (by kernel_rfl) (by kernel_rfl) (by kernel_rfl) (fun _ _ _ h=>h) (Or.inl ⟨by kernel_rfl,by intro w hSw;(try dsimp only at hSw);go_simp;try with_reducible rfl⟩) hHeld ?_
 refine wpAnyH_take (i:=11) (v:=undef) rfl (by kernel_rfl) (by kernel_rfl) (by kernel_rfl) (fun _ _ _ h=>h) (Or.inr ⟨by kernel_rfl,rfl⟩) hHeld ?_
 refine wpAnyH_take (i:=12) (v:=undef) rfl (by kernel_rfl) (by kernel_rfl) (by kernel_rfl) (fun _ _ _ h=>h) (Or.inr ⟨by kernel_rfl,rfl⟩) hHeld ?_
 refine wpAnyH_take (i:=13) (v:=undef) rfl (by kernel_rfl) (by kernel_rfl) (by kernel_rfl) (fun _ _ _ h=>h) (Or.inr ⟨by kernel_rfl,rfl⟩) hHeld ?_
 refine wpAnyH_take (i:=14) (v:=undef) rfl (by kernel_rfl) (by kernel_rfl) (by kernel_rfl) (fun _ _ _ h=>h) (Or.inr ⟨by kernel_rfl,rfl⟩) hHeld ?_
 refine wpAnyH_take (i:=15) (v:=undef) rfl (by kernel_rfl) (by kernel_rfl) (by kernel_rfl) (fun _ _ _ h=>h) (Or.inr ⟨by kernel_rfl,rfl⟩) hHeld ?_
 refine wpAnyH_take (i:=16) (v:=undef) rfl (by kernel_rfl) (by kernel_rfl) (by kernel_rfl) (fun _ _ _ h=>h) (Or.inr ⟨by kernel_rfl,rfl⟩) hHeld ?_
 refine wpAnyH_take (i:=17) (v:=undef) rfl (by kernel_rfl) (by kernel_rfl) (by kernel_rfl) (fun _ _ _ h=>h) (Or.inr ⟨by kernel_rfl,rfl⟩) hHeld ?_
 refine wpAnyH_take (i:=18) (v:= ?_) rfl (by kernel_rfl) (by kernel_rfl) (by kernel_rfl) (fun _ _ _ h=>h) (Or.inl ⟨by kernel_rfl,by intro w hSw;(try dsimp only at hSw);go_simp;try with_reducible rfl⟩) hHeld ?_
 refine takeIt (i:=19) (v:= ?_) rfl (by kernel_rfl) (fun _ _ _ h=>h) rfl (by intro w hSw;(try dsimp only at hSw);go_simp;try with_reducible rfl) hHeld ?_
 refine wpAnyH_ready (rs:= [20]) (by kernel_rfl) (by simp) ?_
 refine AllReadyH.cons rfl (fun K hK=> ?_) AllReadyH.nil
 go_simp
 refine(txt_must_yes _).mono ?_
 rintro e w3 ⟨rfl,rfl⟩
 refine hK.out _ _ ⟨x0,y8⟩ (fun hHeld2=> ?_)
 clear hK K
 refine wpAnyH_done (by kernel_rfl) ?_ _
 clear hHeld hHeld2
 go_wp2_with fail
 refine(txt_must_yes _).mono ?_
 rintro e w3 ⟨rfl,rfl⟩
 go_wp2_with fail
 refine(txt_must_yes _).mono ?_
 rintro e w3 ⟨rfl,rfl⟩
 go_upto_region 10 with fail
 have hr5:RdC B b (w2.setCell ⟨b,8,none⟩ (.int .i64 (7:Nat))).drew _ v1 v2 v3 v6 v7 v8 r.m 7 ln:=((HR.out.below HB2.out).stage 7).below ((Below.refl _ _).drew)
 have hx5:Blk (w2.setCell ⟨b,8,none⟩ (.int .i64 (7:Nat))).drew h6 148 [.int .i64 7,.func (.func 94) #[] #[]]:=(HX2.out.far (p:=⟨b,8,none⟩) (by show h6≠b;omega) _).drewN 1
 have hK5:Keep (fun k=>k<B∧k≠b) w (w2.setCell ⟨b,8,none⟩ (.int .i64 (7:Nat))).drew:=(((Keep.of_all HB2.out).mono0 (fun k hk _=>hk)).setCell (p:=⟨b,8,none⟩) (fun e=>e.2 rfl) _).drew
 have hW5:WordsAt (w2.setCell ⟨b,8,none⟩ (.int .i64 (7:Nat))).drew A (dataW::t):=(HW2.out.keep (K:=fun k=>k≠b) (((Keep.refl _ w2).setCell (p:=⟨b,8,none⟩) (fun e=>e rfl) _).drew) (by omega))
 have hE5:EnvAt hi (w2.setCell ⟨b,8,none⟩ (.int .i64 (7:Nat))).drew:=HI.out.env.to (((HB2.out.mono (show hi≤w.heap.size by omega)).setCell (p:=⟨b,8,none⟩) hhi _).drew)
 generalize World.drew (w2.setCell _ _)=w5 at*
 have x1:=hx5.q 1 rfl
 have HR5:=hideIt hr5;have HK5:=hideIt hK5;have HW5:=hideIt hW5;have HE5:=hideIt hE5
 clear hr5 hK5 hW5 hE5 hx5 x0 y8 z8 HX2 HW2
 go_wp2_with fail
 rw [HNN.out]
 refine(rd_data ⟨HR5.out,HW5.out,HE5.out,hhi,HI.out.lens,by omega⟩ (List.cons_ne_nil _ _)).mono ?_
 rintro e w6 hm
 have hpost:RdPost B b w ln (lineV r (dataW::t)) e w6:=by
  rcases hm with⟨h1,h2,h3⟩ | ⟨m',h1,h2,h3,h4⟩
  ·refine⟨HK5.out.trans ((Keep.of_all h3).mono0 (fun k hk _=>hk)),.inl ⟨?_,h2,(h3.cell (p:=⟨b,9,none⟩) HR5.out.blk.lt).trans (HR5.out.blk.cell 9)⟩⟩
   rw [HOK.out];rw [List.tail_cons] at h1;rw [h1];rfl
  ·refine⟨HK5.out.trans h3,.inr ⟨⟨m',7⟩,?_,h2,?_⟩⟩
   ·rw [HOK.out];rw [List.tail_cons] at h1;rw [h1];rfl
   ·exact .inl ⟨(show(7:Nat)≠6 by decide),h4⟩
 have HP:=hideIt hpost
 rcases hm with⟨_,rfl,_⟩ | ⟨m',_,rfl,_,_⟩
 ·go_wp2_with fail
  exact⟨rfl,HP.out⟩
 ·go_wp2_with fail
  go_end0
  exact HP.out
theorem rd_read_8 (h:LIn B b hi M w r ln s) {t:List ByteArray} (hwd:wdsV s=exportW::t):
 Calls prog 59 #[.pointer (some ⟨b,0,none⟩),.string s,.map (some M)] w (RdPost B b w ln (lineV r (wdsV s))):=by
 have hcall:=txt_words s (by have:=h.sz;omega) w
 obtain⟨hws,hpos⟩:=wds_facts s
 have hsz:=h.sz
 rw [hwd] at hcall hws⊢
 have hlv:lineV r (exportW::t)=if okSt 8 r.st=true then(readK 8 r.m t).map (fun m'=>(⟨m',8⟩:RdV)) else none:=by
  have hk:kindW exportW=8:=by kernel_rfl
  unfold lineV
  simp only [hk]
  rw [if_neg (by decide)]
 have HLV:=hideIt hlv
 have HI:=hideIt h
 have hz0:((((exportW::t).length:Nat):Int)==0)=false:=by rw [beq_eq_false_iff_ne,List.length_cons];omega
 obtain⟨n,hn⟩: ∃n,n=(exportW::t).length:=⟨_,rfl⟩
 rw [←hn] at hz0
 have hn0:0<n:=by rw [hn,List.length_cons];omega
 have HNN:=hideIt hn
 have HCALL:=hideIt hcall
 have hMl:=h.mlt
 have hhi:=h.hhi
 have HMAP:=hideIt h.map
 obtain⟨col,v1,v2,v3,v6,v7,v8,hr⟩:=h.rd.close
 have hlow:=hr.low
 have htop:=hr.top
 have HR:=hideIt hr
 clear hcall hlv h hr
 go_enter func59,ntmps59
 go_wp2_with fail
 refine HCALL.out.mono ?_
 clear HCALL
 rintro e w1 ⟨A,rfl,hA,ho,hb1⟩
 have hw1:=words_at ho hA (List.cons_ne_nil _ _) (by omega)
 have q0:w1.cell? ⟨A,0,none⟩=some (.string ⟨#[101,120,112,111,114,116]⟩):=hw1.at_ 0 _ rfl
 have hlt1:=hw1.lt
 have hbl:=HR.out.blk.lt
 have hsz1:=hb1.size
 have g8:w1.cell? ⟨b,8,none⟩=some (.int .i64 r.st):=(hb1.cell (p:=⟨b,8,none⟩) hbl).trans (HR.out.blk.cell 8)
 have hmap1:w1.heap[M]?=some (.map ruleEs 8):=(hb1.block M hMl).trans HMAP.out
 have hlook:=run_look (P:=prog) (W:=w1) (s:=⟨#[101,120,112,111,114,116]⟩) underlying108 underlying9 hmap1 (i:=7) (v:= .agg #[.int .i64 8,.func (.func 95) #[] #[]]) (by kernel_rfl)
 have HW1:=hideIt hw1;have HB1:=hideIt hb1
 rw [←HNN.out]
 have hq59:(((⟨#[101,120,112,111,114,116]⟩:ByteArray)[0].toNat:Int)==59)=false:=by decide
 clear hn ho hb1 hw1 hmap1 hws hpos hwd
 go_wp2_with fail
 generalize hw2:World.alloc _ _=w2
 have hb12:Below w1.heap.size w1 w2:=by rw [←hw2];exact(Below.refl _ _).alloc (Nat.le_refl _) _
 have hx2:Blk w2 w1.heap.size 148 [.int .i64 8,.func (.func 95) #[] #[]]:=by rw [←hw2];exact Blk.new w1 _ [.int .i64 8,.func (.func 95) #[] #[]]
 obtain⟨h6,hh6⟩: ∃h6,h6=w1.heap.size:=⟨_,rfl⟩
 rw [←hh6] at hx2⊢
 have hhl:w.heap.size≤h6:=by omega
 have HB2:=hideIt (HB1.out.trans (hb12.mono hsz1))
 have HW2:=hideIt (HW1.out.below hb12)
 have x0:=hx2.q 0 rfl
 have x1:=hx2.q 1 rfl
 have y8:w2.cell? ⟨b,8,none⟩=some (.int .i64 r.st):=(HB2.out.cell (p:=⟨b,8,none⟩) hbl).trans (HR.out.blk.cell 8)
 have z8:=(HR.out.blk.below HB2.out hbl).frozen 8
 have HX2:=hideIt hx2
 clear hw2 hb12 hx2 hh6 g8 q0 hlook HW1 HB1
 have hbad:okSt 8 r.st=false→Hid (lineV r (exportW::t)=none∧Keep (fun k=>k<B∧k≠b) w w2.drew∧w2.drew.cell? ⟨b,9,none⟩=some (.int .i64 ln)):=fun hf=>
  hideIt ⟨by rw [HLV.out,hf];rfl,((Keep.of_all HB2.out).mono0 (fun k hk _=>hk)).drew,(HB2.out.cell (p:=⟨b,9,none⟩) hbl).trans (HR.out.blk.cell 9)⟩
 have hN0:((⟨#[101,120,112,111,114,116]⟩:ByteArray)[0].toNat:Int)=101:=by decide
 rw [hN0]
 clear hq59 hN0
 by_cases hc:8<r.st
 case pos=>
  have HBAD:=hbad (by cases hb:okSt 8 r.st with | false=>rfl | true=>exfalso;unfold okSt at hb;simp at hb;omega)
  have d0:decide ((r.st:Int)≤8)=false:=decide_eq_false (by omega)
  clear hbad
  refine wp_region_held_drew (S:=fun W=>W.cell? ⟨h6,0,none⟩=some (.int .i64 8)∧W.cell? ⟨b,8,none⟩=some (.int .i64 r.st)) (by kernel_rfl) ⟨x0,y8⟩ (fun hHeld=> ?_)
  refine takeIt (i:=0) (v:= ?_) rfl (by kernel_rfl) (fun _ _ _ h=>h) rfl (by intro w hSw;(try dsimp only at hSw);go_simp;try with_reducible rfl) hHeld ?_
  refine takeIt (i:=1) (v:= ?_) rfl (by kernel_rfl) (fun _ _ _ h=>h) rfl (by intro w hSw;(try dsimp only at hSw);go_simp;try with_reducible rfl) hHeld ?_
  refine takeIt (i:=2) (v:= ?_) rfl (by kernel_rfl) (fun _ _ _ h=>h) rfl (by intro w hSw;(try dsimp only at hSw);go_simp;try with_reducible rfl) hHeld ?_
  refine takeIt (i:=3) (v:= ?_) rfl (by kernel_rfl) (fun _ _ _ h=>h) rfl (by intro w hSw;(try dsimp only at hSw);go_simp;try with_reducible rfl) hHeld ?_
  refine takeIt (i:=4) (v:= ?_) rfl (by kernel_rfl) (fun _ _ _ h=>h) rfl (by intro w hSw;(try dsimp only at hSw);go_simp;try with_reducible rfl) hHeld ?_
  refine takeIt (i:=5) (v:= ?_) rfl (by kernel_rfl) (fun _ _ _ h=>h) rfl (by intro w hSw;(try dsimp only at hSw);go_simp;try with_reducible rfl) hHeld ?_
  refine takeIt (i:=6) (v:= ?_) rfl (by kernel_rfl) (fun _ _ _ h=>h) rfl (by intro w hSw;(try dsimp only at hSw);go_simp;try with_reducible rfl) hHeld ?_
  refine takeIt (i:=7) (v:= ?_) rfl (by kernel_rfl) (fun _ _ _ h=>h) rfl (by intro w hSw;(try dsimp only at hSw);go_simp;try with_reducible rfl) hHeld ?_
  refine wpAnyH_take (i:=8) (v:=undef) rfl (by kernel_rfl) (by kernel_rfl) (by kernel_rfl) (fun _ _ _ h=>h) (Or.inr ⟨by kernel_rfl,rfl⟩) hHeld ?_
  refine wpAnyH_take (i:=9) (v:=undef) rfl (by kernel_rfl) (by kernel_rfl) (by kernel_rfl) (fun _ _ _ h=>h) (Or.inr ⟨by kernel_rfl,rfl⟩) hHeld ?_
  refine wpAnyH_take (i:=10) (v:=undef) rfl (by kernel_rfl) (by kernel_rfl) (by kernel_rfl) (fun _ _ _ h=>h) (Or.inr ⟨by kernel_rfl,rfl⟩) hHeld ?_
  refine wpAnyH_take (i:=11) (v:=undef) rfl (by kernel_rfl) (by kernel_rfl) (by kernel_rfl) (fun _ _ _ h=>h) (Or.inr ⟨by kernel_rfl,rfl⟩) hHeld ?_
  refine wpAnyH_take (i:=12) (v:=undef) rfl (by kernel_rfl) (by kernel_rfl) (by kernel_rfl) (fun _ _ _ h=>h) (Or.inr ⟨by kernel_rfl,rfl⟩) hHeld ?_
  refine wpAnyH_take (i:=13) (v:=undef) rfl (by kernel_rfl) (by kernel_rfl) (by kernel_rfl) (fun _ _ _ h=>h) (Or.inr ⟨by kernel_rfl,rfl⟩) hHeld ?_
  refine wpAnyH_take (i:=14) (v:=undef) rfl (by kernel_rfl) (by kernel_rfl) (by kernel_rfl) (fun _ _ _ h=>h) (Or.inr ⟨by kernel_rfl,rfl⟩) hHeld ?_
  refine wpAnyH_take (i:=15) (v:=undef) rfl (by kernel_rfl) (by kernel_rfl) (by kernel_rfl) (fun _ _ _ h=>h) (Or.inr ⟨by kernel_rfl,rfl⟩) hHeld ?_
  refine wpAnyH_take (i:=16) (v:=undef) rfl (by kernel_rfl) (by kernel_rfl) (by kernel_rfl) (fun _ _ _ h=>h) (Or.inr ⟨by kernel_rfl,rfl⟩) hHeld ?_
  refine wpAnyH_take (i:=17) (v:=undef) rfl (by kernel_rfl) (by kernel_rfl) (by kernel_rfl) (fun _ _ _ h=>h) (Or.inr ⟨by kernel_rfl,rfl⟩) hHeld ?_
  refine wpAnyH_take (i:=18) (v:=undef) rfl (by kernel_rfl) (by kernel_rfl) (by kernel_rfl) (fun _ _ _ h=>h) (Or.inr ⟨by kernel_rfl,rfl⟩) hHeld ?_
  refine takeIt (i:=19) (v:= ?_) rfl (by kernel_rfl) (fun _ _ _ h=>h) rfl (by intro w hSw;(try dsimp only at hSw);go_simp;try with_reducible rfl) hHeld ?_
  refine wpAnyH_ready (rs:= [20]) (by kernel_rfl) (by simp) ?_
  refine AllReadyH.cons rfl (fun K hK=> ?_) AllReadyH.nil
  go_simp
  refine(txt_must_no _).mono ?_
  rintro e w3 ⟨rfl,rfl⟩
  go_wp2_with fail
  exact⟨rfl,HBAD.out.2.1,.inl ⟨HBAD.out.1,rfl,HBAD.out.2.2⟩⟩
 by_cases hc:r.st=0
 case pos=>
  have HBAD:=hbad (by cases hb:okSt 8 r.st with | false=>rfl | true=>exfalso;unfold okSt at hb;simp at hb;omega)
  have d0:decide ((r.st:Int)≤8)=true:=decide_eq_true (by omega)
  have d1:((r.st:Int) !=0)=false:=by rw [bne_eq_false_iff_eq];omega
  clear hbad
  refine wp_region_held_drew (S:=fun W=>W.cell? ⟨h6,0,none⟩=some (.int .i64 8)∧W.cell? ⟨b,8,none⟩=some (.int .i64 r.st)) (by kernel_rfl) ⟨x0,y8⟩ (fun hHeld=> ?_)
  refine takeIt (i:=0) (v:= ?_) rfl (by kernel_rfl) (fun _ _ _ h=>h) rfl (by intro w hSw;(try dsimp only at hSw);go_simp;try with_reducible rfl) hHeld ?_
  refine takeIt (i:=1) (v:= ?_) rfl (by kernel_rfl) (fun _ _ _ h=>h) rfl (by intro w hSw;(try dsimp only at hSw);go_simp;try with_reducible rfl) hHeld ?_
  refine takeIt (i:=2) (v:= ?_) rfl (by kernel_rfl) (fun _ _ _ h=>h) rfl (by intro w hSw;(try dsimp only at hSw);go_simp;try with_reducible rfl) hHeld ?_
  refine takeIt (i:=3) (v:= ?_) rfl (by kernel_rfl) (fun _ _ _ h=>h) rfl (by intro w hSw;(try dsimp only at hSw);go_simp;try with_reducible rfl) hHeld ?_
  refine takeIt (i:=4) (v:= ?_) rfl (by kernel_rfl) (fun _ _ _ h=>h) rfl (by intro w hSw;(try dsimp only at hSw);go_simp;try with_reducible rfl) hHeld ?_
  refine takeIt (i:=5) (v:= ?_) rfl (by kernel_rfl) (fun _ _ _ h=>h) rfl (by intro w hSw;(try dsimp only at hSw);go_simp;try with_reducible rfl) hHeld ?_
  refine takeIt (i:=6) (v:= ?_) rfl (by kernel_rfl) (fun _ _ _ h=>h) rfl (by intro w hSw;(try dsimp only at hSw);go_simp;try with_reducible rfl) hHeld ?_
  refine takeIt (i:=7) (v:= ?_) rfl (by kernel_rfl) (fun _ _ _ h=>h) rfl (by intro w hSw;(try dsimp only at hSw);go_simp;try with_reducible rfl) hHeld ?_
  refine wpAnyH_take (i:=8) (v:= ?_) rfl (by kernel_rfl) (by kernel_rfl) (by kernel_rfl) (fun _ _ _ h=>h) (Or.inl ⟨by kernel_rfl,by intro w hSw;(try dsimp only at hSw);go_simp;try with_reducible rfl⟩) hHeld ?_
  refine wpAnyH_take (i:=9) (v:= ?_) rfl (by kernel_rfl) (by kernel_rfl) (by kernel_rfl) (fun _ _ _ h=>h) (Or.inl ⟨by kernel_rfl,by intro w hSw;(try dsimp only at hSw);go_simp;try with_reducible rfl⟩) hHeld ?_
  refine wpAnyH_take (i:=10) (v:= ?_) rfl (by kernel_rfl) (by kernel_rfl) (by kernel_rfl) (fun _ _ _ h=>h) (Or.inl ⟨by kernel_rfl,by intro w hSw;(try dsimp only at hSw);go_simp;try with_reducible rfl⟩) hHeld ?_
  refine wpAnyH_take (i:=11) (v:=undef) rfl (by kernel_rfl) (by kernel_rfl) (by kernel_rfl) (fun _ _ _ h=>h) (Or.inr ⟨by kernel_rfl,rfl⟩) hHeld ?_
  refine wpAnyH_take (i:=12) (v:=undef) rfl (by kernel_rfl) (by kernel_rfl) (by kernel_rfl) (fun _ _ _ h=>h) (Or.inr ⟨by kernel_rfl,rfl⟩) hHeld ?_
  refine wpAnyH_take (i:=13) (v:=undef) rfl (by kernel_rfl) (by kernel_rfl) (by kernel_rfl) (fun _ _ _ h=>h) (Or.inr ⟨by kernel_rfl,rfl⟩) hHeld ?_
  refine wpAnyH_take (i:=14) (v:=undef) rfl (by kernel_rfl) (by kernel_rfl) (by kernel_rfl) (fun _ _ _ h=>h) (Or.inr ⟨by kernel_rfl,rfl⟩) hHeld ?_
  refine wpAnyH_take (i:=15) (v:=undef) rfl (by kernel_rfl) (by kernel_rfl) (by kernel_rfl) (fun _ _ _ h=>h) (Or.inr ⟨by kernel_rfl,rfl⟩) hHeld ?_
  refine wpAnyH_take (i:=16) (v:=undef) rfl (by kernel_rfl) (by kernel_rfl) (by kernel_rfl) (fun _ _ _ h=>h) (Or.inr ⟨by kernel_rfl,rfl⟩) hHeld ?_
  refine wpAnyH_take (i:=17) (v:=undef) rfl (by kernel_rfl) (by kernel_rfl) (by kernel_rfl) (fun _ _ _ h=>h) (Or.inr ⟨by kernel_rfl,rfl⟩) hHeld ?_
  refine wpAnyH_take (i:=18) (v:= ?_) rfl (by kernel_rfl) (by kernel_rfl) (by kernel_rfl) (fun _ _ _ h=>h) (Or.inl ⟨by kernel_rfl,by intro w hSw;(try dsimp only at hSw);go_simp;try with_reducible rfl⟩) hHeld ?_
  refine takeIt (i:=19) (v:= ?_) rfl (by kernel_rfl) (fun _ _ _ h=>h) rfl (by intro w hSw;(try dsimp only at hSw);go_simp;try with_reducible rfl) hHeld ?_
  refine wpAnyH_ready (rs:= [20]) (by kernel_rfl) (by simp) ?_
  refine AllReadyH.cons rfl (fun K hK=> ?_) AllReadyH.nil
  go_simp
  refine(txt_must_yes _).mono ?_
  rintro e w3 ⟨rfl,rfl⟩
  refine hK.out _ _ ⟨x0,y8⟩ (fun hHeld2=> ?_)
  clear hK K
  refine wpAnyH_done (by kernel_rfl) ?_ _
  clear hHeld hHeld2
  go_wp2_with fail
  refine(txt_must_no _).mono ?_
  rintro e w3 ⟨rfl,rfl⟩
  go_wp2_with fail
  exact⟨rfl,HBAD.out.2.1,.inl ⟨HBAD.out.1,rfl,HBAD.out.2.2⟩⟩
 by_cases hc:r.st<5
 case pos=>
  have HBAD:=hbad (by cases hb:okSt 8 r.st with | false=>rfl | true=>exfalso;unfold okSt at hb;simp at hb;omega)
  have d0:decide ((r.st:Int)≤8)=true:=decide_eq_true (by omega)
  have d1:((r.st:Int) !=0)=true:=by rw [bne_iff_ne];omega
  have d2:decide (5≤(r.st:Int))=false:=decide_eq_false (by omega)
  clear hbad
  refine wp_region_held_drew (S:=fun W=>W.cell? ⟨h6,0,none⟩=some (.int .i64 8)∧W.cell? ⟨b,8,none⟩=some (.int .i64 r.st)) (by kernel_rfl) ⟨x0,y8⟩ (fun hHeld=> ?_)
  refine takeIt (i:=0) (v:= ?_) rfl (by kernel_rfl) (fun _ _ _ h=>h) rfl (by intro w hSw;(try dsimp only at hSw);go_simp;try with_reducible rfl) hHeld ?_
  refine takeIt (i:=1) (v:= ?_) rfl (by kernel_rfl) (fun _ _ _ h=>h) rfl (by intro w hSw;(try dsimp only at hSw);go_simp;try with_reducible rfl) hHeld ?_
  refine takeIt (i:=2) (v:= ?_) rfl (by kernel_rfl) (fun _ _ _ h=>h) rfl (by intro w hSw;(try dsimp only at hSw);go_simp;try with_reducible rfl) hHeld ?_
  refine takeIt (i:=3) (v:= ?_) rfl (by kernel_rfl) (fun _ _ _ h=>h) rfl (by intro w hSw;(try dsimp only at hSw);go_simp;try with_reducible rfl) hHeld ?_
  refine takeIt (i:=4) (v:= ?_) rfl (by kernel_rfl) (fun _ _ _ h=>h) rfl (by intro w hSw;(try dsimp only at hSw);go_simp;try with_reducible rfl) hHeld ?_
  refine takeIt (i:=5) (v:= ?_) rfl (by kernel_rfl) (fun _ _ _ h=>h) rfl (by intro w hSw;(try dsimp only at hSw);go_simp;try with_reducible rfl) hHeld ?_
  refine takeIt (i:=6) (v:= ?_) rfl (by kernel_rfl) (fun _ _ _ h=>h) rfl (by intro w hSw;(try dsimp only at hSw);go_simp;try with_reducible rfl) hHeld ?_
  refine takeIt (i:=7) (v:= ?_) rfl (by kernel_rfl) (fun _ _ _ h=>h) rfl (by intro w hSw;(try dsimp only at hSw);go_simp;try with_reducible rfl) hHeld ?_
  refine wpAnyH_take (i:=8) (v:= ?_) rfl (by kernel_rfl) (by kernel_rfl) (by kernel_rfl) (fun _ _ _ h=>h) (Or.inl ⟨by kernel_rfl,by intro w hSw;(try dsimp only at hSw);go_simp;try with_reducible rfl⟩) hHeld ?_
  refine wpAnyH_take (i:=9) (v:= ?_) rfl (by kernel_rfl) (by kernel_rfl) (by kernel_rfl) (fun _ _ _ h=>h) (Or.inl ⟨by kernel_rfl,by intro w hSw;(try dsimp only at hSw);go_simp;try with_reducible rfl⟩) hHeld ?_
  refine wpAnyH_take (i:=10) (v:= ?_) rfl (by kernel_rfl) (by kernel_rfl) (by kernel_rfl) (fun _ _ _ h=>h) (Or.inl ⟨by kernel_rfl,by intro w hSw;(try dsimp only at hSw);go_simp;try with_reducible rfl⟩) hHeld ?_
  refine wpAnyH_take (i:=11) (v:=undef) rfl (by kernel_rfl) (by kernel_rfl) (by kernel_rfl) (fun _ _ _ h=>h) (Or.inr ⟨by kernel_rfl,rfl⟩) hHeld ?_
  refine wpAnyH_take (i:=12) (v:=undef) rfl (by kernel_rfl) (by kernel_rfl) (by kernel_rfl) (fun _ _ _ h=>h) (Or.inr ⟨by kernel_rfl,rfl⟩) hHeld ?_
  refine wpAnyH_take (i:=13) (v:=undef) rfl (by kernel_rfl) (by kernel_rfl) (by kernel_rfl) (fun _ _ _ h=>h) (Or.inr ⟨by kernel_rfl,rfl⟩) hHeld ?_
  refine wpAnyH_take (i:=14) (v:=undef) rfl (by kernel_rfl) (by kernel_rfl) (by kernel_rfl) (fun _ _ _ h=>h) (Or.inr ⟨by kernel_rfl,rfl⟩) hHeld ?_
  refine wpAnyH_take (i:=15) (v:=undef) rfl (by kernel_rfl) (by kernel_rfl) (by kernel_rfl) (fun _ _ _ h=>h) (Or.inr ⟨by kernel_rfl,rfl⟩) hHeld ?_
  refine wpAnyH_take (i:=16) (v:=undef) rfl (by kernel_rfl) (by kernel_rfl) (by kernel_rfl) (fun _ _ _ h=>h) (Or.inr ⟨by kernel_rfl,rfl⟩) hHeld ?_
  refine wpAnyH_take (i:=17) (v:=undef) rfl (by kernel_rfl) (by kernel_rfl) (by kernel_rfl) (fun _ _ _ h=>h) (Or.inr ⟨by kernel_rfl,rfl⟩) hHeld ?_
  refine wpAnyH_take (i:=18) (v:= ?_) rfl (by kernel_rfl) (by kernel_rfl) (by kernel_rfl) (fun _ _ _ h=>h) (Or.inl ⟨by kernel_rfl,by intro w hSw;(try dsimp only at hSw);go_simp;try with_reducible rfl⟩) hHeld ?_
  refine takeIt (i:=19) (v:= ?_) rfl (by kernel_rfl) (fun _ _ _ h=>h) rfl (by intro w hSw;(try dsimp only at hSw);go_simp;try with_reducible rfl) hHeld ?_
  refine wpAnyH_ready (rs:= [20]) (by kernel_rfl) (by simp) ?_
  refine AllReadyH.cons rfl (fun K hK=> ?_) AllReadyH.nil
  go_simp
  refine(txt_must_yes _).mono ?_
  rintro e w3 ⟨rfl,rfl⟩
  refine hK.out _ _ ⟨x0,y8⟩ (fun hHeld2=> ?_)
  clear hK K
  refine wpAnyH_done (by kernel_rfl) ?_ _
  clear hHeld hHeld2
  go_wp2_with fail
  refine(txt_must_yes _).mono ?_
  rintro e w3 ⟨rfl,rfl⟩
  go_wp2_with fail
  refine(txt_must_no _).mono ?_
  rintro e w3 ⟨rfl,rfl⟩
  go_wp2_with fail
  exact⟨rfl,HBAD.out.2.1,.inl ⟨HBAD.out.1,rfl,HBAD.out.2.2⟩⟩
 have d0:decide ((r.st:Int)≤8)=true:=decide_eq_true (by omega)
 have d1:((r.st:Int) !=0)=true:=by rw [bne_iff_ne];omega
 have d2:decide (5≤(r.st:Int))=true:=decide_eq_true (by omega)
 have HOK:Hid (lineV r (exportW::t)=(readK 8 r.m t).map (fun m'=>(⟨m',8⟩:RdV))):=hideIt (by
  have ho:okSt 8 r.st=true:=by
   cases hb:okSt 8 r.st with
   | true=>rfl
   | false=>exfalso;unfold okSt at hb;simp at hb;omega
  rw [HLV.out,ho];rfl)
 clear hbad
 refine wp_region_held_drew (S:=fun W=>W.cell? ⟨h6,0,none⟩=some (.int .i64 8)∧W.cell? ⟨b,8,none⟩=some (.int .i64 r.st)) (by kernel_rfl) ⟨x0,y8⟩ (fun hHeld=> ?_)
 refine takeIt (i:=0) (v:= ?_) rfl (by kernel_rfl) (fun _ _ _ h=>h) rfl (by intro w hSw;(try dsimp only at hSw);go_simp;try with_reducible rfl) hHeld ?_
 refine takeIt (i:=1) (v:= ?_) rfl (by kernel_rfl) (fun _ _ _ h=>h) rfl (by intro w hSw;(try dsimp only at hSw);go_simp;try with_reducible rfl) hHeld ?_
 refine takeIt (i:=2) (v:= ?_) rfl (by kernel_rfl) (fun _ _ _ h=>h) rfl (by intro w hSw;(try dsimp only at hSw);go_simp;try with_reducible rfl) hHeld ?_
 refine takeIt (i:=3) (v:= ?_) rfl (by kernel_rfl) (fun _ _ _ h=>h) rfl (by intro w hSw;(try dsimp only at hSw);go_simp;try with_reducible rfl) hHeld ?_
 refine takeIt (i:=4) (v:= ?_) rfl (by kernel_rfl) (fun _ _ _ h=>h) rfl (by intro w hSw;(try dsimp only at hSw);go_simp;try with_reducible rfl) hHeld ?_
 refine takeIt (i:=5) (v:= ?_) rfl (by kernel_rfl) (fun _ _ _ h=>h) rfl (by intro w hSw;(try dsimp only at hSw);go_simp;try with_reducible rfl) hHeld ?_
 refine takeIt (i:=6) (v:= ?_) rfl (by kernel_rfl) (fun _ _ _ h=>h) rfl (by intro w hSw;(try dsimp only at hSw);go_simp;try with_reducible rfl) hHeld ?_
 refine takeIt (i:=7) (v:= ?_) rfl (by kernel_rfl) (fun _ _ _ h=>h) rfl (by intro w hSw;(try dsimp only at hSw);go_simp;try with_reducible rfl) hHeld ?_
 refine wpAnyH_take (i:=8) (v:= ?_) rfl (by kernel_rfl) (by kernel_rfl) (by kernel_rfl) (fun _ _ _ h=>h) (Or.inl ⟨by kernel_rfl,by intro w hSw;(try dsimp only at hSw);go_simp;try with_reducible rfl⟩) hHeld ?_
 refine wpAnyH_take (i:=9) (v:= ?_) rfl (by kernel_rfl) (by kernel_rfl) (by kernel_rfl) (fun _ _ _ h=>h) (Or.inl ⟨by kernel_rfl,by intro w hSw;(try dsimp only at hSw);go_simp;try with_reducible rfl⟩) hHeld ?_
 refine wpAnyH_take (i:=10) (v:= ?_) rfl (by kernel_rfl) (by kernel_rfl) (by kernel_rfl) (fun _ _ _ h=>h) (Or.inl ⟨by kernel_rfl,by intro w hSw;(try dsimp only at hSw);go_simp;try with_reducible rfl⟩) hHeld ?_
 refine wpAnyH_take (i:=11) (v:=undef) rfl (by kernel_rfl) (by kernel_rfl) (by kernel_rfl) (fun _ _ _ h=>h) (Or.inr ⟨by kernel_rfl,rfl⟩) hHeld ?_
 refine wpAnyH_take (i:=12) (v:=undef) rfl (by kernel_rfl) (by kernel_rfl) (by kernel_rfl) (fun _ _ _ h=>h) (Or.inr ⟨by kernel_rfl,rfl⟩) hHeld ?_
 refine wpAnyH_take (i:=13) (v:=undef) rfl (by kernel_rfl) (by kernel_rfl) (by kernel_rfl) (fun _ _ _ h=>h) (Or.inr ⟨by kernel_rfl,rfl⟩) hHeld ?_
 refine wpAnyH_take (i:=14) (v:=undef) rfl (by kernel_rfl) (by kernel_rfl) (by kernel_rfl) (fun _ _ _ h=>h) (Or.inr ⟨by kernel_rfl,rfl⟩) hHeld ?_
 refine wpAnyH_take (i:=15) (v:=undef) rfl (by kernel_rfl) (by kernel_rfl) (by kernel_rfl) (fun _ _ _ h=>h) (Or.inr ⟨by kernel_rfl,rfl⟩) hHeld ?_
 refine wpAnyH_take (i:=16) (v:=undef) rfl (by kernel_rfl) (by kernel_rfl) (by kernel_rfl) (fun _ _ _ h=>h) (Or.inr ⟨by kernel_rfl,rfl⟩) hHeld ?_
 refine wpAnyH_take (i:=17) (v:=undef) rfl (by kernel_rfl) (by kernel_rfl) (by kernel_rfl) (fun _ _ _ h=>h) (Or.inr ⟨by kernel_rfl,rfl⟩) hHeld ?_
 refine wpAnyH_take (i:=18) (v:= ?_) rfl (by kernel_rfl) (by kernel_rfl) (by kernel_rfl) (fun _ _ _ h=>h) (Or.inl ⟨by kernel_rfl,by intro w hSw;(try dsimp only at hSw);go_simp;try with_reducible rfl⟩) hHeld ?_
 refine takeIt (i:=19) (v:= ?_) rfl (by kernel_rfl) (fun _ _ _ h=>h) rfl (by intro w hSw;(try dsimp only at hSw);go_simp;try with_reducible rfl) hHeld ?_
 refine wpAnyH_ready (rs:= [20]) (by kernel_rfl) (by simp) ?_
 refine AllReadyH.cons rfl (fun K hK=> ?_) AllReadyH.nil
 go_simp
 refine(txt_must_yes _).mono ?_
 rintro e w3 ⟨rfl,rfl⟩
 refine hK.out _ _ ⟨x0,y8⟩ (fun hHeld2=> ?_)
 clear hK K
 refine wpAnyH_done (by kernel_rfl) ?_ _
 clear hHeld hHeld2
 go_wp2_with fail
 refine(txt_must_yes _).mono ?_
 rintro e w3 ⟨rfl,rfl⟩
 go_wp2_with fail
 refine(txt_must_yes _).mono ?_
 rintro e w3 ⟨rfl,rfl⟩
 go_upto_region 10 with fail
 have hr5:RdC B b (w2.setCell ⟨b,8,none⟩ (.int .i64 (8:Nat))).drew _ v1 v2 v3 v6 v7 v8 r.m 8 ln:=((HR.out.below HB2.out).stage 8).below ((Below.refl _ _).drew)
 have hx5:Blk (w2.setCell ⟨b,8,none⟩ (.int .i64 (8:Nat))).drew h6 148 [.int .i64 8,.func (.func 95) #[] #[]]:=(HX2.out.far (p:=⟨b,8,none⟩) (by show h6≠b;omega) _).drewN 1
 have hK5:Keep (fun k=>k<B∧k≠b) w (w2.setCell ⟨b,8,none⟩ (.int .i64 (8:Nat))).drew:=(((Keep.of_all HB2.out).mono0 (fun k hk _=>hk)).setCell (p:=⟨b,8,none⟩) (fun e=>e.2 rfl) _).drew
 have hW5:WordsAt (w2.setCell ⟨b,8,none⟩ (.int .i64 (8:Nat))).drew A (exportW::t):=(HW2.out.keep (K:=fun k=>k≠b) (((Keep.refl _ w2).setCell (p:=⟨b,8,none⟩) (fun e=>e rfl) _).drew) (by omega))
 have hE5:EnvAt hi (w2.setCell ⟨b,8,none⟩ (.int .i64 (8:Nat))).drew:=HI.out.env.to (((HB2.out.mono (show hi≤w.heap.size by omega)).setCell (p:=⟨b,8,none⟩) hhi _).drew)
 generalize World.drew (w2.setCell _ _)=w5 at*
 have x1:=hx5.q 1 rfl
 have HR5:=hideIt hr5;have HK5:=hideIt hK5;have HW5:=hideIt hW5;have HE5:=hideIt hE5
 clear hr5 hK5 hW5 hE5 hx5 x0 y8 z8 HX2 HW2
 go_wp2_with fail
 rw [HNN.out]
 refine(rd_export ⟨HR5.out,HW5.out,HE5.out,hhi,HI.out.lens,by omega⟩ (List.cons_ne_nil _ _)).mono ?_
 rintro e w6 hm
 have hpost:RdPost B b w ln (lineV r (exportW::t)) e w6:=by
  rcases hm with⟨h1,h2,h3⟩ | ⟨m',h1,h2,h3,h4⟩
  ·refine⟨HK5.out.trans ((Keep.of_all h3).mono0 (fun k hk _=>hk)),.inl ⟨?_,h2,(h3.cell (p:=⟨b,9,none⟩) HR5.out.blk.lt).trans (HR5.out.blk.cell 9)⟩⟩
   rw [HOK.out];rw [List.tail_cons] at h1;rw [h1];rfl
  ·refine⟨HK5.out.trans h3,.inr ⟨⟨m',8⟩,?_,h2,?_⟩⟩
   ·rw [HOK.out];rw [List.tail_cons] at h1;rw [h1];rfl
   ·exact .inl ⟨(show(8:Nat)≠6 by decide),h4⟩
 have HP:=hideIt hpost
 rcases hm with⟨_,rfl,_⟩ | ⟨m',_,rfl,_,_⟩
 ·go_wp2_with fail
  exact⟨rfl,HP.out⟩
 ·go_wp2_with fail
  go_end0
  exact HP.out
end
end Go.Proofs.YtebgikflpgcnlaaGreatDoor
