/- Part 31 of the proof: RdrM -/
import Derived.Test.YtebgikflpgcnlaaGreatDoorT29
namespace Go.Proofs.YtebgikflpgcnlaaGreatDoor
set_option linter.unusedVariables false
set_option linter.unusedSimpArgs false
set_option maxRecDepth 100000
set_option maxHeartbeats 4000000
open Go.RowKit Tryz
section
variable {B b hi M:Nat} {w:World} {r:RdV} {ln:Nat} {s:ByteArray}
theorem rd_read_1 (h:LIn B b hi M w r ln s) {t:List ByteArray} (hwd:wdsV s=flagonW::t):
 Calls prog 59 #[.pointer (some ⟨b,0,none⟩),.string s,.map (some M)] w (RdPost B b w ln (lineV r (wdsV s))):=by
 have hcall:=txt_words s (by have:=h.sz;omega) w
 obtain⟨hws,hpos⟩:=wds_facts s
 have hsz:=h.sz
 rw [hwd] at hcall hws⊢
 have hlv:lineV r (flagonW::t)=if okSt 1 r.st=true then(readK 1 r.m t).map (fun m'=>(⟨m',1⟩:RdV)) else none:=by
  have hk:kindW flagonW=1:=by kernel_rfl
  unfold lineV
  simp only [hk]
  rw [if_neg (by decide)]
 have HLV:=hideIt hlv
 have HI:=hideIt h
 have hz0:((((flagonW::t).length:Nat):Int)==0)=false:=by rw [beq_eq_false_iff_ne,List.length_cons];omega
 obtain⟨n,hn⟩: ∃n,n=(flagonW::t).length:=⟨_,rfl⟩
 rw [←hn] at hz0
 have hn0:0<n:=by rw [hn,List.length_cons];omega
 have HNN:=hideIt hn
 have HCALL:=hideIt hcall
 have hMl:=h.mlt
 have hhi:=h.hhi
 have HMAP:=hideIt h.map
 obtain⟨col,v1,v2,v3,v6,v7,v8,hr⟩:=h.rd.close
 have hlow:=hr.low
 have htop:=hr.top
 have HR:=hideIt hr
 clear hcall hlv h hr
 go_enter func59,ntmps59
 go_wp2_with fail
 refine HCALL.out.mono ?_
 clear HCALL
 rintro e w1 ⟨A,rfl,hA,ho,hb1⟩
 have hw1:=words_at ho hA (List.cons_ne_nil _ _) (by omega)
 have q0:w1.cell? ⟨A,0,none⟩=some (.string ⟨#[102,108,97,103,111,110]⟩):=hw1.at_ 0 _ rfl
 have hlt1:=hw1.lt
 have hbl:=HR.out.blk.lt
 have hsz1:=hb1.size
 have g8:w1.cell? ⟨b,8,none⟩=some (.int .i64 r.st):=(hb1.cell (p:=⟨b,8,none⟩) hbl).trans (HR.out.blk.cell 8)
 have hmap1:w1.heap[M]?=some (.map ruleEs 8):=(hb1.block M hMl).trans HMAP.out
 have hlook:=run_look (P:=prog) (W:=w1) (s:=⟨#[102,108,97,103,111,110]⟩) underlying108 underlying9 hmap1 (i:=0) (v:= .agg #[.int .i64 1,.func (.func 88) #[] #[]]) (by kernel_rfl)
 have HW1:=hideIt hw1;have HB1:=hideIt hb1
 rw [←HNN.out]
 have hq59:(((⟨#[102,108,97,103,111,110]⟩:ByteArray)[0].toNat:Int)==59)=false:=by decide
 clear hn ho hb1 hw1 hmap1 hws hpos hwd
 go_wp2_with fail
 generalize hw2:World.alloc _ _=w2
 have hb12:Below w1.heap.size w1 w2:=by rw [←hw2];exact(Below.refl _ _).alloc (Nat.le_refl _) _
 have hx2:Blk w2 w1.heap.size 148 [.int .i64 1,.func (.func 88) #[] #[]]:=by rw [←hw2];exact Blk.new w1 _ [.int .i64 1,.func (.func 88) #[] #[]]
 obtain⟨h6,hh6⟩: ∃h6,h6=w1.heap.size:=⟨_,rfl⟩
 rw [←hh6] at hx2⊢
 have hhl:w.heap.size≤h6:=by omega
 have HB2:=hideIt (HB1.out.trans (hb12.mono hsz1))
 have HW2:=hideIt (HW1.out.below hb12)
 have x0:=hx2.q 0 rfl
 have x1:=hx2.q 1 rfl
 have y8:w2.cell? ⟨b,8,none⟩=some (.int .i64 r.st):=(HB2.out.cell (p:=⟨b,8,none⟩) hbl).trans (HR.out.blk.cell 8)
 have z8:=(HR.out.blk.below HB2.out hbl).frozen 8
 have HX2:=hideIt hx2
 clear hw2 hb12 hx2 hh6 g8 q0 hlook HW1 HB1
 have hbad:okSt 1 r.st=false→Hid (lineV r (flagonW::t)=none∧Keep (fun k=>k<B∧k≠b) w w2.drew∧w2.drew.cell? ⟨b,9,none⟩=some (.int .i64 ln)):=fun hf=>
  hideIt ⟨by rw [HLV.out,hf];rfl,((Keep.of_all HB2.out).mono0 (fun k hk _=>hk)).drew,(HB2.out.cell (p:=⟨b,9,none⟩) hbl).trans (HR.out.blk.cell 9)⟩
 have hN0:((⟨#[102,108,97,103,111,110]⟩:ByteArray)[0].toNat:Int)=102:=by decide
 rw [hN0]
 clear hq59 hN0
 by_cases hc:1<r.st
 case pos=>
  have HBAD:=hbad (by cases hb:okSt 1 r.st with | false=>rfl | true=>exfalso;unfold okSt at hb;simp at hb;omega)
  have d0:decide ((r.st:Int)≤1)=false:=decide_eq_false (by omega)
  clear hbad
  refine wp_region_held_drew (S:=fun W=>W.cell? ⟨h6,0,none⟩=some (.int .i64 1)∧W.cell? ⟨b,8,none⟩=some (.int .i64 r.st)) (by kernel_rfl) ⟨x0,y8⟩ (fun hHeld=> ?_)
  refine takeIt (i:=0) (v:= ?_) rfl (by kernel_rfl) (fun _ _ _ h=>h) rfl (by intro w hSw;(try dsimp only at hSw);go_simp;try with_reducible rfl) hHeld ?_
  refine takeIt (i:=1) (v:= ?_) rfl (by kernel_rfl) (fun _ _ _ h=>h) rfl (by intro w hSw;(try dsimp only at hSw);go_simp;try with_reducible rfl) hHeld ?_
  refine takeIt (i:=2) (v:= ?_) rfl (by kernel_rfl) (fun _ _ _ h=>h) rfl (by intro w hSw;(try dsimp only at hSw);go_simp;try with_reducible rfl) hHeld ?_
  refine takeIt (i:=3) (v:= ?_) rfl (by kernel_rfl) (fun _ _ _ h=>h) rfl (by intro w hSw;(try dsimp only at hSw);go_simp;try with_reducible rfl) hHeld ?_
  refine takeIt (i:=4) (v:= ?_) rfl (by kernel_rfl) (fun _ _ _ h=>h) rfl (by intro w hSw;(try dsimp only at hSw);go_simp;try with_reducible rfl) hHeld ?_
  refine takeIt (i:=5) (v:= ?_) rfl (by kernel_rfl) (fun _ _ _ h=>h) rfl (by intro w hSw;(try dsimp only at hSw);go_simp;try with_reducible rfl) hHeld ?_
  refine takeIt (i:=6) (v:= ?_) rfl (by kernel_rfl) (fun _ _ _ h=>h) rfl (by intro w hSw;(try dsimp only at hSw);go_simp;try with_reducible rfl) hHeld ?_
  refine takeIt (i:=7) (v:= ?_) rfl (by kernel_rfl) (fun _ _ _ h=>h) rfl (by intro w hSw;(try dsimp only at hSw);go_simp;try with_reducible rfl) hHeld ?_
  refine wpAnyH_take (i:=8) (v:=undef) rfl (by kernel_rfl) (by kernel_rfl) (by kernel_rfl) (fun _ _ _ h=>h) (Or.inr ⟨by kernel_rfl,rfl⟩) hHeld ?_
  refine wpAnyH_take (i:=9) (v:=undef) rfl (by kernel_rfl) (by kernel_rfl) (by kernel_rfl) (fun _ _ _ h=>h) (Or.inr ⟨by kernel_rfl,rfl⟩) hHeld ?_
  refine wpAnyH_take (i:=10) (v:=undef) rfl (by kernel_rfl) (by kernel_rfl) (by kernel_rfl) (fun _ _ _ h=>h) (Or.inr ⟨by kernel_rfl,rfl⟩) hHeld ?_
  refine wpAnyH_take (i:=11) (v:=undef) rfl (by kernel_rfl) (by kernel_rfl) (by kernel_rfl) (fun _ _ _ h=>h) (Or.inr ⟨by kernel_rfl,rfl⟩) hHeld ?_
  refine wpAnyH_take (i:=12) (v:=undef) rfl (by kernel_rfl) (by kernel_rfl) (by kernel_rfl) (fun _ _ _ h=>h) (Or.inr ⟨by kernel_rfl,rfl⟩) hHeld ?_
  refine wpAnyH_take (i:=13) (v:=undef) rfl (by kernel_rfl) (by kernel_rfl) (by kernel_rfl) (fun _ _ _ h=>h) (Or.inr ⟨by kernel_rfl,rfl⟩) hHeld ?_
  refine wpAnyH_take (i:=14) (v:=undef) rfl (by kernel_rfl) (by kernel_rfl) (by kernel_rfl) (fun _ _ _ h=>h) (Or.inr ⟨by kernel_rfl,rfl⟩) hHeld ?_
  refine wpAnyH_take (i:=15) (v:=undef) rfl (by kernel_rfl) (by kernel_rfl) (by kernel_rfl) (fun _ _ _ h=>h) (Or.inr ⟨by kernel_rfl,rfl⟩) hHeld ?_
  refine wpAnyH_take (i:=16) (v:=undef) rfl (by kernel_rfl) (by kernel_rfl) (by kernel_rfl) (fun _ _ _ h=>h) (Or.inr ⟨by kernel_rfl,rfl⟩) hHeld ?_
  refine wpAnyH_take (i:=17) (v:=undef) rfl (by kernel_rfl) (by kernel_rfl) (by kernel_rfl) (fun _ _ _ h=>h) (Or.inr ⟨by kernel_rfl,rfl⟩) hHeld ?_
  refine wpAnyH_take (i:=18) (v:=undef) rfl (by kernel_rfl) (by kernel_rfl) (by kernel_rfl) (fun _ _ _ h=>h) (Or.inr ⟨by kernel_rfl,rfl⟩) hHeld ?_
  refine takeIt (i:=19) (v:= ?_) rfl (by kernel_rfl) (fun _ _ _ h=>h) rfl (by intro w hSw;(try dsimp only at hSw);go_simp;try with_reducible rfl) hHeld ?_
  refine wpAnyH_ready (rs:= [20]) (by kernel_rfl) (by simp) ?_
  refine AllReadyH.cons rfl (fun K hK=> ?_) AllReadyH.nil
  go_simp
  refine(txt_must_no _).mono ?_
  rintro e w3 ⟨rfl,rfl⟩
  go_wp2_with fail
  exact⟨rfl,HBAD.out.2.1,.inl ⟨HBAD.out.1,rfl,HBAD.out.2.2⟩⟩
 by_cases hc:r.st=1
 case pos=>
  have HBAD:=hbad (by cases hb:okSt 1 r.st with | false=>rfl | true=>exfalso;unfold okSt at hb;simp at hb;omega)
  have d0:decide ((r.st:Int)≤1)=true:=decide_eq_true (by omega)
  have d1:decide ((r.st:Int)<1)=false:=decide_eq_false (by omega)
  clear hbad
  refine wp_region_held_drew (S:=fun W=>W.cell? ⟨h6,0,none⟩=some (.int .i64 1)∧W.cell? ⟨b,8,none⟩=some (.int .i64 r.st)) (by kernel_rfl) ⟨x0,y8⟩ (fun hHeld=> ?_)
  refine takeIt (i:=0) (v:= ?_) rfl (by kernel_rfl) (fun _ _ _ h=>h) rfl (by intro w hSw;(try dsimp only at hSw);go_simp;try with_reducible rfl) hHeld ?_
  refine takeIt (i:=1) (v:= ?_) rfl (by kernel_rfl) (fun _ _ _ h=>h) rfl (by intro w hSw;(try dsimp only at hSw);go_simp;try with_reducible rfl) hHeld ?_
  refine takeIt (i:=2) (v:= ?_) rfl (by kernel_rfl) (fun _ _ _ h=>h) rfl (by intro w hSw;(try dsimp only at hSw);go_simp;try with_reducible rfl) hHeld ?_
  refine takeIt (i:=3) (v:= ?_) rfl (by kernel_rfl) (fun _ _ _ h=>h) rfl (by intro w hSw;(try dsimp only at hSw);go_simp;try with_reducible rfl) hHeld ?_
  refine takeIt (i:=4) (v:= ?_) rfl (by kernel_rfl) (fun _ _ _ h=>h) rfl (by intro w hSw;(try dsimp only at hSw);go_simp;try with_reducible rfl) hHeld ?_
  refine takeIt (i:=5) (v:= ?_) rfl (by kernel_rfl) (fun _ _ _ h=>h) rfl (by intro w hSw;(try dsimp only at hSw);go_simp;try with_reducible rfl) hHeld ?_
  refine takeIt (i:=6) (v:= ?_) rfl (by kernel_rfl) (fun _ _ _ h=>h) rfl (by intro w hSw;(try dsimp only at hSw);go_simp;try with_reducible rfl) hHeld ?_
  refine takeIt (i:=7) (v:= ?_) rfl (by kernel_rfl) (fun _ _ _ h=>h) rfl (by intro w hSw;(try dsimp only at hSw);go_simp;try with_reducible rfl) hHeld ?_
  refine wpAnyH_take (i:=8) (v:= ?_) rfl (by kernel_rfl) (by kernel_rfl) (by kernel_rfl) (fun _ _ _ h=>h) (Or.inl ⟨by kernel_rfl,by intro w hSw;(try dsimp only at hSw);go_simp;try with_reducible rfl⟩) hHeld ?_
  refine wpAnyH_take (i:=9) (v:= ?_) rfl (by kernel_rfl) (by kernel_rfl) (by kernel_rfl) (fun _ _ _ h=>h) (Or.inl ⟨by kernel_rfl,by intro w hSw;(try dsimp only at hSw);go_simp;try with_reducible rfl⟩) hHeld ?_
  refine wpAnyH_take (i:=10) (v:= ?_) rfl (by kernel_rfl) (by kernel_rfl) (by kernel_rfl) (fun _ _ _ h=>h) (Or.inl ⟨by kernel_rfl,by intro w hSw;(try dsimp only at hSw);go_simp;try with_reducible rfl⟩) hHeld ?_
  refine wpAnyH_take (i:=11) (v:= ?_) rfl (by kernel_rfl) (by kernel_rfl) (by kernel_rfl) (fun _ _ _ h=>h) (Or.inl ⟨by kernel_rfl,by intro w hSw;(try dsimp only at hSw);go_simp;try with_reducible rfl⟩) hHeld ?_
  refine wpAnyH_take (i:=12) (v:= ?_) rfl (by kernel_rfl) (by kernel_rfl) (by kernel_rfl) (fun _ _ _ h=>h) (Or.inl ⟨by kernel_rfl,by intro w hSw;(try dsimp only at hSw);go_simp;try with_reducible rfl⟩) hHeld ?_
  refine wpAnyH_take (i:=13) (v:= ?_) rfl (by kernel_rfl) (by kernel_rfl) (by kernel_rfl) (fun _ _ _ h=>h) (Or.inl ⟨by kernel_rfl,by intro w hSw;(try dsimp only at hSw);go_simp;try with_reducible rfl⟩) hHeld ?_
  refine wpAnyH_take (i:=14) (v:= ?_) rfl (by kernel_rfl) (by kernel_rfl) (by kernel_rfl) (fun _ _ _ h=>h) (Or.inl ⟨by kernel_rfl,by intro w hSw;(try dsimp only at hSw);go_simp;try with_reducible rfl⟩) hHeld ?_
  refine wpAnyH_take (i:=15) (v:= ?_) rfl (by kernel_rfl) (by kernel_rfl) (by kernel_rfl) (fun _ _ _ h=>h) (Or.inl ⟨by kernel_rfl,by intro w hSw;(try dsimp only at hSw);go_simp;try with_reducible rfl⟩) hHeld ?_
  refine wpAnyH_take (i:=16) (v:= ?_) rfl (by kernel_rfl) (by kernel_rfl) (by kernel_rfl) (fun _ _ _ h=>h) (Or.inl ⟨by kernel_rfl,by intro w hSw;(try dsimp only at hSw);go_simp;try with_reducible rfl⟩) hHeld ?_
  refine wpAnyH_take (i:=17) (v:= ?_) rfl (by kernel_rfl) (by kernel_rfl) (by kernel_rfl) (fun _ _ _ h=>h) (Or.inl ⟨by kernel_rfl,by intro w hSw;(try dsimp only at hSw);go_simp;try with_reducible rfl⟩) hHeld ?_
  refine wpAnyH_take (i:=18) (v:= ?_) rfl (by kernel_rfl) (by kernel_rfl) (by kernel_rfl) (fun _ _ _ h=>h) (Or.inl ⟨by kernel_rfl,by intro w hSw;(try dsimp only at hSw);go_simp;try with_reducible rfl⟩) hHeld ?_
  refine takeIt (i:=19) (v:= ?_) rfl (by kernel_rfl) (fun _ _ _ h=>h) rfl (by intro w hSw;(try dsimp only at hSw);go_simp;try with_reducible rfl) hHeld ?_
  refine wpAnyH_ready (rs:= [20]) (by kernel_rfl) (by simp) ?_
  refine AllReadyH.cons rfl (fun K hK=> ?_) AllReadyH.nil
  go_simp
  refine(txt_must_no _).mono ?_
  rintro e w3 ⟨rfl,rfl⟩
  go_wp2_with fail
  exact⟨rfl,HBAD.out.2.1,.inl ⟨HBAD.out.1,rfl,HBAD.out.2.2⟩⟩
 have d0:decide ((r.st:Int)≤1)=true:=decide_eq_true (by omega)
 have d1:decide ((r.st:Int)<1)=true:=decide_eq_true (by omega)
 have d2:((r.st:Int) !=0)=false:=by rw [bne_eq_false_iff_eq];omega
 have HOK:Hid (lineV r (flagonW::t)=(readK 1 r.m t).map (fun m'=>(⟨m',1⟩:RdV))):=hideIt (by
  have ho:okSt 1 r.st=true:=by
   cases hb:okSt 1 r.st with
   | true=>rfl
   | false=>exfalso;unfold okSt at hb;simp at hb;omega
  rw [HLV.out,ho];rfl)
 clear hbad
 refine wp_region_held_drew (S:=fun W=>W.cell? ⟨h6,0,none⟩=some (.int .i64 1)∧W.cell? ⟨b,8,none⟩=some (.int .i64 r.st)) (by kernel_rfl) ⟨x0,y8⟩ (fun hHeld=> ?_)
 refine takeIt (i:=0) (v:= ?_) rfl (by kernel_rfl) (fun _ _ _ h=>h) rfl (by intro w hSw;(try dsimp only at hSw);go_simp;try with_reducible rfl) hHeld ?_
 refine takeIt (i:=1) (v:= ?_) rfl (by kernel_rfl) (fun _ _ _ h=>h) rfl (by intro w hSw;(try dsimp only at hSw);go_simp;try with_reducible rfl) hHeld ?_
 refine takeIt (i:=2) (v:= ?_) rfl (by kernel_rfl) (fun _ _ _ h=>h) rfl (by intro w hSw;(try dsimp only at hSw);go_simp;try with_reducible rfl) hHeld ?_
 refine takeIt (i:=3) (v:= ?_) rfl (by kernel_rfl) (fun _ _ _ h=>h) rfl (by intro w hSw;(try dsimp only at hSw);go_simp;try with_reducible rfl) hHeld ?_
 refine takeIt (i:=4) (v:= ?_) rfl (by kernel_rfl) (fun _ _ _ h=>h) rfl (by intro w hSw;(try dsimp only at hSw);go_simp;try with_reducible rfl) hHeld ?_
 refine takeIt (i:=5) (v:= ?_) rfl (by kernel_rfl) (fun _ _ _ h=>h) rfl (by intro w hSw;(try dsimp only at hSw);go_simp;try with_reducible rfl) hHeld ?_
 refine takeIt (i:=6) (v:= ?_) rfl (by kernel_rfl) (fun _ _ _ h=>h) rfl (by intro w hSw;(try dsimp only at hSw);go_simp;try with_reducible rfl) hHeld ?_
 refine takeIt (i:=7) (v:= ?_) rfl (by kernel_rfl) (fun _ _ _ h=>h) rfl (by intro w hSw;(try dsimp only at hSw);go_simp;try with_reducible rfl) hHeld ?_
 refine wpAnyH_take (i:=8) (v:= ?_) rfl (by kernel_rfl) (by kernel_rfl) (by kernel_rfl) (fun _ _ _ h=>h) (Or.inl ⟨by kernel_rfl,by intro w hSw;(try dsimp only at hSw);go_simp;try with_reducible rfl⟩) hHeld ?_
 refine wpAnyH_take (i:=9) (v:= ?_) rfl (by kernel_rfl) (by kernel_rfl) (by kernel_rfl) (fun _ _ _ h=>h) (Or.inl ⟨by kernel_rfl,by intro w hSw;(try dsimp only at hSw);go_simp;try with_reducible rfl⟩) hHeld ?_
 refine wpAnyH_take (i:=10) (v:= ?_) rfl (by kernel_rfl) (by kernel_rfl) (by kernel_rfl) (fun _ _ _ h=>h) (Or.inl ⟨by kernel_rfl,by intro w hSw;(try dsimp only at hSw);go_simp;try with_reducible rfl⟩) hHeld ?_
 refine wpAnyH_take (i:=11) (v:= ?_) rfl (by kernel_rfl) (by kernel_rfl) (by kernel_rfl) (fun _ _ _ h=>h) (Or.inl ⟨by kernel_rfl,by intro w hSw;(try dsimp only at hSw);go_simp;try with_reducible rfl⟩) hHeld ?_
 refine wpAnyH_take (i:=12) (v:= ?_) rfl (by kernel_rfl) (by kernel_rfl) (by kernel_rfl) (fun _ _ _ h=>h) (Or.inl ⟨by kernel_rfl,by intro w hSw;(try dsimp only at hSw);go_simp;try with_reducible rfl⟩) hHeld ?_
 refine wpAnyH_take (i:=13) (v:= ?_) rfl (by kernel_rfl) (by kernel_rfl) (by kernel_rfl) (fun _ _ _ h=>h) (Or.inl ⟨by kernel_rfl,by intro w hSw;(try dsimp only at hSw);go_simp;try with_reducible rfl⟩) hHeld ?_
 refine wpAnyH_take (i:=14) (v:= ?_) rfl (by kernel_rfl) (by kernel_rfl) (by kernel_rfl) (fun _ _ _ h=>h) (Or.inl ⟨by kernel_rfl,by intro w hSw;(try dsimp only at hSw);go_simp;try with_reducible rfl⟩) hHeld ?_
 refine wpAnyH_take (i:=15) (v:= ?_) rfl (by kernel_rfl) (by kernel_rfl) (by kernel_rfl) (fun _ _ _ h=>h) (Or.inl ⟨by kernel_rfl,by intro w hSw;(try dsimp only at hSw);go_simp;try with_reducible rfl⟩) hHeld ?_
 refine wpAnyH_take (i:=16) (v:= ?_) rfl (by kernel_rfl) (by kernel_rfl) (by kernel_rfl) (fun _ _ _ h=>h) (Or.inl ⟨by kernel_rfl,by intro w hSw;(try dsimp only at hSw);go_simp;try with_reducible rfl⟩) hHeld ?_
 refine wpAnyH_take (i:=17) (v:= ?_) rfl (by kernel_rfl) (by kernel_rfl) (by kernel_rfl) (fun _ _ _ h=>h) (Or.inl ⟨by kernel_rfl,by intro w hSw;(try dsimp only at hSw);go_simp;try with_reducible rfl⟩) hHeld ?_
 refine wpAnyH_take (i:=18) (v:= ?_) rfl (by kernel_rfl) (by kernel_rfl) (by kernel_rfl) (fun _ _ _ h=>h) (Or.inl ⟨by kernel_rfl,by intro w hSw;(try dsimp only at hSw);go_simp;try with_reducible rfl⟩) hHeld ?_
 refine takeIt (i:=19) (v:= ?_) rfl (by kernel_rfl) (fun _ _ _ h=>h) rfl (by intro w hSw;(try dsimp only at hSw);go_simp;try with_reducible rfl) hHeld ?_
 refine wpAnyH_ready (rs:= [20]) (by kernel_rfl) (by simp) ?_
 refine AllReadyH.cons rfl (fun K hK=> ?_) AllReadyH.nil
 go_simp
 refine(txt_must_yes _).mono ?_
 rintro e w3 ⟨rfl,rfl⟩
 refine hK.out _ _ ⟨x0,y8⟩ (fun hHeld2=> ?_)
 clear hK K
 refine wpAnyH_done (by kernel_rfl) ?_ _
 clear hHeld hHeld2
 go_wp2_with fail
 refine(txt_must_yes _).mono ?_
 rintro e w3 ⟨rfl,rfl⟩
 go_wp2_with fail
 refine(txt_must_yes _).mono ?_
 rintro e w3 ⟨rfl,rfl⟩
 go_upto_region 10 with fail
 have hr5:RdC B b (w2.setCell ⟨b,8,none⟩ (.int .i64 (1:Nat))).drew _ v1 v2 v3 v6 v7 v8 r.m 1 ln:=((HR.out.below HB2.out).stage 1).below ((Below.refl _ _).drew)
 have hx5:Blk (w2.setCell ⟨b,8,none⟩ (.int .i64 (1:Nat))).drew h6 148 [.int .i64 1,.func (.func 88) #[] #[]]:=(HX2.out.far (p:=⟨b,8,none⟩) (by show h6≠b;omega) _).drewN 1
 have hK5:Keep (fun k=>k<B∧k≠b) w (w2.setCell ⟨b,8,none⟩ (.int .i64 (1:Nat))).drew:=(((Keep.of_all HB2.out).mono0 (fun k hk _=>hk)).setCell (p:=⟨b,8,none⟩) (fun e=>e.2 rfl) _).drew
 have hW5:WordsAt (w2.setCell ⟨b,8,none⟩ (.int .i64 (1:Nat))).drew A (flagonW::t):=(HW2.out.keep (K:=fun k=>k≠b) (((Keep.refl _ w2).setCell (p:=⟨b,8,none⟩) (fun e=>e rfl) _).drew) (by omega))
 have hE5:EnvAt hi (w2.setCell ⟨b,8,none⟩ (.int .i64 (1:Nat))).drew:=HI.out.env.to (((HB2.out.mono (show hi≤w.heap.size by omega)).setCell (p:=⟨b,8,none⟩) hhi _).drew)
 generalize World.drew (w2.setCell _ _)=w5 at*
 have x1:=hx5.q 1 rfl
 have HR5:=hideIt hr5;have HK5:=hideIt hK5;have HW5:=hideIt hW5;have HE5:=hideIt hE5
 clear hr5 hK5 hW5 hE5 hx5 x0 y8 z8 HX2 HW2
 go_wp2_with fail
 rw [HNN.out]
 refine(rd_begin ⟨HR5.out,HW5.out,HE5.out,hhi,HI.out.lens,by omega⟩ (List.cons_ne_nil _ _)).mono ?_
 rintro e w6 hm
 have hpost:RdPost B b w ln (lineV r (flagonW::t)) e w6:=by
  rcases hm with⟨h1,h2,h3⟩ | ⟨m',h1,h2,h3,h4⟩
  ·refine⟨HK5.out.trans ((Keep.of_all h3).mono0 (fun k hk _=>hk)),.inl ⟨?_,h2,(h3.cell (p:=⟨b,9,none⟩) HR5.out.blk.lt).trans (HR5.out.blk.cell 9)⟩⟩
   rw [HOK.out];rw [List.tail_cons] at h1;rw [h1];rfl
  ·refine⟨HK5.out.trans h3,.inr ⟨⟨m',1⟩,?_,h2,?_⟩⟩
   ·rw [HOK.out];rw [List.tail_cons] at h1;rw [h1];rfl
   ·exact .inl ⟨(show(1:Nat)≠6 by decide),h4⟩
 have HP:=hideIt hpost
 rcases hm with⟨_,rfl,_⟩ | ⟨m',_,rfl,_,_⟩
 ·go_wp2_with fail
  exact⟨rfl,HP.out⟩
 ·go_wp2_with fail
  go_end0
  exact HP.out
theorem rd_read_2 (h:LIn B b hi M w r ln s) {t:List ByteArray} (hwd:wdsV s=typeW::t):
 Calls prog 59 #[.pointer (some ⟨b,0,none⟩),.string s,.map (some M)] w (RdPost B b w ln (lineV r (wdsV s))):=by
 have hcall:=txt_words s (by have:=h.sz;omega) w
 obtain⟨hws,hpos⟩:=wds_facts s
 have hsz:=h.sz
 rw [hwd] at hcall hws⊢
 have hlv:lineV r (typeW::t)=if okSt 2 r.st=true then(readK 2 r.m t).map (fun m'=>(⟨m',2⟩:RdV)) else none:=by
  have hk:kindW typeW=2:=by kernel_rfl
  unfold lineV
  simp only [hk]
  rw [if_neg (by decide)]
 have HLV:=hideIt hlv
 have HI:=hideIt h
 have hz0:((((typeW::t).length:Nat):Int)==0)=false:=by rw [beq_eq_false_iff_ne,List.length_cons];omega
 obtain⟨n,hn⟩: ∃n,n=(typeW::t).length:=⟨_,rfl⟩
 rw [←hn] at hz0
 have hn0:0<n:=by rw [hn,List.length_cons];omega
 have HNN:=hideIt hn
 have HCALL:=hideIt hcall
 have hMl:=h.mlt
 have hhi:=h.hhi
 have HMAP:=hideIt h.map
 obtain⟨col,v1,v2,v3,v6,v7,v8,hr⟩:=h.rd.close
 have hlow:=hr.low
 have htop:=hr.top
 have HR:=hideIt hr
 clear hcall hlv h hr
 go_enter func59,ntmps59
 go_wp2_with fail
 refine HCALL.out.mono ?_
 clear HCALL
 rintro e w1 ⟨A,rfl,hA,ho,hb1⟩
 have hw1:=words_at ho hA (List.cons_ne_nil _ _) (by omega)
 have q0:w1.cell? ⟨A,0,none⟩=some (.string ⟨#[116,121,112,101]⟩):=hw1.at_ 0 _ rfl
 have hlt1:=hw1.lt
 have hbl:=HR.out.blk.lt
 have hsz1:=hb1.size
 have g8:w1.cell? ⟨b,8,none⟩=some (.int .i64 r.st):=(hb1.cell (p:=⟨b,8,none⟩) hbl).trans (HR.out.blk.cell 8)
 have hmap1:w1.heap[M]?=some (.map ruleEs 8):=(hb1.block M hMl).trans HMAP.out
 have hlook:=run_look (P:=prog) (W:=w1) (s:=⟨#[116,121,112,101]⟩) underlying108 underlying9 hmap1 (i:=1) (v:= .agg #[.int .i64 2,.func (.func 89) #[] #[]]) (by kernel_rfl)
 have HW1:=hideIt hw1;have HB1:=hideIt hb1
 rw [←HNN.out]
 have hq59:(((⟨#[116,121,112,101]⟩:ByteArray)[0].toNat:Int)==59)=false:=by decide
 clear hn ho hb1 hw1 hmap1 hws hpos hwd
 go_wp2_with fail
 generalize hw2:World.alloc _ _=w2
 have hb12:Below w1.heap.size w1 w2:=by rw [←hw2];exact(Below.refl _ _).alloc (Nat.le_refl _) _
 have hx2:Blk w2 w1.heap.size 148 [.int .i64 2,.func (.func 89) #[] #[]]:=by rw [←hw2];exact Blk.new w1 _ [.int .i64 2,.func (.func 89) #[] #[]]
 obtain⟨h6,hh6⟩: ∃h6,h6=w1.heap.size:=⟨_,rfl⟩
 rw [←hh6] at hx2⊢
 have hhl:w.heap.size≤h6:=by omega
 have HB2:=hideIt (HB1.out.trans (hb12.mono hsz1))
 have HW2:=hideIt (HW1.out.below hb12)
 have x0:=hx2.q 0 rfl
 have x1:=hx2.q 1 rfl
 have y8:w2.cell? ⟨b,8,none⟩=some (.int .i64 r.st):=(HB2.out.cell (p:=⟨b,8,none⟩) hbl).trans (HR.out.blk.cell 8)
 have z8:=(HR.out.blk.below HB2.out hbl).frozen 8
 have HX2:=hideIt hx2
 clear hw2 hb12 hx2 hh6 g8 q0 hlook HW1 HB1
 have hbad:okSt 2 r.st=false→Hid (lineV r (typeW::t)=none∧Keep (fun k=>k<B∧k≠b) w w2.drew∧w2.drew.cell? ⟨b,9,none⟩=some (.int .i64 ln)):=fun hf=>
  hideIt ⟨by rw [HLV.out,hf];rfl,((Keep.of_all HB2.out).mono0 (fun k hk _=>hk)).drew,(HB2.out.cell (p:=⟨b,9,none⟩) hbl).trans (HR.out.blk.cell 9)⟩
 have hN0:((⟨#[116,121,112,101]⟩:ByteArray)[0].toNat:Int)=116:=by decide
 rw [hN0]
 clear hq59 hN0
 by_cases hc:2<r.st
 case pos=>
  have HBAD:=hbad (by cases hb:okSt 2 r.st with | false=>rfl | true=>exfalso;unfold okSt at hb;simp at hb;omega)
  have d0:decide ((r.st:Int)≤2)=false:=decide_eq_false (by omega)
  clear hbad
  refine wp_region_held_drew (S:=fun W=>W.cell? ⟨h6,0,none⟩=some (.int .i64 2)∧W.cell? ⟨b,8,none⟩=some (.int .i64 r.st)) (by kernel_rfl) ⟨x0,y8⟩ (fun hHeld=> ?_)
  refine takeIt (i:=0) (v:= ?_) rfl (by kernel_rfl) (fun _ _ _ h=>h) rfl (by intro w hSw;(try dsimp only at hSw);go_simp;try with_reducible rfl) hHeld ?_
  refine takeIt (i:=1) (v:= ?_) rfl (by kernel_rfl) (fun _ _ _ h=>h) rfl (by intro w hSw;(try dsimp only at hSw);go_simp;try with_reducible rfl) hHeld ?_
  refine takeIt (i:=2) (v:= ?_) rfl (by kernel_rfl) (fun _ _ _ h=>h) rfl (by intro w hSw;(try dsimp only at hSw);go_simp;try with_reducible rfl) hHeld ?_
  refine takeIt (i:=3) (v:= ?_) rfl (by kernel_rfl) (fun _ _ _ h=>h) rfl (by intro w hSw;(try dsimp only at hSw);go_simp;try with_reducible rfl) hHeld ?_
  refine takeIt (i:=4) (v:= ?_) rfl (by kernel_rfl) (fun _ _ _ h=>h) rfl (by intro w hSw;(try dsimp only at hSw);go_simp;try with_reducible rfl) hHeld ?_
  refine takeIt (i:=5) (v:= ?_) rfl (by kernel_rfl) (fun _ _ _ h=>h) rfl (by intro w hSw;(try dsimp only at hSw);go_simp;try with_reducible rfl) hHeld ?_
  refine takeIt (i:=6) (v:= ?_) rfl (by kernel_rfl) (fun _ _ _ h=>h) rfl (by intro w hSw;(try dsimp only at hSw);go_simp;try with_reducible rfl) hHeld ?_
  refine takeIt (i:=7) (v:= ?_) rfl (by kernel_rfl) (fun _ _ _ h=>h) rfl (by intro w hSw;(try dsimp only at hSw);go_simp;try with_reducible rfl) hHeld ?_
  refine wpAnyH_take (i:=8) (v:=undef) rfl (by kernel_rfl) (by kernel_rfl) (by kernel_rfl) (fun _ _ _ h=>h) (Or.inr ⟨by kernel_rfl,rfl⟩) hHeld ?_
  refine wpAnyH_take (i:=9) (v:=undef) rfl (by kernel_rfl) (by kernel_rfl) (by kernel_rfl) (fun _ _ _ h=>h) (Or.inr ⟨by kernel_rfl,rfl⟩) hHeld ?_
  refine wpAnyH_take (i:=10) (v:=undef) rfl (by kernel_rfl) (by kernel_rfl) (by kernel_rfl) (fun _ _ _ h=>h) (Or.inr ⟨by kernel_rfl,rfl⟩) hHeld ?_
  refine wpAnyH_take (i:=11) (v:=undef) rfl (by kernel_rfl) (by kernel_rfl) (by kernel_rfl) (fun _ _ _ h=>h) (Or.inr ⟨by kernel_rfl,rfl⟩) hHeld ?_
  refine wpAnyH_take (i:=12) (v:=undef) rfl (by kernel_rfl) (by kernel_rfl) (by kernel_rfl) (fun _ _ _ h=>h) (Or.inr ⟨by kernel_rfl,rfl⟩) hHeld ?_
  refine wpAnyH_take (i:=13) (v:=undef) rfl (by kernel_rfl) (by kernel_rfl) (by kernel_rfl) (fun _ _ _ h=>h) (Or.inr ⟨by kernel_rfl,rfl⟩) hHeld ?_
  refine wpAnyH_take (i:=14) (v:=undef) rfl (by kernel_rfl) (by kernel_rfl) (by kernel_rfl) (fun _ _ _ h=>h) (Or.inr ⟨by kernel_rfl,rfl⟩) hHeld ?_
  refine wpAnyH_take (i:=15) (v:=undef) rfl (by kernel_rfl) (by kernel_rfl) (by kernel_rfl) (fun _ _ _ h=>h) (Or.inr ⟨by kernel_rfl,rfl⟩) hHeld ?_
  refine wpAnyH_take (i:=16) (v:=undef) rfl (by kernel_rfl) (by kernel_rfl) (by kernel_rfl) (fun _ _ _ h=>h) (Or.inr ⟨by kernel_rfl,rfl⟩) hHeld ?_
  refine wpAnyH_take (i:=17) (v:=undef) rfl (by kernel_rfl) (by kernel_rfl) (by kernel_rfl) (fun _ _ _ h=>h) (Or.inr ⟨by kernel_rfl,rfl⟩) hHeld ?_
  refine wpAnyH_take (i:=18) (v:=undef) rfl (by kernel_rfl) (by kernel_rfl) (by kernel_rfl) (fun _ _ _ h=>h) (Or.inr ⟨by kernel_rfl,rfl⟩) hHeld ?_
  refine takeIt (i:=19) (v:= ?_) rfl (by kernel_rfl) (fun _ _ _ h=>h) rfl (by intro w hSw;(try dsimp only at hSw);go_simp;try with_reducible rfl) hHeld ?_
  refine wpAnyH_ready (rs:= [20]) (by kernel_rfl) (by simp) ?_
  refine AllReadyH.cons rfl (fun K hK=> ?_) AllReadyH.nil
  go_simp
  refine(txt_must_no _).mono ?_
  rintro e w3 ⟨rfl,rfl⟩
  go_wp2_with fail
  exact⟨rfl,HBAD.out.2.1,.inl ⟨HBAD.out.1,rfl,HBAD.out.2.2⟩⟩
 by_cases hc:r.st=0
 case pos=>
  have HBAD:=hbad (by cases hb:okSt 2 r.st with | false=>rfl | true=>exfalso;unfold okSt at hb;simp at hb;omega)
  have d0:decide ((r.st:Int)≤2)=true:=decide_eq_true (by omega)
  have d1:((r.st:Int) !=0)=false:=by rw [bne_eq_false_iff_eq];omega
  clear hbad
  refine wp_region_held_drew (S:=fun W=>W.cell? ⟨h6,0,none⟩=some (.int .i64 2)∧W.cell? ⟨b,8,none⟩=some (.int .i64 r.st)) (by kernel_rfl) ⟨x0,y8⟩ (fun hHeld=> ?_)
  refine takeIt (i:=0) (v:= ?_) rfl (by kernel_rfl) (fun _ _ _ h=>h) rfl (by intro w hSw;(try dsimp only at hSw);go_simp;try with_reducible rfl) hHeld ?_
  refine takeIt (i:=1) (v:= ?_) rfl (by kernel_rfl) (fun _ _ _ h=>h) rfl (by intro w hSw;(try dsimp only at hSw);go_simp;try with_reducible rfl) hHeld ?_
  refine takeIt (i:=2) (v:= ?_) rfl (by kernel_rfl) (fun _ _ _ h=>h) rfl (by intro w hSw;(try dsimp only at hSw);go_simp;try with_reducible rfl) hHeld ?_
  refine takeIt (i:=3) (v:= ?_) rfl (by kernel_rfl) (fun _ _ _ h=>h) rfl (by intro w hSw;(try dsimp only at hSw);go_simp;try with_reducible rfl) hHeld ?_
  refine takeIt (i:=4) (v:= ?_) rfl (by kernel_rfl) (fun _ _ _ h=>h) rfl (by intro w hSw;(try dsimp only at hSw);go_simp;try with_reducible rfl) hHeld ?_
  refine takeIt (i:=5) (v:= ?_) rfl (by kernel_rfl) (fun _ _ _ h=>h) rfl (by intro w hSw;(try dsimp only at hSw);go_simp;try with_reducible rfl) hHeld ?_
  refine takeIt (i:=6) (v:= ?_) rfl (by kernel_rfl) (fun _ _ _ h=>h) rfl (by intro w hSw;(try dsimp only at hSw);go_simp;try with_reducible rfl) hHeld ?_
  refine takeIt (i:=7) (v:= ?_) rfl (by kernel_rfl) (fun _ _ _ h=>h) rfl (by intro w hSw;(try dsimp only at hSw);go_simp;try with_reducible rfl) hHeld ?_
  refine wpAnyH_take (i:=8) (v:= ?_) rfl (by kernel_rfl) (by kernel_rfl) (by kernel_rfl) (fun _ _ _ h=>h) (Or.inl ⟨by kernel_rfl,by intro w hSw;(try dsimp only at hSw);go_simp;try with_reducible rfl⟩) hHeld ?_
  refine wpAnyH_take (i:=9) (v:= ?_) rfl (by kernel_rfl) (by kernel_rfl) (by kernel_rfl) (fun _ _ _ h=>h) (Or.inl ⟨by kernel_rfl,by intro w hSw;(try dsimp only at hSw);go_simp;try with_reducible rfl⟩) hHeld ?_
  refine wpAnyH_take (i:=10) (v:= ?_) rfl (by kernel_rfl) (by kernel_rfl) (by kernel_rfl) (fun _ _ _ h=>h) (Or.inl ⟨by kernel_rfl,by intro w hSw;(try dsimp only at hSw);go_simp;try with_reducible rfl⟩) hHeld ?_
  refine wpAnyH_take (i:=11) (v:=undef) rfl (by kernel_rfl) (by kernel_rfl) (by kernel_rfl) (fun _ _ _ h=>h) (Or.inr ⟨by kernel_rfl,rfl⟩) hHeld ?_
  refine wpAnyH_take (i:=12) (v:=undef) rfl (by kernel_rfl) (by kernel_rfl) (by kernel_rfl) (fun _ _ _ h=>h) (Or.inr ⟨by kernel_rfl,rfl⟩) hHeld ?_
  refine wpAnyH_take (i:=13) (v:=undef) rfl (by kernel_rfl) (by kernel_rfl) (by kernel_rfl) (fun _ _ _ h=>h) (Or.inr ⟨by kernel_rfl,rfl⟩) hHeld ?_
  refine wpAnyH_take (i:=14) (v:=undef) rfl (by kernel_rfl) (by kernel_rfl) (by kernel_rfl) (fun _ _ _ h=>h) (Or.inr ⟨by kernel_rfl,rfl⟩) hHeld ?_
  refine wpAnyH_take (i:=15) (v:=undef) rfl (by kernel_rfl) (by kernel_rfl) (by kernel_rfl) (fun _ _ _ h=>h) (Or.inr ⟨by kernel_rfl,rfl⟩) hHeld ?_
  refine wpAnyH_take (i:=16) (v:=undef) rfl (by kernel_rfl) (by kernel_rfl) (by kernel_rfl) (fun _ _ _ h=>h) (Or.inr ⟨by kernel_rfl,rfl⟩) hHeld ?_
  refine wpAnyH_take (i:=17) (v:=undef) rfl (by kernel_rfl) (by kernel_rfl) (by kernel_rfl) (fun _ _ _ h=>h) (Or.inr ⟨by kernel_rfl,rfl⟩) hHeld ?_
  refine wpAnyH_take (i:=18) (v:= ?_) rfl (by kernel_rfl) (by kernel_rfl) (by kernel_rfl) (fun _ _ _ h=>h) (Or.inl ⟨by kernel_rfl,by intro w hSw;(try dsimp only at hSw);go_simp;try with_reducible rfl⟩) hHeld ?_
  refine takeIt (i:=19) (v:= ?_) rfl (by kernel_rfl) (fun _ _ _ h=>h) rfl (by intro w hSw;(try dsimp only at hSw);go_simp;try with_reducible rfl) hHeld ?_
  refine wpAnyH_ready (rs:= [20]) (by kernel_rfl) (by simp) ?_
  refine AllReadyH.cons rfl (fun K hK=> ?_) AllReadyH.nil
  go_simp
  refine(txt_must_yes _).mono ?_
  rintro e w3 ⟨rfl,rfl⟩
  refine hK.out _ _ ⟨x0,y8⟩ (fun hHeld2=> ?_)
  clear hK K
  refine wpAnyH_done (by kernel_rfl) ?_ _
  clear hHeld hHeld2
  go_wp2_with fail
  refine(txt_must_no _).mono ?_
  rintro e w3 ⟨rfl,rfl⟩
  go_wp2_with fail
  exact⟨rfl,HBAD.out.2.1,.inl ⟨HBAD.out.1,rfl,HBAD.out.2.2⟩⟩
 have d0:decide ((r.st:Int)≤2)=true:=decide_eq_true (by omega)
 have d1:((r.st:Int) !=0)=true:=by rw [bne_iff_ne];omega
 have HOK:Hid (lineV r (typeW::t)=(readK 2 r.m t).map (fun m'=>(⟨m',2⟩:RdV))):=hideIt (by
  have ho:okSt 2 r.st=true:=by
   cases hb:okSt 2 r.st with
   | true=>rfl
   | false=>exfalso;unfold okSt at hb;simp at hb;omega
  rw [HLV.out,ho];rfl)
 clear hbad
 refine wp_region_held_drew (S:=fun W=>W.cell? ⟨h6,0,none⟩=some (.int .i64 2)∧W.cell? ⟨b,8,none⟩=some (.int .i64 r.st)) (by kernel_rfl) ⟨x0,y8⟩ (fun hHeld=> ?_)
 refine takeIt (i:=0) (v:= ?_) rfl (by kernel_rfl) (fun _ _ _ h=>h) rfl (by intro w hSw;(try dsimp only at hSw);go_simp;try with_reducible rfl) hHeld ?_
 refine takeIt (i:=1) (v:= ?_) rfl (by kernel_rfl) (fun _ _ _ h=>h) rfl (by intro w hSw;(try dsimp only at hSw);go_simp;try with_reducible rfl) hHeld ?_
 refine takeIt (i:=2) (v:= ?_) rfl (by kernel_rfl) (fun _ _ _ h=>h) rfl (by intro w hSw;(try dsimp only at hSw);go_simp;try with_reducible rfl) hHeld ?_
 refine takeIt (i:=3) (v:= ?_) rfl (by kernel_rfl) (fun _ _ _ h=>h) rfl (by intro w hSw;(try dsimp only at hSw);go_simp;try with_reducible rfl) hHeld ?_
 refine takeIt (i:=4) (v:= ?_) rfl (by kernel_rfl) (fun _ _ _ h=>h) rfl (by intro w hSw;(try dsimp only at hSw);go_simp;try with_reducible rfl) hHeld ?_
 refine takeIt (i:=5) (v:= ?_) rfl (by kernel_rfl) (fun _ _ _ h=>h) rfl (by intro w hSw;(try dsimp only at hSw);go_simp;try with_reducible rfl) hHeld ?_
 refine takeIt (i:=6) (v:= ?_) rfl (by kernel_rfl) (fun _ _ _ h=>h) rfl (by intro w hSw;(try dsimp only at hSw);go_simp;try with_reducible rfl) hHeld ?_
 refine takeIt (i:=7) (v:= ?_) rfl (by kernel_rfl) (fun _ _ _ h=>h) rfl (by intro w hSw;(try dsimp only at hSw);go_simp;try with_reducible rfl) hHeld ?_
 refine wpAnyH_take (i:=8) (v:= ?_) rfl (by kernel_rfl) (by kernel_rfl) (by kernel_rfl) (fun _ _ _ h=>h) (Or.inl ⟨by kernel_rfl,by intro w hSw;(try dsimp only at hSw);go_simp;try with_reducible rfl⟩) hHeld ?_
 refine wpAnyH_take (i:=9) (v:= ?_) rfl (by kernel_rfl) (by kernel_rfl) (by kernel_rfl) (fun _ _ _ h=>h) (Or.inl ⟨by kernel_rfl,by intro w hSw;(try dsimp only at hSw);go_simp;try with_reducible rfl⟩) hHeld ?_
 refine wpAnyH_take (i:=10) (v:= ?_) rfl (by kernel_rfl) (by kernel_rfl) (by kernel_rfl) (fun _ _ _ h=>h) (Or.inl ⟨by kernel_rfl,by intro w hSw;(try dsimp only at hSw);go_simp;try with_reducible rfl⟩) hHeld ?_
 refine wpAnyH_take (i:=11) (v:=undef) rfl (by kernel_rfl) (by kernel_rfl) (by kernel_rfl) (fun _ _ _ h=>h) (Or.inr ⟨by kernel_rfl,rfl⟩) hHeld ?_
 refine wpAnyH_take (i:=12) (v:=undef) rfl (by kernel_rfl) (by kernel_rfl) (by kernel_rfl) (fun _ _ _ h=>h) (Or.inr ⟨by kernel_rfl,rfl⟩) hHeld ?_
 refine wpAnyH_take (i:=13) (v:=undef) rfl (by kernel_rfl) (by kernel_rfl) (by kernel_rfl) (fun _ _ _ h=>h) (Or.inr ⟨by kernel_rfl,rfl⟩) hHeld ?_
 refine wpAnyH_take (i:=14) (v:=undef) rfl (by kernel_rfl) (by kernel_rfl) (by kernel_rfl) (fun _ _ _ h=>h) (Or.inr ⟨by kernel_rfl,rfl⟩) hHeld ?_
 refine wpAnyH_take (i:=15) (v:=undef) rfl (by kernel_rfl) (by kernel_rfl) (by kernel_rfl) (fun _ _ _ h=>h) (Or.inr ⟨by kernel_rfl,rfl⟩) hHeld ?_
 refine wpAnyH_take (i:=16) (v:=undef) rfl (by kernel_rfl) (by kernel_rfl) (by kernel_rfl) (fun _ _ _ h=>h) (Or.inr ⟨by kernel_rfl,rfl⟩) hHeld ?_
 refine wpAnyH_take (i:=17) (v:=undef) rfl (by kernel_rfl) (by kernel_rfl) (by kernel_rfl) (fun _ _ _ h=>h) (Or.inr ⟨by kernel_rfl,rfl⟩) hHeld ?_
 refine wpAnyH_take (i:=18) (v:= ?_) rfl (by kernel_rfl) (by kernel_rfl) (by kernel_rfl) (fun _ _ _ h=>h) (Or.inl ⟨by kernel_rfl,by intro w hSw;(try dsimp only at hSw);go_simp;try with_reducible rfl⟩) hHeld ?_
 refine takeIt (i:=19) (v:= ?_) rfl (by kernel_rfl) (fun _ _ _ h=>h) rfl (by intro w hSw;(try dsimp only at hSw);go_simp;try with_reducible rfl) hHeld ?_
 refine wpAnyH_ready (rs:= [20]) (by kernel_rfl) (by simp) ?_
 refine AllReadyH.cons rfl (fun K hK=> ?_) AllReadyH.nil
 go_simp
 refine(txt_must_yes _).mono ?_
 rintro e w3 ⟨rfl,rfl⟩
 refine hK.out _ _ ⟨x0,y8⟩ (fun hHeld2=> ?_)
 clear hK K
 refine wpAnyH_done (by kernel_rfl) ?_ _
 clear hHeld hHeld2
 go_wp2_with fail
 refine(txt_must_yes _).mono ?_
 rintro e w3 ⟨rfl,rfl⟩
 go_wp2_with fail
 refine(txt_must_yes _).mono ?_
 rintro e w3 ⟨rfl,rfl⟩
 go_upto_region 10 with fail
 have hr5:RdC B b (w2.setCell ⟨b,8,none⟩ (.int .i64 (2:Nat))).drew _ v1 v2 v3 v6 v7 v8 r.m 2 ln:=((HR.out.below HB2.out).stage 2).below ((Below.refl _ _).drew)
 have hx5:Blk (w2.setCell ⟨b,8,none⟩ (.int .i64 (2:Nat))).drew h6 148 [.int .i64 2,.func (.func 89) #[] #[]]:=(HX2.out.far (p:=⟨b,8,none⟩) (by show h6≠b;omega) _).drewN 1
 have hK5:Keep (fun k=>k<B∧k≠b) w (w2.setCell ⟨b,8,none⟩ (.int .i64 (2:Nat))).drew:=(((Keep.of_all HB2.out).mono0 (fun k hk _=>hk)).setCell (p:=⟨b,8,none⟩) (fun e=>e.2 rfl) _).drew
 have hW5:WordsAt (w2.setCell ⟨b,8,none⟩ (.int .i64 (2:Nat))).drew A (typeW::t):=(HW2.out.keep (K:=fun k=>k≠b) (((Keep.refl _ w2).setCell (p:=⟨b,8,none⟩) (fun e=>e rfl) _).drew) (by omega))
 have hE5:EnvAt hi (w2.setCell ⟨b,8,none⟩ (.int .i64 (2:Nat))).drew:=HI.out.env.to (((HB2.out.mono (show hi≤w.heap.size by omega)).setCell (p:=⟨b,8,none⟩) hhi _).drew)
 generalize World.drew (w2.setCell _ _)=w5 at*
 have x1:=hx5.q 1 rfl
 have HR5:=hideIt hr5;have HK5:=hideIt hK5;have HW5:=hideIt hW5;have HE5:=hideIt hE5
 clear hr5 hK5 hW5 hE5 hx5 x0 y8 z8 HX2 HW2
 go_wp2_with fail
 rw [HNN.out]
 refine(rd_typed ⟨HR5.out,HW5.out,HE5.out,hhi,HI.out.lens,by omega⟩ (List.cons_ne_nil _ _)).mono ?_
 rintro e w6 hm
 have hpost:RdPost B b w ln (lineV r (typeW::t)) e w6:=by
  rcases hm with⟨h1,h2,h3⟩ | ⟨m',h1,h2,h3,h4⟩
  ·refine⟨HK5.out.trans ((Keep.of_all h3).mono0 (fun k hk _=>hk)),.inl ⟨?_,h2,(h3.cell (p:=⟨b,9,none⟩) HR5.out.blk.lt).trans (HR5.out.blk.cell 9)⟩⟩
   rw [HOK.out];rw [List.tail_cons] at h1;rw [h1];rfl
  ·refine⟨HK5.out.trans h3,.inr ⟨⟨m',2⟩,?_,h2,?_⟩⟩
   ·rw [HOK.out];rw [List.tail_cons] at h1;rw [h1];rfl
   ·exact .inl ⟨(show(2:Nat)≠6 by decide),h4⟩
 have HP:=hideIt hpost
 rcases hm with⟨_,rfl,_⟩ | ⟨m',_,rfl,_,_⟩
 ·go_wp2_with fail
  exact⟨rfl,HP.out⟩
 ·go_wp2_with fail
  go_end0
  exact HP.out
theorem rd_read_3 (h:LIn B b hi M w r ln s) {t:List ByteArray} (hwd:wdsV s=externW::t):
 Calls prog 59 #[.pointer (some ⟨b,0,none⟩),.string s,.map (some M)] w (RdPost B b w ln (lineV r (wdsV s))):=by
 have hcall:=txt_words s (by have:=h.sz;omega) w
 obtain⟨hws,hpos⟩:=wds_facts s
 have hsz:=h.sz
 rw [hwd] at hcall hws⊢
 have hlv:lineV r (externW::t)=if okSt 3 r.st=true then(readK 3 r.m t).map (fun m'=>(⟨m',3⟩:RdV)) else none:=by
  have hk:kindW externW=3:=by kernel_rfl
  unfold lineV
  simp only [hk]
  rw [if_neg (by decide)]
 have HLV:=hideIt hlv
 have HI:=hideIt h
 have hz0:((((externW::t).length:Nat):Int)==0)=false:=by rw [beq_eq_false_iff_ne,List.length_cons];omega
 obtain⟨n,hn⟩: ∃n,n=(externW::t).length:=⟨_,rfl⟩
 rw [←hn] at hz0
 have hn0:0<n:=by rw [hn,List.length_cons];omega
 have HNN:=hideIt hn
 have HCALL:=hideIt hcall
 have hMl:=h.mlt
 have hhi:=h.hhi
 have HMAP:=hideIt h.map
 obtain⟨col,v1,v2,v3,v6,v7,v8,hr⟩:=h.rd.close
 have hlow:=hr.low
 have htop:=hr.top
 have HR:=hideIt hr
 clear hcall hlv h hr
 go_enter func59,ntmps59
 go_wp2_with fail
 refine HCALL.out.mono ?_
 clear HCALL
 rintro e w1 ⟨A,rfl,hA,ho,hb1⟩
 have hw1:=words_at ho hA (List.cons_ne_nil _ _) (by omega)
 have q0:w1.cell? ⟨A,0,none⟩=some (.string ⟨#[101,120,116,101,114,110]⟩):=hw1.at_ 0 _ rfl
 have hlt1:=hw1.lt
 have hbl:=HR.out.blk.lt
 have hsz1:=hb1.size
 have g8:w1.cell? ⟨b,8,none⟩=some (.int .i64 r.st):=(hb1.cell (p:=⟨b,8,none⟩) hbl).trans (HR.out.blk.cell 8)
 have hmap1:w1.heap[M]?=some (.map ruleEs 8):=(hb1.block M hMl).trans HMAP.out
 have hlook:=run_look (P:=prog) (W:=w1) (s:=⟨#[101,120,116,101,114,110]⟩) underlying108 underlying9 hmap1 (i:=2) (v:= .agg #[.int .i64 3,.func (.func 90) #[] #[]]) (by kernel_rfl)
 have HW1:=hideIt hw1;have HB1:=hideIt hb1
 rw [←HNN.out]
 have hq59:(((⟨#[101,120,116,101,114,110]⟩:ByteArray)[0].toNat:Int)==59)=false:=by decide
 clear hn ho hb1 hw1 hmap1 hws hpos hwd
 go_wp2_with fail
 generalize hw2:World.alloc _ _=w2
 have hb12:Below w1.heap.size w1 w2:=by rw [←hw2];exact(Below.refl _ _).alloc (Nat.le_refl _) _
 have hx2:Blk w2 w1.heap.size 148 [.int .i64 3,.func (.func 90) #[] #[]]:=by rw [←hw2];exact Blk.new w1 _ [.int .i64 3,.func (.func 90) #[] #[]]
 obtain⟨h6,hh6⟩: ∃h6,h6=w1.heap.size:=⟨_,rfl⟩
 rw [←hh6] at hx2⊢
 have hhl:w.heap.size≤h6:=by omega
 have HB2:=hideIt (HB1.out.trans (hb12.mono hsz1))
 have HW2:=hideIt (HW1.out.below hb12)
 have x0:=hx2.q 0 rfl
 have x1:=hx2.q 1 rfl
 have y8:w2.cell? ⟨b,8,none⟩=some (.int .i64 r.st):=(HB2.out.cell (p:=⟨b,8,none⟩) hbl).trans (HR.out.blk.cell 8)
 have z8:=(HR.out.blk.below HB2.out hbl).frozen 8
 have HX2:=hideIt hx2
 clear hw2 hb12 hx2 hh6 g8 q0 hlook HW1 HB1
 have hbad:okSt 3 r.st=false→Hid (lineV r (externW::t)=none∧Keep (fun k=>k<B∧k≠b) w w2.drew∧w2.drew.cell? ⟨b,9,none⟩=some (.int .i64 ln)):=fun hf=>
  hideIt ⟨by rw [HLV.out,hf];rfl,((Keep.of_all HB2.out).mono0 (fun k hk _=>hk)).drew,(HB2.out.cell (p:=⟨b,9,none⟩) hbl).trans (HR.out.blk.cell 9)⟩
 have hN0:((⟨#[101,120,116,101,114,110]⟩:ByteArray)[0].toNat:Int)=101:=by decide
 rw [hN0]
 clear hq59 hN0
 by_cases hc:3<r.st
 case pos=>
  have HBAD:=hbad (by cases hb:okSt 3 r.st with | false=>rfl | true=>exfalso;unfold okSt at hb;simp at hb;omega)
  have d0:decide ((r.st:Int)≤3)=false:=decide_eq_false (by omega)
  clear hbad
  refine wp_region_held_drew (S:=fun W=>W.cell? ⟨h6,0,none⟩=some (.int .i64 3)∧W.cell? ⟨b,8,none⟩=some (.int .i64 r.st)) (by kernel_rfl) ⟨x0,y8⟩ (fun hHeld=> ?_)
  refine takeIt (i:=0) (v:= ?_) rfl (by kernel_rfl) (fun _ _ _ h=>h) rfl (by intro w hSw;(try dsimp only at hSw);go_simp;try with_reducible rfl) hHeld ?_
  refine takeIt (i:=1) (v:= ?_) rfl (by kernel_rfl) (fun _ _ _ h=>h) rfl (by intro w hSw;(try dsimp only at hSw);go_simp;try with_reducible rfl) hHeld ?_
  refine takeIt (i:=2) (v:= ?_) rfl (by kernel_rfl) (fun _ _ _ h=>h) rfl (by intro w hSw;(try dsimp only at hSw);go_simp;try with_reducible rfl) hHeld ?_
  refine takeIt (i:=3) (v:= ?_) rfl (by kernel_rfl) (fun _ _ _ h=>h) rfl (by intro w hSw;(try dsimp only at hSw);go_simp;try with_reducible rfl) hHeld ?_
  refine takeIt (i:=4) (v:= ?_) rfl (by kernel_rfl) (fun _ _ _ h=>h) rfl (by intro w hSw;(try dsimp only at hSw);go_simp;try with_reducible rfl) hHeld ?_
  refine takeIt (i:=5) (v:= ?_) rfl (by kernel_rfl) (fun _ _ _ h=>h) rfl (by intro w hSw;(try dsimp only at hSw);go_simp;try with_reducible rfl) hHeld ?_
  refine takeIt (i:=6) (v:= ?_) rfl (by kernel_rfl) (fun _ _ _ h=>h) rfl (by intro w hSw;(try dsimp only at hSw);go_simp;try with_reducible rfl) hHeld ?_
  refine takeIt (i:=7) (v:= ?_) rfl (by kernel_rfl) (fun _ _ _ h=>h) rfl (by intro w hSw;(try dsimp only at hSw);go_simp;try with_reducible rfl) hHeld ?_
  refine wpAnyH_take (i:=8) (v:=undef) rfl (by kernel_rfl) (by kernel_rfl) (by kernel_rfl) (fun _ _ _ h=>h) (Or.inr ⟨by kernel_rfl,rfl⟩) hHeld ?_
  refine wpAnyH_take (i:=9) (v:=undef) rfl (by kernel_rfl) (by kernel_rfl) (by kernel_rfl) (fun _ _ _ h=>h) (Or.inr ⟨by kernel_rfl,rfl⟩) hHeld ?_
  refine wpAnyH_take (i:=10) (v:=undef) rfl (by kernel_rfl) (by kernel_rfl) (by kernel_rfl) (fun _ _ _ h=>h) (Or.inr ⟨by kernel_rfl,rfl⟩) hHeld ?_
  refine wpAnyH_take (i:=11) (v:=undef) rfl (by kernel_rfl) (by kernel_rfl) (by kernel_rfl) (fun _ _ _ h=>h) (Or.inr ⟨by kernel_rfl,rfl⟩) hHeld ?_
  refine wpAnyH_take (i:=12) (v:=undef) rfl (by kernel_rfl) (by kernel_rfl) (by kernel_rfl) (fun _ _ _ h=>h) (Or.inr ⟨by kernel_rfl,rfl⟩) hHeld ?_
  refine wpAnyH_take (i:=13) (v:=undef) rfl (by kernel_rfl) (by kernel_rfl) (by kernel_rfl) (fun _ _ _ h=>h) (Or.inr ⟨by kernel_rfl,rfl⟩) hHeld ?_
  refine wpAnyH_take (i:=14) (v:=undef) rfl (by kernel_rfl) (by kernel_rfl) (by kernel_rfl) (fun _ _ _ h=>h) (Or.inr ⟨by kernel_rfl,rfl⟩) hHeld ?_
  refine wpAnyH_take (i:=15) (v:=undef) rfl (by kernel_rfl) (by kernel_rfl) (by kernel_rfl) (fun _ _ _ h=>h) (Or.inr ⟨by kernel_rfl,rfl⟩) hHeld ?_
  refine wpAnyH_take (i:=16) (v:=undef) rfl (by kernel_rfl) (by kernel_rfl) (by kernel_rfl) (fun _ _ _ h=>h) (Or.inr ⟨by kernel_rfl,rfl⟩) hHeld ?_
  refine wpAnyH_take (i:=17) (v:=undef) rfl (by kernel_rfl) (by kernel_rfl) (by kernel_rfl) (fun _ _ _ h=>h) (Or.inr ⟨by kernel_rfl,rfl⟩) hHeld ?_
  refine wpAnyH_take (i:=18) (v:=undef) rfl (by kernel_rfl) (by kernel_rfl) (by kernel_rfl) (fun _ _ _ h=>h) (Or.inr ⟨by kernel_rfl,rfl⟩) hHeld ?_
  refine takeIt (i:=19) (v:= ?_) rfl (by kernel_rfl) (fun _ _ _ h=>h) rfl (by intro w hSw;(try dsimp only at hSw);go_simp;try with_reducible rfl) hHeld ?_
  refine wpAnyH_ready (rs:= [20]) (by kernel_rfl) (by simp) ?_
  refine AllReadyH.cons rfl (fun K hK=> ?_) AllReadyH.nil
  go_simp
  refine(txt_must_no _).mono ?_
  rintro e w3 ⟨rfl,rfl⟩
  go_wp2_with fail
  exact⟨rfl,HBAD.out.2.1,.inl ⟨HBAD.out.1,rfl,HBAD.out.2.2⟩⟩
 by_cases hc:r.st=0
 case pos=>
  have HBAD:=hbad (by cases hb:okSt 3 r.st with | false=>rfl | true=>exfalso;unfold okSt at hb;simp at hb;omega)
  have d0:decide ((r.st:Int)≤3)=true:=decide_eq_true (by omega)
  have d1:((r.st:Int) !=0)=false:=by rw [bne_eq_false_iff_eq];omega
  clear hbad
  refine wp_region_held_drew (S:=fun W=>W.cell? ⟨h6,0,none⟩=some (.int .i64 3)∧W.cell? ⟨b,8,none⟩=some (.int .i64 r.st)) (by kernel_rfl) ⟨x0,y8⟩ (fun hHeld=> ?_)
  refine takeIt (i:=0) (v:= ?_) rfl (by kernel_rfl) (fun _ _ _ h=>h) rfl (by intro w hSw;(try dsimp only at hSw);go_simp;try with_reducible rfl) hHeld ?_
  refine takeIt (i:=1) (v:= ?_) rfl (by kernel_rfl) (fun _ _ _ h=>h) rfl (by intro w hSw;(try dsimp only at hSw);go_simp;try with_reducible rfl) hHeld ?_
  refine takeIt (i:=2) (v:= ?_) rfl (by kernel_rfl) (fun _ _ _ h=>h) rfl (by intro w hSw;(try dsimp only at hSw);go_simp;try with_reducible rfl) hHeld ?_
  refine takeIt (i:=3) (v:= ?_) rfl (by kernel_rfl) (fun _ _ _ h=>h) rfl (by intro w hSw;(try dsimp only at hSw);go_simp;try with_reducible rfl) hHeld ?_
  refine takeIt (i:=4) (v:= ?_) rfl (by kernel_rfl) (fun _ _ _ h=>h) rfl (by intro w hSw;(try dsimp only at hSw);go_simp;try with_reducible rfl) hHeld ?_
  refine takeIt (i:=5) (v:= ?_) rfl (by kernel_rfl) (fun _ _ _ h=>h) rfl (by intro w hSw;(try dsimp only at hSw);go_simp;try with_reducible rfl) hHeld ?_
  refine takeIt (i:=6) (v:= ?_) rfl (by kernel_rfl) (fun _ _ _ h=>h) rfl (by intro w hSw;(try dsimp only at hSw);go_simp;try with_reducible rfl) hHeld ?_
  refine takeIt (i:=7) (v:= ?_) rfl (by kernel_rfl) (fun _ _ _ h=>h) rfl (by intro w hSw;(try dsimp only at hSw);go_simp;try with_reducible rfl) hHeld ?_
  refine wpAnyH_take (i:=8) (v:= ?_) rfl (by kernel_rfl) (by kernel_rfl) (by kernel_rfl) (fun _ _ _ h=>h) (Or.inl ⟨by kernel_rfl,by intro w hSw;(try dsimp only at hSw);go_simp;try with_reducible rfl⟩) hHeld ?_
  refine wpAnyH_take (i:=9) (v:= ?_) rfl (by kernel_rfl) (by kernel_rfl) (by kernel_rfl) (fun _ _ _ h=>h) (Or.inl ⟨by kernel_rfl,by intro w hSw;(try dsimp only at hSw);go_simp;try with_reducible rfl⟩) hHeld ?_
  refine wpAnyH_take (i:=10) (v:= ?_) rfl (by kernel_rfl) (by kernel_rfl) (by kernel_rfl) (fun _ _ _ h=>h) (Or.inl ⟨by kernel_rfl,by intro w hSw;(try dsimp only at hSw);go_simp;try with_reducible rfl⟩) hHeld ?_
  refine wpAnyH_take (i:=11) (v:=undef) rfl (by kernel_rfl) (by kernel_rfl) (by kernel_rfl) (fun _ _ _ h=>h) (Or.inr ⟨by kernel_rfl,rfl⟩) hHeld ?_
  refine wpAnyH_take (i:=12) (v:=undef) rfl (by kernel_rfl) (by kernel_rfl) (by kernel_rfl) (fun _ _ _ h=>h) (Or.inr ⟨by kernel_rfl,rfl⟩) hHeld ?_
  refine wpAnyH_take (i:=13) (v:=undef) rfl (by kernel_rfl) (by kernel_rfl) (by kernel_rfl) (fun _ _ _ h=>h) (Or.inr ⟨by kernel_rfl,rfl⟩) hHeld ?_
  refine wpAnyH_take (i:=14) (v:=undef) rfl (by kernel_rfl) (by kernel_rfl) (by kernel_rfl) (fun _ _ _ h=>h) (Or.inr ⟨by kernel_rfl,rfl⟩) hHeld ?_
  refine wpAnyH_take (i:=15) (v:=undef) rfl (by kernel_rfl) (by kernel_rfl) (by kernel_rfl) (fun _ _ _ h=>h) (Or.inr ⟨by kernel_rfl,rfl⟩) hHeld ?_
  refine wpAnyH_take (i:=16) (v:=undef) rfl (by kernel_rfl) (by kernel_rfl) (by kernel_rfl) (fun _ _ _ h=>h) (Or.inr ⟨by kernel_rfl,rfl⟩) hHeld ?_
  refine wpAnyH_take (i:=17) (v:=undef) rfl (by kernel_rfl) (by kernel_rfl) (by kernel_rfl) (fun _ _ _ h=>h) (Or.inr ⟨by kernel_rfl,rfl⟩) hHeld ?_
  refine wpAnyH_take (i:=18) (v:= ?_) rfl (by kernel_rfl) (by kernel_rfl) (by kernel_rfl) (fun _ _ _ h=>h) (Or.inl ⟨by kernel_rfl,by intro w hSw;(try dsimp only at hSw);go_simp;try with_reducible rfl⟩) hHeld ?_
  refine takeIt (i:=19) (v:= ?_) rfl (by kernel_rfl) (fun _ _ _ h=>h) rfl (by intro w hSw;(try dsimp only at hSw);go_simp;try with_reducible rfl) hHeld ?_
  refine wpAnyH_ready (rs:= [20]) (by kernel_rfl) (by simp) ?_
  refine AllReadyH.cons rfl (fun K hK=> ?_) AllReadyH.nil
  go_simp
  refine(txt_must_yes _).mono ?_
  rintro e w3 ⟨rfl,rfl⟩
  refine hK.out _ _ ⟨x0,y8⟩ (fun hHeld2=> ?_)
  clear hK K
  refine wpAnyH_done (by kernel_rfl) ?_ _
  clear hHeld hHeld2
  go_wp2_with fail
  refine(txt_must_no _).mono ?_
  rintro e w3 ⟨rfl,rfl⟩
  go_wp2_with fail
  exact⟨rfl,HBAD.out.2.1,.inl ⟨HBAD.out.1,rfl,HBAD.out.2.2⟩⟩
 have d0:decide ((r.st:Int)≤3)=true:=decide_eq_true (by omega)
 have d1:((r.st:Int) !=0)=true:=by rw [bne_iff_ne];omega
 have HOK:Hid (lineV r (externW::t)=(readK 3 r.m t).map (fun m'=>(⟨m',3⟩:RdV))):=hideIt (by
  have ho:okSt 3 r.st=true:=by
   cases hb:okSt 3 r.st with
   | true=>rfl
   | false=>exfalso;unfold okSt at hb;simp at hb;omega
  rw [HLV.out,ho];rfl)
 clear hbad
 refine wp_region_held_drew (S:=fun W=>W.cell? ⟨h6,0,none⟩=some (.int .i64 3)∧W.cell? ⟨b,8,none⟩=some (.int .i64 r.st)) (by kernel_rfl) ⟨x0,y8⟩ (fun hHeld=> ?_)
 refine takeIt (i:=0) (v:= ?_) rfl (by kernel_rfl) (fun _ _ _ h=>h) rfl (by intro w hSw;(try dsimp only at hSw);go_simp;try with_reducible rfl) hHeld ?_
 refine takeIt (i:=1) (v:= ?_) rfl (by kernel_rfl) (fun _ _ _ h=>h) rfl (by intro w hSw;(try dsimp only at hSw);go_simp;try with_reducible rfl) hHeld ?_
 refine takeIt (i:=2) (v:= ?_) rfl (by kernel_rfl) (fun _ _ _ h=>h) rfl (by intro w hSw;(try dsimp only at hSw);go_simp;try with_reducible rfl) hHeld ?_
 refine takeIt (i:=3) (v:= ?_) rfl (by kernel_rfl) (fun _ _ _ h=>h) rfl (by intro w hSw;(try dsimp only at hSw);go_simp;try with_reducible rfl) hHeld ?_
 refine takeIt (i:=4) (v:= ?_) rfl (by kernel_rfl) (fun _ _ _ h=>h) rfl (by intro w hSw;(try dsimp only at hSw);go_simp;try with_reducible rfl) hHeld ?_
 refine takeIt (i:=5) (v:= ?_) rfl (by kernel_rfl) (fun _ _ _ h=>h) rfl (by intro w hSw;(try dsimp only at hSw);go_simp;try with_reducible rfl) hHeld ?_
 refine takeIt (i:=6) (v:= ?_) rfl (by kernel_rfl) (fun _ _ _ h=>h) rfl (by intro w hSw;(try dsimp only at hSw);go_simp;try with_reducible rfl) hHeld ?_
 refine takeIt (i:=7) (v:= ?_) rfl (by kernel_rfl) (fun _ _ _ h=>h) rfl (by intro w hSw;(try dsimp only at hSw);go_simp;try with_reducible rfl) hHeld ?_
 refine wpAnyH_take (i:=8) (v:= ?_) rfl (by kernel_rfl) (by kernel_rfl) (by kernel_rfl) (fun _ _ _ h=>h) (Or.inl ⟨by kernel_rfl,by intro w hSw;(try dsimp only at hSw);go_simp;try with_reducible rfl⟩) hHeld ?_
 refine wpAnyH_take (i:=9) (v:= ?_) rfl (by kernel_rfl) (by kernel_rfl) (by kernel_rfl) (fun _ _ _ h=>h) (Or.inl ⟨by kernel_rfl,by intro w hSw;(try dsimp only at hSw);go_simp;try with_reducible rfl⟩) hHeld ?_
 refine wpAnyH_take (i:=10) (v:= ?_) rfl (by kernel_rfl) (by kernel_rfl) (by kernel_rfl) (fun _ _ _ h=>h) (Or.inl ⟨by kernel_rfl,by intro w hSw;(try dsimp only at hSw);go_simp;try with_reducible rfl⟩) hHeld ?_
 refine wpAnyH_take (i:=11) (v:=undef) rfl (by kernel_rfl) (by kernel_rfl) (by kernel_rfl) (fun _ _ _ h=>h) (Or.inr ⟨by kernel_rfl,rfl⟩) hHeld ?_
 refine wpAnyH_take (i:=12) (v:=undef) rfl (by kernel_rfl) (by kernel_rfl) (by kernel_rfl) (fun _ _ _ h=>h) (Or.inr ⟨by kernel_rfl,rfl⟩) hHeld ?_
 refine wpAnyH_take (i:=13) (v:=undef) rfl (by kernel_rfl) (by kernel_rfl) (by kernel_rfl) (fun _ _ _ h=>h) (Or.inr ⟨by kernel_rfl,rfl⟩) hHeld ?_
 refine wpAnyH_take (i:=14) (v:=undef) rfl (by kernel_rfl) (by kernel_rfl) (by kernel_rfl) (fun _ _ _ h=>h) (Or.inr ⟨by kernel_rfl,rfl⟩) hHeld ?_
 refine wpAnyH_take (i:=15) (v:=undef) rfl (by kernel_rfl) (by kernel_rfl) (by kernel_rfl) (fun _ _ _ h=>h) (Or.inr ⟨by kernel_rfl,rfl⟩) hHeld ?_
 refine wpAnyH_take (i:=16) (v:=undef) rfl (by kernel_rfl) (by kernel_rfl) (by kernel_rfl) (fun _ _ _ h=>h) (Or.inr ⟨by kernel_rfl,rfl⟩) hHeld ?_
 refine wpAnyH_take (i:=17) (v:=undef) rfl (by kernel_rfl) (by kernel_rfl) (by kernel_rfl) (fun _ _ _ h=>h) (Or.inr ⟨by kernel_rfl,rfl⟩) hHeld ?_
 refine wpAnyH_take (i:=18) (v:= ?_) rfl (by kernel_rfl) (by kernel_rfl) (by kernel_rfl) (fun _ _ _ h=>h) (Or.inl ⟨by kernel_rfl,by intro w hSw;(try dsimp only at hSw);go_simp;try with_reducible rfl⟩) hHeld ?_
 refine takeIt (i:=19) (v:= ?_) rfl (by kernel_rfl) (fun _ _ _ h=>h) rfl (by intro w hSw;(try dsimp only at hSw);go_simp;try with_reducible rfl) hHeld ?_
 refine wpAnyH_ready (rs:= [20]) (by kernel_rfl) (by simp) ?_
 refine AllReadyH.cons rfl (fun K hK=> ?_) AllReadyH.nil
 go_simp
 refine(txt_must_yes _).mono ?_
 rintro e w3 ⟨rfl,rfl⟩
 refine hK.out _ _ ⟨x0,y8⟩ (fun hHeld2=> ?_)
 clear hK K
 refine wpAnyH_done (by kernel_rfl) ?_ _
 clear hHeld hHeld2
 go_wp2_with fail
 refine(txt_must_yes _).mono ?_
 rintro e w3 ⟨rfl,rfl⟩
 go_wp2_with fail
 refine(txt_must_yes _).mono ?_
 rintro e w3 ⟨rfl,rfl⟩
 go_upto_region 10 with fail
 have hr5:RdC B b (w2.setCell ⟨b,8,none⟩ (.int .i64 (3:Nat))).drew _ v1 v2 v3 v6 v7 v8 r.m 3 ln:=((HR.out.below HB2.out).stage 3).below ((Below.refl _ _).drew)
 have hx5:Blk (w2.setCell ⟨b,8,none⟩ (.int .i64 (3:Nat))).drew h6 148 [.int .i64 3,.func (.func 90) #[] #[]]:=(HX2.out.far (p:=⟨b,8,none⟩) (by show h6≠b;omega) _).drewN 1
 have hK5:Keep (fun k=>k<B∧k≠b) w (w2.setCell ⟨b,8,none⟩ (.int .i64 (3:Nat))).drew:=(((Keep.of_all HB2.out).mono0 (fun k hk _=>hk)).setCell (p:=⟨b,8,none⟩) (fun e=>e.2 rfl) _).drew
 have hW5:WordsAt (w2.setCell ⟨b,8,none⟩ (.int .i64 (3:Nat))).drew A (externW::t):=(HW2.out.keep (K:=fun k=>k≠b) (((Keep.refl _ w2).setCell (p:=⟨b,8,none⟩) (fun e=>e rfl) _).drew) (by omega))
 have hE5:EnvAt hi (w2.setCell ⟨b,8,none⟩ (.int .i64 (3:Nat))).drew:=HI.out.env.to (((HB2.out.mono (show hi≤w.heap.size by omega)).setCell (p:=⟨b,8,none⟩) hhi _).drew)
 generalize World.drew (w2.setCell _ _)=w5 at*
 have x1:=hx5.q 1 rfl
 have HR5:=hideIt hr5;have HK5:=hideIt hK5;have HW5:=hideIt hW5;have HE5:=hideIt hE5
 clear hr5 hK5 hW5 hE5 hx5 x0 y8 z8 HX2 HW2
 go_wp2_with fail
 rw [HNN.out]
 refine(rd_host ⟨HR5.out,HW5.out,HE5.out,hhi,HI.out.lens,by omega⟩ (List.cons_ne_nil _ _)).mono ?_
 rintro e w6 hm
 have hpost:RdPost B b w ln (lineV r (externW::t)) e w6:=by
  rcases hm with⟨h1,h2,h3⟩ | ⟨m',h1,h2,h3,h4⟩
  ·refine⟨HK5.out.trans ((Keep.of_all h3).mono0 (fun k hk _=>hk)),.inl ⟨?_,h2,(h3.cell (p:=⟨b,9,none⟩) HR5.out.blk.lt).trans (HR5.out.blk.cell 9)⟩⟩
   rw [HOK.out];rw [List.tail_cons] at h1;rw [h1];rfl
  ·refine⟨HK5.out.trans h3,.inr ⟨⟨m',3⟩,?_,h2,?_⟩⟩
   ·rw [HOK.out];rw [List.tail_cons] at h1;rw [h1];rfl
   ·exact .inl ⟨(show(3:Nat)≠6 by decide),h4⟩
 have HP:=hideIt hpost
 rcases hm with⟨_,rfl,_⟩ | ⟨m',_,rfl,_,_⟩
 ·go_wp2_with fail
  exact⟨rfl,HP.out⟩
 ·go_wp2_with fail
  go_end0
  exact HP.out
theorem rd_read_4 (h:LIn B b hi M w r ln s) {t:List ByteArray} (hwd:wdsV s=globalW::t):
 Calls prog 59 #[.pointer (some ⟨b,0,none⟩),.string s,.map (some M)] w (RdPost B b w ln (lineV r (wdsV s))):=by
 have hcall:=txt_words s (by have:=h.sz;omega) w
 obtain⟨hws,hpos⟩:=wds_facts s
 have hsz:=h.sz
 rw [hwd] at hcall hws⊢
 have hlv:lineV r (globalW::t)=if okSt 4 r.st=true then(readK 4 r.m t).map (fun m'=>(⟨m',4⟩:RdV)) else none:=by
  have hk:kindW globalW=4:=by kernel_rfl
  unfold lineV
  simp only [hk]
  rw [if_neg (by decide)]
 have HLV:=hideIt hlv
 have HI:=hideIt h
 have hz0:((((globalW::t).length:Nat):Int)==0)=false:=by rw [beq_eq_false_iff_ne,List.length_cons];omega
 obtain⟨n,hn⟩: ∃n,n=(globalW::t).length:=⟨_,rfl⟩
 rw [←hn] at hz0
 have hn0:0<n:=by rw [hn,List.length_cons];omega
 have HNN:=hideIt hn
 have HCALL:=hideIt hcall
 have hMl:=h.mlt
 have hhi:=h.hhi
 have HMAP:=hideIt h.map
 obtain⟨col,v1,v2,v3,v6,v7,v8,hr⟩:=h.rd.close
 have hlow:=hr.low
 have htop:=hr.top
 have HR:=hideIt hr
 clear hcall hlv h hr
 go_enter func59,ntmps59
 go_wp2_with fail
 refine HCALL.out.mono ?_
 clear HCALL
 rintro e w1 ⟨A,rfl,hA,ho,hb1⟩
 have hw1:=words_at ho hA (List.cons_ne_nil _ _) (by omega)
 have q0:w1.cell? ⟨A,0,none⟩=some (.string ⟨#[103,108,111,98,97,108]⟩):=hw1.at_ 0 _ rfl
 have hlt1:=hw1.lt
 have hbl:=HR.out.blk.lt
 have hsz1:=hb1.size
 have g8:w1.cell? ⟨b,8,none⟩=some (.int .i64 r.st):=(hb1.cell (p:=⟨b,8,none⟩) hbl).trans (HR.out.blk.cell 8)
 have hmap1:w1.heap[M]?=some (.map ruleEs 8):=(hb1.block M hMl).trans HMAP.out
 have hlook:=run_look (P:=prog) (W:=w1) (s:=⟨#[103,108,111,98,97,108]⟩) underlying108 underlying9 hmap1 (i:=3) (v:= .agg #[.int .i64 4,.func (.func 91) #[] #[]]) (by kernel_rfl)
 have HW1:=hideIt hw1;have HB1:=hideIt hb1
 rw [←HNN.out]
 have hq59:(((⟨#[103,108,111,98,97,108]⟩:ByteArray)[0].toNat:Int)==59)=false:=by decide
 clear hn ho hb1 hw1 hmap1 hws hpos hwd
 go_wp2_with fail
 generalize hw2:World.alloc _ _=w2
 have hb12:Below w1.heap.size w1 w2:=by rw [←hw2];exact(Below.refl _ _).alloc (Nat.le_refl _) _
 have hx2:Blk w2 w1.heap.size 148 [.int .i64 4,.func (.func 91) #[] #[]]:=by rw [←hw2];exact Blk.new w1 _ [.int .i64 4,.func (.func 91) #[] #[]]
 obtain⟨h6,hh6⟩: ∃h6,h6=w1.heap.size:=⟨_,rfl⟩
 rw [←hh6] at hx2⊢
 have hhl:w.heap.size≤h6:=by omega
 have HB2:=hideIt (HB1.out.trans (hb12.mono hsz1))
 have HW2:=hideIt (HW1.out.below hb12)
 have x0:=hx2.q 0 rfl
 have x1:=hx2.q 1 rfl
 have y8:w2.cell? ⟨b,8,none⟩=some (.int .i64 r.st):=(HB2.out.cell (p:=⟨b,8,none⟩) hbl).trans (HR.out.blk.cell 8)
 have z8:=(HR.out.blk.below HB2.out hbl).frozen 8
 have HX2:=hideIt hx2
 clear hw2 hb12 hx2 hh6 g8 q0 hlook HW1 HB1
 have hbad:okSt 4 r.st=false→Hid (lineV r (globalW::t)=none∧Keep (fun k=>k<B∧k≠b) w w2.drew∧w2.drew.cell? ⟨b,9,none⟩=some (.int .i64 ln)):=fun hf=>
  hideIt ⟨by rw [HLV.out,hf];rfl,((Keep.of_all HB2.out).mono0 (fun k hk _=>hk)).drew,(HB2.out.cell (p:=⟨b,9,none⟩) hbl).trans (HR.out.blk.cell 9)⟩
 have hN0:((⟨#[103,108,111,98,97,108]⟩:ByteArray)[0].toNat:Int)=103:=by decide
 rw [hN0]
 clear hq59 hN0
 by_cases hc:4<r.st
 case pos=>
  have HBAD:=hbad (by cases hb:okSt 4 r.st with | false=>rfl | true=>exfalso;unfold okSt at hb;simp at hb;omega)
  have d0:decide ((r.st:Int)≤4)=false:=decide_eq_false (by omega)
  clear hbad
  refine wp_region_held_drew (S:=fun W=>W.cell? ⟨h6,0,none⟩=some (.int .i64 4)∧W.cell? ⟨b,8,none⟩=some (.int .i64 r.st)) (by kernel_rfl) ⟨x0,y8⟩ (fun hHeld=> ?_)
  refine takeIt (i:=0) (v:= ?_) rfl (by kernel_rfl) (fun _ _ _ h=>h) rfl (by intro w hSw;(try dsimp only at hSw);go_simp;try with_reducible rfl) hHeld ?_
  refine takeIt (i:=1) (v:= ?_) rfl (by kernel_rfl) (fun _ _ _ h=>h) rfl (by intro w hSw;(try dsimp only at hSw);go_simp;try with_reducible rfl) hHeld ?_
  refine takeIt (i:=2) (v:= ?_) rfl (by kernel_rfl) (fun _ _ _ h=>h) rfl (by intro w hSw;(try dsimp only at hSw);go_simp;try with_reducible rfl) hHeld ?_
  refine takeIt (i:=3) (v:= ?_) rfl (by kernel_rfl) (fun _ _ _ h=>h) rfl (by intro w hSw;(try dsimp only at hSw);go_simp;try with_reducible rfl) hHeld ?_
  refine takeIt (i:=4) (v:= ?_) rfl (by kernel_rfl) (fun _ _ _ h=>h) rfl (by intro w hSw;(try dsimp only at hSw);go_simp;try with_reducible rfl) hHeld ?_
  refine takeIt (i:=5) (v:= ?_) rfl (by kernel_rfl) (fun _ _ _ h=>h) rfl (by intro w hSw;(try dsimp only at hSw);go_simp;try with_reducible rfl) hHeld ?_
  refine takeIt (i:=6) (v:= ?_) rfl (by kernel_rfl) (fun _ _ _ h=>h) rfl (by intro w hSw;(try dsimp only at hSw);go_simp;try with_reducible rfl) hHeld ?_
  refine takeIt (i:=7) (v:= ?_) rfl (by kernel_rfl) (fun _ _ _ h=>h) rfl (by intro w hSw;(try dsimp only at hSw);go_simp;try with_reducible rfl) hHeld ?_
  refine wpAnyH_take (i:=8) (v:=undef) rfl (by kernel_rfl) (by kernel_rfl) (by kernel_rfl) (fun _ _ _ h=>h) (Or.inr ⟨by kernel_rfl,rfl⟩) hHeld ?_
  refine wpAnyH_take (i:=9) (v:=undef) rfl (by kernel_rfl) (by kernel_rfl) (by kernel_rfl) (fun _ _ _ h=>h) (Or.inr ⟨by kernel_rfl,rfl⟩) hHeld ?_
  refine wpAnyH_take (i:=10) (v:=undef) rfl (by kernel_rfl) (by kernel_rfl) (by kernel_rfl) (fun _ _ _ h=>h) (Or.inr ⟨by kernel_rfl,rfl⟩) hHeld ?_
  refine wpAnyH_take (i:=11) (v:=undef) rfl (by kernel_rfl) (by kernel_rfl) (by kernel_rfl) (fun _ _ _ h=>h) (Or.inr ⟨by kernel_rfl,rfl⟩) hHeld ?_
  refine wpAnyH_take (i:=12) (v:=undef) rfl (by kernel_rfl) (by kernel_rfl) (by kernel_rfl) (fun _ _ _ h=>h) (Or.inr ⟨by kernel_rfl,rfl⟩) hHeld ?_
  refine wpAnyH_take (i:=13) (v:=undef) rfl (by kernel_rfl) (by kernel_rfl) (by kernel_rfl) (fun _ _ _ h=>h) (Or.inr ⟨by kernel_rfl,rfl⟩) hHeld ?_
  refine wpAnyH_take (i:=14) (v:=undef) rfl (by kernel_rfl) (by kernel_rfl) (by kernel_rfl) (fun _ _ _ h=>h) (Or.inr ⟨by kernel_rfl,rfl⟩) hHeld ?_
  refine wpAnyH_take (i:=15) (v:=undef) rfl (by kernel_rfl) (by kernel_rfl) (by kernel_rfl) (fun _ _ _ h=>h) (Or.inr ⟨by kernel_rfl,rfl⟩) hHeld ?_
  refine wpAnyH_take (i:=16) (v:=undef) rfl (by kernel_rfl) (by kernel_rfl) (by kernel_rfl) (fun _ _ _ h=>h) (Or.inr ⟨by kernel_rfl,rfl⟩) hHeld ?_
  refine wpAnyH_take (i:=17) (v:=undef) rfl (by kernel_rfl) (by kernel_rfl) (by kernel_rfl) (fun _ _ _ h=>h) (Or.inr ⟨by kernel_rfl,rfl⟩) hHeld ?_
  refine wpAnyH_take (i:=18) (v:=undef) rfl (by kernel_rfl) (by kernel_rfl) (by kernel_rfl) (fun _ _ _ h=>h) (Or.inr ⟨by kernel_rfl,rfl⟩) hHeld ?_
  refine takeIt (i:=19) (v:= ?_) rfl (by kernel_rfl) (fun _ _ _ h=>h) rfl (by intro w hSw;(try dsimp only at hSw);go_simp;try with_reducible rfl) hHeld ?_
  refine wpAnyH_ready (rs:= [20]) (by kernel_rfl) (by simp) ?_
  refine AllReadyH.cons rfl (fun K hK=> ?_) AllReadyH.nil
  go_simp
  refine(txt_must_no _).mono ?_
  rintro e w3 ⟨rfl,rfl⟩
  go_wp2_with fail
  exact⟨rfl,HBAD.out.2.1,.inl ⟨HBAD.out.1,rfl,HBAD.out.2.2⟩⟩
 by_cases hc:r.st=0
 case pos=>
  have HBAD:=hbad (by cases hb:okSt 4 r.st with | false=>rfl | true=>exfalso;unfold okSt at hb;simp at hb;omega)
  have d0:decide ((r.st:Int)≤4)=true:=decide_eq_true (by omega)
  have d1:((r.st:Int) !=0)=false:=by rw [bne_eq_false_iff_eq];omega
  clear hbad
  refine wp_region_held_drew (S:=fun W=>W.cell? ⟨h6,0,none⟩=some (.int .i64 4)∧W.cell? ⟨b,8,none⟩=some (.int .i64 r.st)) (by kernel_rfl) ⟨x0,y8⟩ (fun hHeld=> ?_)
  refine takeIt (i:=0) (v:= ?_) rfl (by kernel_rfl) (fun _ _ _ h=>h) rfl (by intro w hSw;(try dsimp only at hSw);go_simp;try with_reducible rfl) hHeld ?_
  refine takeIt (i:=1) (v:= ?_) rfl (by kernel_rfl) (fun _ _ _ h=>h) rfl (by intro w hSw;(try dsimp only at hSw);go_simp;try with_reducible rfl) hHeld ?_
  refine takeIt (i:=2) (v:= ?_) rfl (by kernel_rfl) (fun _ _ _ h=>h) rfl (by intro w hSw;(try dsimp only at hSw);go_simp;try with_reducible rfl) hHeld ?_
  refine takeIt (i:=3) (v:= ?_) rfl (by kernel_rfl) (fun _ _ _ h=>h) rfl (by intro w hSw;(try dsimp only at hSw);go_simp;try with_reducible rfl) hHeld ?_
  refine takeIt (i:=4) (v:= ?_) rfl (by kernel_rfl) (fun _ _ _ h=>h) rfl (by intro w hSw;(try dsimp only at hSw);go_simp;try with_reducible rfl) hHeld ?_
  refine takeIt (i:=5) (v:= ?_) rfl (by kernel_rfl) (fun _ _ _ h=>h) rfl (by intro w hSw;(try dsimp only at hSw);go_simp;try with_reducible rfl) hHeld ?_
  refine takeIt (i:=6) (v:= ?_) rfl (by kernel_rfl) (fun _ _ _ h=>h) rfl (by intro w hSw;(try dsimp only at hSw);go_simp;try with_reducible rfl) hHeld ?_
  refine takeIt (i:=7) (v:= ?_) rfl (by kernel_rfl) (fun _ _ _ h=>h) rfl (by intro w hSw;(try dsimp only at hSw);go_simp;try with_reducible rfl) hHeld ?_
  refine wpAnyH_take (i:=8) (v:= ?_) rfl (by kernel_rfl) (by kernel_rfl) (by kernel_rfl) (fun _ _ _ h=>h) (Or.inl ⟨by kernel_rfl,by intro w hSw;(try dsimp only at hSw);go_simp;try with_reducible rfl⟩) hHeld ?_
  refine wpAnyH_take (i:=9) (v:= ?_) rfl (by kernel_rfl) (by kernel_rfl) (by kernel_rfl) (fun _ _ _ h=>h) (Or.inl ⟨by kernel_rfl,by intro w hSw;(try dsimp only at hSw);go_simp;try with_reducible rfl⟩) hHeld ?_
  refine wpAnyH_take (i:=10) (v:= ?_) rfl (by kernel_rfl) (by kernel_rfl) (by kernel_rfl) (fun _ _ _ h=>h) (Or.inl ⟨by kernel_rfl,by intro w hSw;(try dsimp only at hSw);go_simp;try with_reducible rfl⟩) hHeld ?_
  refine wpAnyH_take (i:=11) (v:=undef) rfl (by kernel_rfl) (by kernel_rfl) (by kernel_rfl) (fun _ _ _ h=>h) (Or.inr ⟨by kernel_rfl,rfl⟩) hHeld ?_
  refine wpAnyH_take (i:=12) (v:=undef) rfl (by kernel_rfl) (by kernel_rfl) (by kernel_rfl) (fun _ _ _ h=>h) (Or.inr ⟨by kernel_rfl,rfl⟩) hHeld ?_
  refine wpAnyH_take (i:=13) (v:=undef) rfl (by kernel_rfl) (by kernel_rfl) (by kernel_rfl) (fun _ _ _ h=>h) (Or.inr ⟨by kernel_rfl,rfl⟩) hHeld ?_
  refine wpAnyH_take (i:=14) (v:=undef) rfl (by kernel_rfl) (by kernel_rfl) (by kernel_rfl) (fun _ _ _ h=>h) (Or.inr ⟨by kernel_rfl,rfl⟩) hHeld ?_
  refine wpAnyH_take (i:=15) (v:=undef) rfl (by kernel_rfl) (by kernel_rfl) (by kernel_rfl) (fun _ _ _ h=>h) (Or.inr ⟨by kernel_rfl,rfl⟩) hHeld ?_
  refine wpAnyH_take (i:=16) (v:=undef) rfl (by kernel_rfl) (by kernel_rfl) (by kernel_rfl) (fun _ _ _ h=>h) (Or.inr ⟨by kernel_rfl,rfl⟩) hHeld ?_
  refine wpAnyH_take (i:=17) (v:=undef) rfl (by kernel_rfl) (by kernel_rfl) (by kernel_rfl) (fun _ _ _ h=>h) (Or.inr ⟨by kernel_rfl,rfl⟩) hHeld ?_
  refine wpAnyH_take (i:=18) (v:= ?_) rfl (by kernel_rfl) (by kernel_rfl) (by kernel_rfl) (fun _ _ _ h=>h) (Or.inl ⟨by kernel_rfl,by intro w hSw;(try dsimp only at hSw);go_simp;try with_reducible rfl⟩) hHeld ?_
  refine takeIt (i:=19) (v:= ?_) rfl (by kernel_rfl) (fun _ _ _ h=>h) rfl (by intro w hSw;(try dsimp only at hSw);go_simp;try with_reducible rfl) hHeld ?_
  refine wpAnyH_ready (rs:= [20]) (by kernel_rfl) (by simp) ?_
  refine AllReadyH.cons rfl (fun K hK=> ?_) AllReadyH.nil
  go_simp
  refine(txt_must_yes _).mono ?_
  rintro e w3 ⟨rfl,rfl⟩
  refine hK.out _ _ ⟨x0,y8⟩ (fun hHeld2=> ?_)
  clear hK K
  refine wpAnyH_done (by kernel_rfl) ?_ _
  clear hHeld hHeld2
  go_wp2_with fail
  refine(txt_must_no _).mono ?_
  rintro e w3 ⟨rfl,rfl⟩
  go_wp2_with fail
  exact⟨rfl,HBAD.out.2.1,.inl ⟨HBAD.out.1,rfl,HBAD.out.2.2⟩⟩
 have d0:decide ((r.st:Int)≤4)=true:=decide_eq_true (by omega)
 have d1:((r.st:Int) !=0)=true:=by rw [bne_iff_ne];omega
 have HOK:Hid (lineV r (globalW::t)=(readK 4 r.m t).map (fun m'=>(⟨m',4⟩:RdV))):=hideIt (by
  have ho:okSt 4 r.st=true:=by
   cases hb:okSt 4 r.st with
   | true=>rfl
   | false=>exfalso;unfold okSt at hb;simp at hb;omega
  rw [HLV.out,ho];rfl)
 clear hbad
 refine wp_region_held_drew (S:=fun W=>W.cell? ⟨h6,0,none⟩=some (.int .i64 4)∧W.cell? ⟨b,8,none⟩=some (.int .i64 r.st)) (by kernel_rfl) ⟨x0,y8⟩ (fun hHeld=> ?_)
 refine takeIt (i:=0) (v:= ?_) rfl (by kernel_rfl) (fun _ _ _ h=>h) rfl (by intro w hSw;(try dsimp only at hSw);go_simp;try with_reducible rfl) hHeld ?_
 refine takeIt (i:=1) (v:= ?_) rfl (by kernel_rfl) (fun _ _ _ h=>h) rfl (by intro w hSw;(try dsimp only at hSw);go_simp;try with_reducible rfl) hHeld ?_
 refine takeIt (i:=2) (v:= ?_) rfl (by kernel_rfl) (fun _ _ _ h=>h) rfl (by intro w hSw;(try dsimp only at hSw);go_simp;try with_reducible rfl) hHeld ?_
 refine takeIt (i:=3) (v:= ?_) rfl (by kernel_rfl) (fun _ _ _ h=>h) rfl (by intro w hSw;(try dsimp only at hSw);go_simp;try with_reducible rfl) hHeld ?_
 refine takeIt (i:=4) (v:= ?_) rfl (by kernel_rfl) (fun _ _ _ h=>h) rfl (by intro w hSw;(try dsimp only at hSw);go_simp;try with_reducible rfl) hHeld ?_
 refine takeIt (i:=5) (v:= ?_) rfl (by kernel_rfl) (fun _ _ _ h=>h) rfl (by intro w hSw;(try dsimp only at hSw);go_simp;try with_reducible rfl) hHeld ?_
 refine takeIt (i:=6) (v:= ?_) rfl (by kernel_rfl) (fun _ _ _ h=>h) rfl (by intro w hSw;(try dsimp only at hSw);go_simp;try with_reducible rfl) hHeld ?_
 refine takeIt (i:=7) (v:= ?_) rfl (by kernel_rfl) (fun _ _ _ h=>h) rfl (by intro w hSw;(try dsimp only at hSw);go_simp;try with_reducible rfl) hHeld ?_
 refine wpAnyH_take (i:=8) (v:= ?_) rfl (by kernel_rfl) (by kernel_rfl) (by kernel_rfl) (fun _ _ _ h=>h) (Or.inl ⟨by kernel_rfl,by intro w hSw;(try dsimp only at hSw);go_simp;try with_reducible rfl⟩) hHeld ?_
 refine wpAnyH_take (i:=9) (v:= ?_) rfl (by kernel_rfl) (by kernel_rfl) (by kernel_rfl) (fun _ _ _ h=>h) (Or.inl ⟨by kernel_rfl,by intro w hSw;(try dsimp only at hSw);go_simp;try with_reducible rfl⟩) hHeld ?_
 refine wpAnyH_take (i:=10) (v:= ?_) rfl (by kernel_rfl) (by kernel_rfl) (by kernel_rfl) (fun _ _ _ h=>h) (Or.inl ⟨by kernel_rfl,by intro w hSw;(try dsimp only at hSw);go_simp;try with_reducible rfl⟩) hHeld ?_
 refine wpAnyH_take (i:=11) (v:=undef) rfl (by kernel_rfl) (by kernel_rfl) (by kernel_rfl) (fun _ _ _ h=>h) (Or.inr ⟨by kernel_rfl,rfl⟩) hHeld ?_
 refine wpAnyH_take (i:=12) (v:=undef) rfl (by kernel_rfl) (by kernel_rfl) (by kernel_rfl) (fun _ _ _ h=>h) (Or.inr ⟨by kernel_rfl,rfl⟩) hHeld ?_
 refine wpAnyH_take (i:=13) (v:=undef) rfl (by kernel_rfl) (by kernel_rfl) (by kernel_rfl) (fun _ _ _ h=>h) (Or.inr ⟨by kernel_rfl,rfl⟩) hHeld ?_
 refine wpAnyH_take (i:=14) (v:=undef) rfl (by kernel_rfl) (by kernel_rfl) (by kernel_rfl) (fun _ _ _ h=>h) (Or.inr ⟨by kernel_rfl,rfl⟩) hHeld ?_
 refine wpAnyH_take (i:=15) (v:=undef) rfl (by kernel_rfl) (by kernel_rfl) (by kernel_rfl) (fun _ _ _ h=>h) (Or.inr ⟨by kernel_rfl,rfl⟩) hHeld ?_
 refine wpAnyH_take (i:=16) (v:=undef) rfl (by kernel_rfl) (by kernel_rfl) (by kernel_rfl) (fun _ _ _ h=>h) (Or.inr ⟨by kernel_rfl,rfl⟩) hHeld ?_
 refine wpAnyH_take (i:=17) (v:=undef) rfl (by kernel_rfl) (by kernel_rfl) (by kernel_rfl) (fun _ _ _ h=>h) (Or.inr ⟨by kernel_rfl,rfl⟩) hHeld ?_
 refine wpAnyH_take (i:=18) (v:= ?_) rfl (by kernel_rfl) (by kernel_rfl) (by kernel_rfl) (fun _ _ _ h=>h) (Or.inl ⟨by kernel_rfl,by intro w hSw;(try dsimp only at hSw);go_simp;try with_reducible rfl⟩) hHeld ?_
 refine takeIt (i:=19) (v:= ?_) rfl (by kernel_rfl) (fun _ _ _ h=>h) rfl (by intro w hSw;(try dsimp only at hSw);go_simp;try with_reducible rfl) hHeld ?_
 refine wpAnyH_ready (rs:= [20]) (by kernel_rfl) (by simp) ?_
 refine AllReadyH.cons rfl (fun K hK=> ?_) AllReadyH.nil
 go_simp
 refine(txt_must_yes _).mono ?_
 rintro e w3 ⟨rfl,rfl⟩
 refine hK.out _ _ ⟨x0,y8⟩ (fun hHeld2=> ?_)
 clear hK K
 refine wpAnyH_done (by kernel_rfl) ?_ _
 clear hHeld hHeld2
 go_wp2_with fail
 refine(txt_must_yes _).mono ?_
 rintro e w3 ⟨rfl,rfl⟩
 go_wp2_with fail
 refine(txt_must_yes _).mono ?_
 rintro e w3 ⟨rfl,rfl⟩
 go_upto_region 10 with fail
 have hr5:RdC B b (w2.setCell ⟨b,8,none⟩ (.int .i64 (4:Nat))).drew _ v1 v2 v3 v6 v7 v8 r.m 4 ln:=((HR.out.below HB2.out).stage 4).below ((Below.refl _ _).drew)
 have hx5:Blk (w2.setCell ⟨b,8,none⟩ (.int .i64 (4:Nat))).drew h6 148 [.int .i64 4,.func (.func 91) #[] #[]]:=(HX2.out.far (p:=⟨b,8,none⟩) (by show h6≠b;omega) _).drewN 1
 have hK5:Keep (fun k=>k<B∧k≠b) w (w2.setCell ⟨b,8,none⟩ (.int .i64 (4:Nat))).drew:=(((Keep.of_all HB2.out).mono0 (fun k hk _=>hk)).setCell (p:=⟨b,8,none⟩) (fun e=>e.2 rfl) _).drew
 have hW5:WordsAt (w2.setCell ⟨b,8,none⟩ (.int .i64 (4:Nat))).drew A (globalW::t):=(HW2.out.keep (K:=fun k=>k≠b) (((Keep.refl _ w2).setCell (p:=⟨b,8,none⟩) (fun e=>e rfl) _).drew) (by omega))
 have hE5:EnvAt hi (w2.setCell ⟨b,8,none⟩ (.int .i64 (4:Nat))).drew:=HI.out.env.to (((HB2.out.mono (show hi≤w.heap.size by omega)).setCell (p:=⟨b,8,none⟩) hhi _).drew)
 generalize World.drew (w2.setCell _ _)=w5 at*
 have x1:=hx5.q 1 rfl
 have HR5:=hideIt hr5;have HK5:=hideIt hK5;have HW5:=hideIt hW5;have HE5:=hideIt hE5
 clear hr5 hK5 hW5 hE5 hx5 x0 y8 z8 HX2 HW2
 go_wp2_with fail
 rw [HNN.out]
 refine(rd_global ⟨HR5.out,HW5.out,HE5.out,hhi,HI.out.lens,by omega⟩ (List.cons_ne_nil _ _)).mono ?_
 rintro e w6 hm
 have hpost:RdPost B b w ln (lineV r (globalW::t)) e w6:=by
  rcases hm with⟨h1,h2,h3⟩ | ⟨m',h1,h2,h3,h4⟩
  ·refine⟨HK5.out.trans ((Keep.of_all h3).mono0 (fun k hk _=>hk)),.inl ⟨?_,h2,(h3.cell (p:=⟨b,9,none⟩) HR5.out.blk.lt).trans (HR5.out.blk.cell 9)⟩⟩
   rw [HOK.out];rw [List.tail_cons] at h1;rw [h1];rfl
  ·refine⟨HK5.out.trans h3,.inr ⟨⟨m',4⟩,?_,h2,?_⟩⟩
   ·rw [HOK.out];rw [List.tail_cons] at h1;rw [h1];rfl
   ·exact .inl ⟨(show(4:Nat)≠6 by decide),h4⟩
 have HP:=hideIt hpost
 rcases hm with⟨_,rfl,_⟩ | ⟨m',_,rfl,_,_⟩
 ·go_wp2_with fail
  exact⟨rfl,HP.out⟩
 ·go_wp2_with fail
  go_end0
  exact HP.out
end
end Go.Proofs.YtebgikflpgcnlaaGreatDoor
