/- Part 16 of the proof: RdrH RdrE PrsQ -/
import Derived.Lib.TrimAscii
import Derived.Lib.TrimUEq
import Derived.Lib.CountLaws
import Derived.Test.YtejbcledkhioeaaGreatDoorQ14
namespace Go.Proofs.YtejbcledkhioeaaGreatDoor
set_option linter.unusedVariables false
set_option linter.unusedSimpArgs false
set_option maxRecDepth 100000
set_option maxHeartbeats 4000000
open Go.RowKit Tryz
theorem Y_:(prog.info? 56).map (fun i=>(i.zero,i.size,i.bytes))=some (some (.agg #[.int .i64 0,.string ⟨#[]⟩,.slice none 0 0]),3,48):=by kernel_rfl
section
variable {B b A hi:Nat} {w:World} {col:Nat→Nat} {v1 v2 v3 v6 v7 v8:Value} {m:AP} {st ln:Nat} {ws:List ByteArray}
theorem OL.eG {A:Option Addr} {c:Nat} {cells:List Value} {w3 w4:World} (h:OL B b w col v1 v2 v3 (.slice A m.fns.length c) v7 v8 m 6 ln) (hP:Gc Rt 56 B (fun k=>col k=6) w A m.fns.length c cells m.fns)
 (hb:Below w.heap.size w w3) {A':Option Addr} {c':Nat} {f:GR} (hc:f.code= []) (ht:Rd.ER f.t) (hl:Rd.Yb f.loc)
 (ho:w4.ownsRow B 56 3 (.slice A' (m.fns.length+1) c') (m.fns.length+1) (cells++ [.int .i64 f.t,.string f.loc,.slice none 0 0])) (hg:w3.grownBy w4 (Value.slice A m.fns.length c).ownBlock)
 (hat:(Value.slice A' (m.fns.length+1) c').ownBlock=(Value.slice A m.fns.length c).ownBlock∨(Value.slice A' (m.fns.length+1) c').ownBlock=some w3.heap.size):
 Keep (fun k=>k<B∧k≠b) w (w4.setCell ⟨b,5,none⟩ (.slice A' (m.fns.length+1) c'))∧JW B b (w4.setCell ⟨b,5,none⟩ (.slice A' (m.fns.length+1) c')) {m with fns:=m.fns++ [f]} ln:=by
 have hK:=J7 (b:=b) hb hg 5 (.slice A' (m.fns.length+1) c')
 have hB:=h.top
 have hown:=hP.lt
 have hlow:=h.low
 have hlt5: ∀k,k<w.heap.size→k<(w4.setCell ⟨b,5,none⟩ (.slice A' (m.fns.length+1) c')).heap.size:=fun k hk=>Nat.lt_of_lt_of_le hk hK.size
 refine⟨hK.mono fun k hk=>⟨hk.2,fun e=>by have:=(hown k e).1;omega⟩,?_⟩
 have hbl:AL w4 b 104 [v1,v2,v3,.int .i64 m.first,.int .i64 m.most,.slice A m.fns.length c,v7,v8,.int .i64 (6:Nat),.int .i64 ln]:=(hg.block b (Nat.lt_of_lt_of_le h.blk.lt hb.size) (fun e=>by have:=(hown b e.symm).1;omega)).trans (h.blk.below hb h.blk.lt)
 have nA:w3.heap.size≤w4.heap.size:=hg.size
 have hsz5:(w4.setCell ⟨b,5,none⟩ (.slice A' (m.fns.length+1) c')).heap.size=w4.heap.size:=by unfold World.setCell;first | rfl | simp | (split<;>first | rfl | simp)
 have hlo: ∀g,(Value.slice A' (m.fns.length+1) c').ownBlock=some g→g<w4.heap.size:=fun g e=>(ho.lt g e).2
 have hcol: ∀k,k<w.heap.size→(fun k=>if k<w.heap.size then col k else if k<w4.heap.size then 6 else 9) k=col k:=fun k hk=>if_pos hk
 refine⟨m.fns,f,w4.heap.size,fun k=>if k<w.heap.size then col k else if k<w4.heap.size then 6 else 9,v1,v2,v3,v7,v8,A',c',cells,.slice none 0 0,⟨hbl.set 5 _,?_,⟨?_,?_,?_,ht,hl,?_,Nat.le_trans hB (Nat.le_trans hb.size nA),by rw [hsz5];exact Nat.le_refl _,?_⟩,rfl,hlow,Nat.le_trans hB hK.size,h.first,h.most⟩⟩
 ·have h5:Five B col w v1 v2 v3 v7 v8 m:=⟨h.six.p1,h.six.p2,h.six.p3,h.six.p7,h.six.p8⟩
  exact h5.keep hK (fun k UA hk hc=>⟨by omega,fun e=>by have:col k=6:=hP.at_ k e;omega⟩) _ (fun k hk hc=>if_pos hk) rfl rfl rfl rfl rfl
 ·have h1:(Keep.refl (fun k=>k≠b) w4).setCell (p:=⟨b,5,none⟩) (fun e=>e rfl) (.slice A' (m.fns.length+1) c')=(Keep.refl (fun k=>k≠b) w4).setCell (p:=⟨b,5,none⟩) (fun e=>e rfl) (.slice A' (m.fns.length+1) c'):=rfl
  exact BD (K:=fun k=>k≠b) ho ((Keep.refl _ w4).setCell (p:=⟨b,5,none⟩) (fun e=>e rfl) _) (fun k hk=>by have:=(ho.lt k hk).1;omega)
 ·intro g hg'
  refine⟨?_,hlo g hg'⟩
  by_cases hk:g<w.heap.size
  ·rw [if_pos hk]
   rcases hat with e | e
   ·exact hP.at_ g (e▸hg')
   ·rw [e] at hg';injection hg' with hg';have:=hb.size;omega
  ·rw [if_neg hk,if_pos (hlo g hg')]
 ·intro k x hk
  obtain⟨l,hh,g1,g2,g3,g4,g5⟩:=hP.els k x hk
  refine⟨l,hh,g1,Nat.le_trans g2 (Nat.le_trans hb.size nA),fun g hg'=> ?_,fun g ha hb'=> ?_,?_⟩
  ·rcases hat with e | e
   ·exact g3 g (e▸hg')
   ·rw [e] at hg';injection hg' with hg';have:=hb.size;right;omega
  ·rw [if_pos (by omega)];exact g4 g ha hb'
  ·refine Rd.GX (K:=fun k=>k≠b∧(Value.slice A m.fns.length c).ownBlock≠some k) g5 hK g2 (fun k ha hb'=>⟨by omega,fun e=> ?_⟩)
   have:=g3 k e
   omega
 ·rw [hc];exact J6.nil _ _ _ _ _
 ·intro k hk hk2
  have:=hb.size
  rw [if_neg (by omega),if_neg (by omega)]
theorem Vq {x0 x1 x2:ByteArray} (h:Uv B b A hi w col v1 v2 v3 v6 v7 v8 m 6 ln [x0,x1,x2]):
 Calls prog 93 #[.pointer (some ⟨b,0,none⟩),.slice (some ⟨A,0,none⟩) 3 3] w (Jd (fun W m'=>JW B b W m' ln) B b w (Av 6 m [x1,x2])):=by
 obtain⟨A2,c2,BJ,e2,hP⟩:=h.rd.six.p6
 subst e2
 obtain⟨i0,hi0,hz,hs',hby⟩:=info_parts Y_
 have hc1:=h.rd.blk.q 5 rfl
 have hw1:w.cell? ⟨A,1,none⟩=some (.string x1):=h.wd.at_ 1 _ rfl
 have hw2:w.cell? ⟨A,2,none⟩=some (.string x2):=h.wd.at_ 2 _ rfl
 have Md:=h.wd.lt
 have hbl:=h.rd.blk.lt
 have hhi:=h.hhi
 have hq:=h.lens.fns
 have iE:=AA (h.wd.sz x1 (by simp));have OU:=AA (h.wd.sz x2 (by simp));have HE:=AA h.env;have HR:=AA h.rd;have HP:=AA hP
 have hlow:=h.rd.low
 have htop:=h.rd.top
 have UC:Hid (BH x1=none→Av 6 m [x1,x2]=none):=AA fun h=>by show(BH x1).map _=none;rw [h];rfl
 have iH:Hid (∀a,BH x1=some a→Av 6 m [x1,x2]=some {m with fns:=m.fns++ [⟨a,R7 x2,[]⟩]}):=AA fun a h1=>by show(BH x1).map _=_;rw [h1];rfl
 have HZ:=AA (AL.new w.drew 56 [.int .i64 0,.string ⟨#[]⟩,.slice none 0 0])
 clear h hP
 go_enter func93,ntmps93
 go_wp2_with fail
 refine(BU (some ⟨A,0,none⟩) 3 3 3 w).mono ?_
 rintro e w1 ⟨rfl,D5⟩
 rcases D5 with⟨_,rfl⟩ | ⟨hf,_⟩
 case inr=>exact absurd hf (by decide)
 go_wp2_with fail
 refine wp_region_held_drew (S:=fun W=>W.cell? ⟨A,1,none⟩=some (.string x1)∧W.cell? ⟨A,2,none⟩=some (.string x2)) (by kernel_rfl) ⟨hw1,hw2⟩ (fun hHeld=> ?_)
 refine AB (i:=0) (v:= ?_) rfl (by kernel_rfl) (fun _ _ _ h=>h) (by intro w hSw;(try dsimp only at hSw);go_simp;try with_reducible rfl) hHeld ?_
 refine AB (i:=1) (v:= ?_) rfl (by kernel_rfl) (fun _ _ _ h=>h) (by intro w hSw;(try dsimp only at hSw);go_simp;try with_reducible rfl) hHeld ?_
 refine AB (i:=2) (v:= ?_) rfl (by kernel_rfl) (fun _ _ _ h=>h) (by intro w hSw;(try dsimp only at hSw);go_simp;try with_reducible rfl) hHeld ?_
 refine AB (i:=4) (v:= ?_) rfl (by kernel_rfl) (fun _ _ _ h=>h) (by intro w hSw;(try dsimp only at hSw);go_simp;try with_reducible rfl) hHeld ?_
 refine AB (i:=5) (v:= ?_) rfl (by kernel_rfl) (fun _ _ _ h=>h) (by intro w hSw;(try dsimp only at hSw);go_simp;try with_reducible rfl) hHeld ?_
 refine AB (i:=6) (v:= ?_) rfl (by kernel_rfl) (fun _ _ _ h=>h) (by intro w hSw;(try dsimp only at hSw);go_simp;try with_reducible rfl) hHeld ?_
 refine wpAnyH_ready (rs:= [3,8]) (by kernel_rfl) (by simp) ?_
 refine AllReadyH.cons rfl (fun K hK=> ?ga) (AllReadyH.cons rfl (fun K hK=> ?gb) AllReadyH.nil)
 case' ga=>
  go_simp
  go_at_call 142
  refine(CQ x1 (by have:=iE.out;omega) _ (HE.out.up (below_drewN (Below.refl _ _) 1) (by omega)) (by simp;omega)).mono ?_
  rintro e w2 ⟨hb2,⟨h0,rfl⟩ | ⟨n,hn,hm,rfl⟩⟩
  ·go_wp2_with fail
   exact⟨rfl,.inl ⟨UC.out h0,rfl,Am hb2⟩⟩
  have hS2:=Am hb2
  refine hK.out _ _ ⟨(hS2.cell (p:=⟨A,1,none⟩) Md).trans hw1,(hS2.cell (p:=⟨A,2,none⟩) Md).trans hw2⟩ (fun Ag=> ?_)
  clear hK K
  refine AB (i:=7) (v:= ?_) rfl (by kernel_rfl) (fun _ _ _ h=>h) (by intro w hSw;(try dsimp only at hSw);go_simp;try with_reducible rfl) Ag ?_
  refine wpAnyH_ready (rs:= [8]) (by kernel_rfl) (by simp) ?_
  refine AllReadyH.cons rfl (fun K hK=> ?_) AllReadyH.nil
  go_simp
  have hAz:(w2.alloc (.cells #[.int .i64 0,.string ⟨#[]⟩,.slice none 0 0] 56)).cell? ⟨A,1,none⟩=some (.string x1)∧(w2.alloc (.cells #[.int .i64 0,.string ⟨#[]⟩,.slice none 0 0] 56)).cell? ⟨A,2,none⟩=some (.string x2):=by
   have hb:=(Below.refl w2.heap.size w2).alloc (Nat.le_refl _) (.cells #[.int .i64 0,.string ⟨#[]⟩,.slice none 0 0] 56)
   have hA2:=Nat.lt_of_lt_of_le Md hS2.size
   exact⟨(hb.cell (p:=⟨A,1,none⟩) hA2).trans ((hS2.cell (p:=⟨A,1,none⟩) Md).trans hw1),(hb.cell (p:=⟨A,2,none⟩) hA2).trans ((hS2.cell (p:=⟨A,2,none⟩) Md).trans hw2)⟩
  refine hK.out _ _ hAz (fun CO=> ?_)
  clear hK K
  have hbx:=AL.new w2 56 [.int .i64 0,.string ⟨#[]⟩,.slice none 0 0]
  have hB3:Below w.heap.size w (w2.alloc (.cells #[.int .i64 0,.string ⟨#[]⟩,.slice none 0 0] 56)):=hS2.alloc hS2.size _
  have hgl:w.heap.size≤w2.heap.size:=hS2.size
  obtain⟨g,hgg⟩: ∃g,g=w2.heap.size:=⟨_,rfl⟩
  rw [←hgg] at hbx hgl⊢
  generalize hw3:w2.alloc (.cells #[.int .i64 0,.string ⟨#[]⟩,.slice none 0 0] 56)=w3 at*
  clear hS2 hgg hw3 hb2 hHeld Ag hAz
 case' gb=>
  go_simp
  have hAz:(w.drew.alloc (.cells #[.int .i64 0,.string ⟨#[]⟩,.slice none 0 0] 56)).cell? ⟨A,1,none⟩=some (.string x1)∧(w.drew.alloc (.cells #[.int .i64 0,.string ⟨#[]⟩,.slice none 0 0] 56)).cell? ⟨A,2,none⟩=some (.string x2):=by
   have hb:=(Below.refl w.drew.heap.size w.drew).alloc (Nat.le_refl _) (.cells #[.int .i64 0,.string ⟨#[]⟩,.slice none 0 0] 56)
   exact⟨(hb.cell (p:=⟨A,1,none⟩) Md).trans hw1,(hb.cell (p:=⟨A,2,none⟩) Md).trans hw2⟩
  have hBz:Below w.heap.size w (w.drew.alloc (.cells #[.int .i64 0,.string ⟨#[]⟩,.slice none 0 0] 56)):=((Below.refl _ _).drew).alloc (Nat.le_refl _) _
  refine hK.out _ _ hAz (fun Ag=> ?_)
  clear hK K
  refine wpAnyH_ready (rs:= [3]) (by kernel_rfl) (by simp) ?_
  refine AllReadyH.cons rfl (fun K hK=> ?_) AllReadyH.nil
  go_simp
  go_at_call 142
  refine(CQ x1 (by have:=iE.out;omega) _ (HE.out.up hBz (by omega)) (by simp;omega)).mono ?_
  rintro e w3 ⟨hb2,⟨h0,rfl⟩ | ⟨n,hn,hm,rfl⟩⟩
  ·go_wp2_with fail
   exact⟨rfl,.inl ⟨UC.out h0,rfl,hBz.trans (hb2.mono (by simp))⟩⟩
  have hB3:Below w.heap.size w w3:=hBz.trans (hb2.mono (by simp))
  have hbx:AL w3 w.heap.size 56 [.int .i64 0,.string ⟨#[]⟩,.slice none 0 0]:=HZ.out.below hb2 HZ.out.lt
  have hA3:w3.cell? ⟨A,1,none⟩=some (.string x1)∧w3.cell? ⟨A,2,none⟩=some (.string x2):=⟨(hB3.cell (p:=⟨A,1,none⟩) Md).trans hw1,(hB3.cell (p:=⟨A,2,none⟩) Md).trans hw2⟩
  refine hK.out _ _ hA3 (fun CO=> ?_)
  clear hK K
  refine AB (i:=7) (v:= ?_) rfl (by kernel_rfl) (fun _ _ _ h=>h) (by intro w hSw;(try dsimp only at hSw);go_simp;try with_reducible rfl) CO ?_
  have hgl:w.heap.size≤w.heap.size:=Nat.le_refl _
  obtain⟨g,hgg⟩: ∃g,g=w.heap.size:=⟨_,rfl⟩
  rw [←hgg] at hbx
  have hgl:w.heap.size≤g:=by omega
  conv=>
   congr
   all_goals try rw [←hgg]
  clear hBz hgg hb2 hHeld Ag hA3 hAz
 all_goals
  have cb0:=hbx.q 0 rfl
  have cb1:=hbx.q 1 rfl
  have cb2:=hbx.q 2 rfl
  have fb0:=hbx.frozen 0
  have fb1:=hbx.frozen 1
  have fb2:=hbx.frozen 2
  refine wpAnyH_ready (rs:= [9]) (by kernel_rfl) (by simp) ?_
  refine AllReadyH.cons rfl (fun K hK=> ?_) AllReadyH.nil
  go_simp
  have hb5:=(((hB3.setCell (p:=⟨g,0,none⟩) hgl (.int .i64 n)).setCell (p:=⟨g,1,none⟩) hgl (.string x2)).setCell (p:=⟨g,2,none⟩) hgl (.slice none 0 0))
  have hx5:=(((hbx.set 0 (.int .i64 n)).set 1 (.string x2)).set 2 (.slice none 0 0))
  refine hK.out _ _ ⟨(hb5.cell (p:=⟨A,1,none⟩) Md).trans hw1,(hb5.cell (p:=⟨A,2,none⟩) Md).trans hw2⟩ (fun nC=> ?_)
  clear hK K
  refine wpAnyH_done (by kernel_rfl) ?_ _
  generalize Mr:World.setCell _ _ _=w5 at*
  have hx5:AL w5 g 56 [.int .i64 n,.string x2,.slice none 0 0]:=hx5
  have HY:=AA (iH.out n hn);have HM:=AA hm
  clear Mr CO nC cb0 cb1 cb2 fb0 fb1 fb2 hbx hB3 hn hm iH UC HZ
  have cb0:=hx5.q 0 rfl
  have cb1:=hx5.q 1 rfl
  have cb2:=hx5.q 2 rfl
  have fb1:=hx5.frozen 1
  have Qw:=AA hx5;have JX:=AA hb5
  clear hx5 hb5
  have hpart: ∃(w6:World) (lx:ByteArray),lx=R7 x2∧Below w.heap.size w w6∧AL w6 g 56 [.int .i64 n,.string lx,.slice none 0 0]∧((x2=dash∧w6=w5.setCell ⟨g,1,none⟩ (.string ⟨#[]⟩))∨(x2≠dash∧w6=w5)):=by
   by_cases hd:x2=dash
   ·refine⟨_,_,rfl,JX.out.setCell (p:=⟨g,1,none⟩) hgl (.string ⟨#[]⟩),?_,.inl ⟨hd,rfl⟩⟩
    have:R7 x2=none_:=if_pos hd
    rw [this]
    exact Qw.out.set 1 _
   ·refine⟨w5,_,rfl,JX.out,?_,.inr ⟨hd,rfl⟩⟩
    have:R7 x2=x2:=if_neg hd
    rw [this]
    exact Qw.out
  obtain⟨w6,lx,hlx,hb6,hx6,hway⟩:=hpart
  have hlk:lx.size≤140737488351232:=by
   rw [hlx]
   have h0:=OU.out
   unfold R7
   split
   ·exact Nat.zero_le _
   ·omega
  have g1:=(hb6.cell (p:=⟨b,5,none⟩) hbl).trans hc1
  have e0:=hx6.q 0 rfl
  have e1:=hx6.q 1 rfl
  have e2:=hx6.q 2 rfl
  have MF:=hx6.lt
  have yE:=hb6.size
  have EM:Below w6.heap.size w6 (w6.alloc (.cells #[.int .i64 n,.string lx,.slice none 0 0] 56)).drew:=((Below.refl _ _).alloc (Nat.le_refl _) _).drew
  have KQ:=AA (hb6.trans (EM.mono yE))
  have k1:=(EM.cell (p:=⟨b,5,none⟩) (show b<w6.heap.size by omega)).trans g1
  have k2:=(EM.cell (p:=⟨g,0,none⟩) MF).trans e0
  have k3:=(EM.cell (p:=⟨g,1,none⟩) MF).trans e1
  have k4:=(EM.cell (p:=⟨g,2,none⟩) MF).trans e2
  have Uy:=AA (BI HP.out.own KQ.out)
  have GK:Hid (Row (w6.alloc (.cells #[.int .i64 n,.string lx,.slice none 0 0] 56)).drew (w6.heap.size+1) (some ⟨w6.heap.size,0,none⟩) [.int .i64 n,.string lx,.slice none 0 0]):=AA (Ak w6 [.int .i64 n,.string lx,.slice none 0 0] 56)
  have HLK:=AA hlk
  clear EM hx6 hb6 hlk
  rw [←hlx] at HY
  rcases hway with⟨hd,nD⟩ | ⟨hd,nD⟩
  case' inl=>
   subst hd
   obtain rfl:lx=⟨#[]⟩:=hlx
   have hq2:(dash.toList== [45])=true:=by decide+kernel
   go_wp2_with fail
   rw [←nD]
   clear nD cb0 cb1 cb2 fb1 Qw JX
   try clear hlx
   go_wp2_with fail
  case' inr=>
   have hq2:(x2.toList== [45])=false:=dO hd
   obtain rfl:lx=x2:=hlx.trans (if_neg hd)
   subst nD
   clear cb0 cb2 Qw JX
   try clear hlx
   go_wp2_with fail
   clear cb1 fb1 hq2
 all_goals
  go_region_law (refine Au rfl (.tmp 24) (.tmp 26) 25 rfl B 56 i0 _ 3 48 underlying25 hi0 hz hs' hby rfl (by omega) _ m.fns.length BJ rfl Uy.out _ _ 1 1 [.int .i64 n,.string _,.slice none 0 0] rfl rfl GK.out (by intro u hu;simp at hu;rcases hu with rfl | rfl | rfl<;>rfl) (by unfold maxLen;omega) (by omega) (by simp;omega) ?_;intro A4 c4 w9 h2 h3 h4;have Du:=HR.out.old KQ.out h3 (fun g e=>(HP.out.lt g e).1);have TJ:=Du.frozen 5;have hc4:=Du.cell 5;have H2:=AA h2;have H3:=AA h3;have H4:=AA h4;clear h2 h3 h4 Du)
  all_goals
   go_end0
   exact .inr ⟨_,HY.out,rfl,HR.out.eG HP.out KQ.out (f:=⟨n,_,[]⟩) rfl HM.out HLK.out H2.out H3.out H4.out⟩
theorem TW (h0:ws≠ []) (hk:ws.length≠3) (Inv:World→AP→Prop):
 Calls prog 93 #[.pointer (some ⟨b,0,none⟩),.slice (some ⟨A,0,none⟩) ws.length ws.length] w (Jd Inv B b w (Av 6 m ws.tail)):=by
 have HN:=AA (J8 (m:=m) (p:=6) (k:=3) (by decide) h0 hk)
 have HK:Hid (decide (ws.length=3)=false):=AA (decide_eq_false hk)
 clear h0 hk
 go_enter func93,ntmps93
 go_wp2_with fail
 refine(BU (some ⟨A,0,none⟩) ws.length ws.length 3 w).mono ?_
 rintro e w1 ⟨rfl,⟨h1,rfl⟩ | ⟨h1,rfl⟩⟩
 ·rw [HK.out] at h1;cases h1
 go_wp2_with fail
 exact⟨rfl,.inl ⟨HN.out,rfl,Below.refl _ _⟩⟩
theorem ZA (h:Uv B b A hi w col v1 v2 v3 v6 v7 v8 m 6 ln ws) (h0:ws≠ []):
 Calls prog 93 #[.pointer (some ⟨b,0,none⟩),.slice (some ⟨A,0,none⟩) ws.length ws.length] w (Jd (fun W m'=>JW B b W m' ln) B b w (Av 6 m ws.tail)):=by
 by_cases hk:ws.length=3
 case neg=>exact TW h0 hk _
 obtain⟨x0,x1,x2,rfl⟩:=sK hk
 exact Vq h
end
section
variable {B b A hi:Nat} {w:World} {col:Nat→Nat} {v1 v2 v3 v6 v7 v8:Value} {m:AP} {st ln:Nat} {ws:List ByteArray}
theorem Vo (h0:ws≠ []) (hk:ws.length≠3) (Inv:World→AP→Prop):
 Calls prog 95 #[.pointer (some ⟨b,0,none⟩),.slice (some ⟨A,0,none⟩) ws.length ws.length] w (Jd Inv B b w (Av 8 m ws.tail)):=by
 have HN:=AA (J8 (m:=m) (p:=8) (k:=3) (by decide) h0 hk)
 have HK:Hid (decide (ws.length=3)=false):=AA (decide_eq_false hk)
 clear h0 hk
 go_enter func95,ntmps95
 go_wp2_with fail
 refine(BU (some ⟨A,0,none⟩) ws.length ws.length 3 w).mono ?_
 rintro e w1 ⟨rfl,⟨h1,rfl⟩ | ⟨h1,rfl⟩⟩
 ·rw [HK.out] at h1;cases h1
 go_wp2_with fail
 exact⟨rfl,.inl ⟨HN.out,rfl,Below.refl _ _⟩⟩
theorem XT {x0 x1 x2:ByteArray} (h:Uv B b A hi w col v1 v2 v3 v6 v7 v8 m st ln [x0,x1,x2]) (hn:BH x2=none) (Inv:World→AP→Prop):
 Calls prog 95 #[.pointer (some ⟨b,0,none⟩),.slice (some ⟨A,0,none⟩) 3 3] w (Jd Inv B b w (Av 8 m [x1,x2])):=by
 obtain⟨A2,c2,BJ,e2,hP⟩:=h.rd.six.p8
 subst e2
 have hc1:=h.rd.blk.q 7 rfl
 have hw1:w.cell? ⟨A,1,none⟩=some (.string x1):=h.wd.at_ 1 _ rfl
 have hw2:w.cell? ⟨A,2,none⟩=some (.string x2):=h.wd.at_ 2 _ rfl
 have hbl:=h.rd.blk.lt
 have Md:=h.wd.lt
 have hhi:=h.hhi
 have HX:=AA (h.wd.sz x2 (by simp));have HN:=AA hn;have HE:=AA h.env
 have HRN:Hid (Av 8 m [x1,x2]=none):=AA (by show(BH x2).map _=none;rw [hn];rfl)
 clear h hn hP
 go_enter func95,ntmps95
 go_wp2_with fail
 refine(BU (some ⟨A,0,none⟩) 3 3 3 w).mono ?_
 rintro e w1 ⟨rfl,D5⟩
 rcases D5 with⟨_,rfl⟩ | ⟨hf,_⟩
 case inr=>exact absurd hf (by decide)
 go_wp2_with fail
 refine wp_region_held_drew (S:=fun W=>W.cell? ⟨b,7,none⟩=some (.slice A2 m.AU.length c2)∧W.cell? ⟨A,1,none⟩=some (.string x1)∧W.cell? ⟨A,2,none⟩=some (.string x2)) (by kernel_rfl) ⟨hc1,hw1,hw2⟩ (fun hHeld=> ?_)
 refine AB (i:=0) (v:= ?_) rfl (by kernel_rfl) (fun _ _ _ h=>h) (by intro w hSw;(try dsimp only at hSw);go_simp;try with_reducible rfl) hHeld ?_
 refine AB (i:=1) (v:= ?_) rfl (by kernel_rfl) (fun _ _ _ h=>h) (by intro w hSw;(try dsimp only at hSw);go_simp;try with_reducible rfl) hHeld ?_
 refine AB (i:=2) (v:= ?_) rfl (by kernel_rfl) (fun _ _ _ h=>h) (by intro w hSw;(try dsimp only at hSw);go_simp;try with_reducible rfl) hHeld ?_
 refine AB (i:=3) (v:= ?_) rfl (by kernel_rfl) (fun _ _ _ h=>h) (by intro w hSw;(try dsimp only at hSw);go_simp;try with_reducible rfl) hHeld ?_
 refine AB (i:=4) (v:= ?_) rfl (by kernel_rfl) (fun _ _ _ h=>h) (by intro w hSw;(try dsimp only at hSw);go_simp;try with_reducible rfl) hHeld ?_
 refine AB (i:=5) (v:= ?_) rfl (by kernel_rfl) (fun _ _ _ h=>h) (by intro w hSw;(try dsimp only at hSw);go_simp;try with_reducible rfl) hHeld ?_
 refine AB (i:=6) (v:= ?_) rfl (by kernel_rfl) (fun _ _ _ h=>h) (by intro w hSw;(try dsimp only at hSw);go_simp;try with_reducible rfl) hHeld ?_
 refine AB (i:=7) (v:= ?_) rfl (by kernel_rfl) (fun _ _ _ h=>h) (by intro w hSw;(try dsimp only at hSw);go_simp;try with_reducible rfl) hHeld ?_
 refine AB (i:=8) (v:= ?_) rfl (by kernel_rfl) (fun _ _ _ h=>h) (by intro w hSw;(try dsimp only at hSw);go_simp;try with_reducible rfl) hHeld ?_
 refine AB (i:=9) (v:= ?_) rfl (by kernel_rfl) (fun _ _ _ h=>h) (by intro w hSw;(try dsimp only at hSw);go_simp;try with_reducible rfl) hHeld ?_
 refine AB (i:=10) (v:= ?_) rfl (by kernel_rfl) (fun _ _ _ h=>h) (by intro w hSw;(try dsimp only at hSw);go_simp;try with_reducible rfl) hHeld ?_
 refine AB (i:=11) (v:= ?_) rfl (by kernel_rfl) (fun _ _ _ h=>h) (by intro w hSw;(try dsimp only at hSw);go_simp;try with_reducible rfl) hHeld ?_
 refine wpAnyH_ready (rs:= [12]) (by kernel_rfl) (by simp) ?_
 refine AllReadyH.cons rfl (fun K hK=> ?_) AllReadyH.nil
 go_simp
 go_at_call 142
 refine(CQ x2 (by have:=HX.out;omega) _ (HE.out.up (below_drewN (Below.refl _ _) 1) (by omega)) (by first | (simp;omega) | omega)).mono ?_
 rintro e w2 ⟨hb2,⟨h0,rfl⟩ | ⟨k,hk,_,rfl⟩⟩
 ·go_wp2_with fail
  exact⟨rfl,.inl ⟨HRN.out,rfl,Am hb2⟩⟩
 ·exact absurd (hk.symm.trans HN.out) (by simp)
theorem XU {x0 x1 x2:ByteArray} {n:Int} (h:Uv B b A hi w col v1 v2 v3 v6 v7 v8 m st ln [x0,x1,x2]) (hn:BH x2=some n):
 Calls prog 95 #[.pointer (some ⟨b,0,none⟩),.slice (some ⟨A,0,none⟩) 3 3] w fun e w'=>e= .returned (.tuple #[])∧Keep (fun k=>k<B∧k≠b) w w'∧Ru B b w' {m with AU:=m.AU++ [⟨x1,n⟩]} st ln:=by
 obtain⟨A2,c2,BJ,e2,hP⟩:=h.rd.six.p8
 subst e2
 obtain⟨i0,hi0,hz,hs',hby⟩:=info_parts Y6
 have hc1:=h.rd.blk.q 7 rfl
 have hw1:w.cell? ⟨A,1,none⟩=some (.string x1):=h.wd.at_ 1 _ rfl
 have hw2:w.cell? ⟨A,2,none⟩=some (.string x2):=h.wd.at_ 2 _ rfl
 have hbl:=h.rd.blk.lt
 have Md:=h.wd.lt
 have hhi:=h.hhi
 have hlow:=h.rd.low
 have htop:=h.rd.top
 have hq:=h.lens.AU
 have HX:=AA (h.wd.sz x2 (by simp));have iE:=AA (h.wd.sz x1 (by simp));have HN:=AA hn;have HE:=AA h.env;have HR:=AA h.rd;have HP:=AA hP
 clear h hn hP
 go_enter func95,ntmps95
 go_wp2_with fail
 refine(BU (some ⟨A,0,none⟩) 3 3 3 w).mono ?_
 rintro e w1 ⟨rfl,D5⟩
 rcases D5 with⟨_,rfl⟩ | ⟨hf,_⟩
 case inr=>exact absurd hf (by decide)
 go_wp2_with fail
 go_region_law
  (first
   | (go_simp;go_at_call 142;refine(CQ x2 (by have:=HX.out;omega) w.drew (HE.out.up (below_drewN (Below.refl _ _) 1) (by omega)) (by first | (simp;omega) | omega)).mono ?_;rintro e w2 ⟨hb2,⟨h0,rfl⟩ | ⟨k,hk,Y8,rfl⟩⟩;exact absurd (h0.symm.trans HN.out) (by simp);obtain rfl:k=n:=Option.some.inj (hk.symm.trans HN.out);have hS:=Am hb2;have HS:=AA hS;have g1:=(hS.cell (p:=⟨b,7,none⟩) (show b<w.heap.size by omega)).trans hc1;have gw1:=(hS.cell (p:=⟨A,1,none⟩) (show A<w.heap.size by omega)).trans hw1;have hsz2:w.heap.size≤w2.heap.size:=hS.size;have g1a:=(((Below.refl w2.heap.size w2).alloc (Nat.le_refl _) (.cells #[.string x1,.int .i64 k] 61)).cell (p:=⟨b,7,none⟩) (show b<w2.heap.size by omega)).trans g1;have GK:=AA (Ak w2 [.string x1,.int .i64 k] 61);have mg:=AA Y8;have kS:=AA (BI HP.out.own hS);clear hb2 hk Y8 hS)
   | (refine Au rfl (.tmp 11) (.tmp 20) 27 rfl B 61 i0 _ 2 24 underlying27 hi0 hz hs' hby rfl (by omega) _ m.AU.length BJ rfl (kS.out.alloc _) (w2.heap.size+1) _ 1 1 [.string x1,.int .i64 k] rfl rfl GK.out (by intro u hu;simp at hu;rcases hu with rfl | rfl<;>rfl) (by unfold maxLen;omega) (by omega) (by simp;omega) ?_;intro A4 c4 w4 h2 h3 h4;have Du:=HR.out.old (HS.out.alloc HS.out.size _) h3 (fun g e=>(HP.out.lt g e).1);have TJ:=Du.frozen 7;have hc4:=Du.cell 7;have H2:=AA h2;have H3:=AA h3;have H4:=AA h4;clear h2 h3 h4 Du))
 all_goals
  go_end0
  exact⟨rfl,HR.out.Y5 HP.out (HS.out.alloc HS.out.size _) (lo:=w.heap.size) (hi:=w.heap.size) (OY.2 ⟨rfl,(show x1.size≤140737488351232 by have:=iE.out;omega),mg.out⟩) (Nat.le_refl _) (by simp;omega) H2.out H3.out H4.out⟩
theorem iF (h:Uv B b A hi w col v1 v2 v3 v6 v7 v8 m st ln ws) (h0:ws≠ []):
 Calls prog 95 #[.pointer (some ⟨b,0,none⟩),.slice (some ⟨A,0,none⟩) ws.length ws.length] w (Jd (fun W m'=>Ru B b W m' st ln) B b w (Av 8 m ws.tail)):=by
 by_cases hk:ws.length=3
 case neg=>exact Vo h0 hk _
 obtain⟨x0,x1,x2,rfl⟩:=sK hk
 cases hn:BH x2 with
 | none=>exact XT h hn _
 | some n=>
  refine(XU h hn).mono ?_
  rintro e w' ⟨rfl,hk,hr⟩
  exact .inr ⟨_,by show(BH x2).map _=_;rw [hn];rfl,rfl,hk,hr⟩
end
def Vn (c:UInt8):Bool:=JU c.toNat
def QO:List UInt8→List UInt8→List (List UInt8)
 | cur,[]=>if cur= [] then [] else [cur]
 | cur,b::t=>if Vn b=true then(if cur= [] then [] else [cur])++QO [] t else QO (cur++ [b]) t
theorem gY {s:ByteArray} (ha: ∀c∈s.data.toList,c.toNat<128) {pos:Nat} (h:pos<s.size):
 ∃b t,s.data.toList.drop pos=b::t∧Utf8.decode s pos=(b.toNat,1):=by
 have hl:pos<s.data.toList.length:=by rw [←Lib.size_eq];exact h
 refine⟨s.data.toList[pos],s.data.toList.drop (pos+1),List.drop_eq_getElem_cons hl,?_⟩
 rw [←Lib.decodeL_drop,List.drop_eq_getElem_cons hl]
 exact Lib.decodeL_ascii _ _ (ha _ (List.getElem_mem hl))
theorem KM (s:ByteArray) (ha: ∀c∈s.data.toList,c.toNat<128): ∀(f pos:Nat) (st:Option Nat) (acc:List (Nat×Nat)),s.size≤pos+f→pos≤s.size→(∀a,st=some a→a<pos)→
 acc.map (fun p=>Lib.pieceU s.data.toList p.1 p.2)++QO (Lib.openPiece s.data.toList st pos) (s.data.toList.drop pos)=(Lib.closeSpans s (Lib.spansFromP JU s f pos st acc)).map (fun p=>Lib.pieceU s.data.toList p.1 p.2)
 | 0,pos,st,acc,h,hp,hst=>by
  obtain rfl:pos=s.size:=by omega
  have hd:s.data.toList.drop s.size= []:=List.drop_eq_nil_of_le (by rw [←Lib.size_eq];exact Nat.le_refl _)
  rw [hd]
  cases st with
  | none=>simp [QO,Lib.spansFromP,Lib.closeSpans,Lib.openPiece]
  | some a=>
   have:=Lib.pieceU_ne s.data.toList a s.size (hst a rfl) (by rw [←Lib.size_eq];exact Nat.le_refl _)
   simp [QO,Lib.spansFromP,Lib.closeSpans,Lib.openPiece,this]
 | f+1,pos,st,acc,h,hp,hst=>by
  by_cases hlt:pos<s.size
  ·obtain⟨b,t,hbt,hdec⟩:=gY ha hlt
   have ht:t=s.data.toList.drop (pos+1):=by rw [←List.drop_drop,hbt];rfl
   simp only [Lib.spansFromP,if_pos hlt,hdec]
   rw [hbt]
   show _++(if Vn b=true then _ else _)=_
   cases hsp:JU b.toNat with
   | true=>
    rw [if_pos (show Vn b=true from hsp)]
    simp only [if_true]
    cases st with
    | none=>
     have ih:=KM s ha f (pos+1) none acc (by omega) (by omega) (fun a h=>by cases h)
     simpa [Lib.openPiece,ht] using ih
    | some a=>
     have hpn:=Lib.pieceU_ne s.data.toList a pos (hst a rfl) (by rw [←Lib.size_eq];omega)
     have ih:=KM s ha f (pos+1) none (acc++ [(a,pos)]) (by omega) (by omega) (fun a h=>by cases h)
     simpa [Lib.openPiece,hpn,ht] using ih
   | false=>
    rw [if_neg (show ¬Vn b=true by unfold Vn;rw [hsp];exact Bool.false_ne_true)]
    simp only [Bool.false_eq_true,if_false]
    have hone: [b]=(s.data.toList.drop pos).take 1:=by rw [hbt];rfl
    cases st with
    | none=>
     have ih:=KM s ha f (pos+1) (some pos) acc (by omega) (by omega) (fun a h=>by cases h;omega)
     have e:([]:List UInt8)++ [b]=Lib.pieceU s.data.toList pos (pos+1):=by
      unfold Lib.pieceU
      rw [List.nil_append,Nat.add_sub_cancel_left,hone]
     simp only [Lib.openPiece] at ih⊢
     rw [e,ht]
     exact ih
    | some a=>
     have ih:=KM s ha f (pos+1) (some a) acc (by omega) (by omega) (fun b h=>by cases h;have:=hst a rfl;omega)
     simp only [Lib.openPiece] at ih⊢
     rw [hone,Lib.pieceU_grow _ _ _ _ (Nat.le_of_lt (hst a rfl)),ht]
     exact ih
  ·obtain rfl:pos=s.size:=by omega
   have hd:s.data.toList.drop s.size= []:=List.drop_eq_nil_of_le (by rw [←Lib.size_eq];exact Nat.le_refl _)
   rw [hd,Lib.spansFromP_end JU s _ _ _ _ hlt]
   cases st with
   | none=>simp [QO,Lib.closeSpans,Lib.openPiece]
   | some a=>
    have:=Lib.pieceU_ne s.data.toList a s.size (hst a rfl) (by rw [←Lib.size_eq];exact Nat.le_refl _)
    simp [QO,Lib.closeSpans,Lib.openPiece,this]
theorem aL (s:ByteArray) (ha: ∀c∈s.data.toList,c.toNat<128):(DN s).map (·.data.toList)=QO [] s.data.toList:=by
 have h:=KM s ha s.size 0 none [] (by omega) (Nat.zero_le _) (fun a h=>by cases h)
 simp only [List.map_nil,List.nil_append,Lib.openPiece,List.drop_zero] at h
 unfold DN Lib.goFieldsP Lib.spansOfP
 rw [h,List.map_map]
 congr 1
 funext p
 simp [Lib.pieceU]
def CK (l:List UInt8):ByteArray:=⟨l.toArray⟩
theorem KN (l:List UInt8):(CK l).data.toList=l:=by simp [CK]
theorem Og (s:ByteArray):CK s.data.toList=s:=by cases s;simp [CK]
theorem dQ {ws:List ByteArray} {l:List (List UInt8)} (h:ws.map (·.data.toList)=l):ws=l.map CK:=by
 rw [←h,List.map_map]
 conv=>lhs;rw [←List.map_id ws]
 refine List.map_congr_left fun s _=> ?_
 exact(Og s).symm
def Yn (w:List UInt8):Prop:=w≠ []∧ ∀c∈w,Vn c=false
theorem R9: ∀(w cur t:List UInt8),(∀c∈w,Vn c=false)→QO cur (w++t)=QO (cur++w) t
 | [],cur,t,_=>by rw [List.append_nil];rfl
 | c::w,cur,t,h=>by
  show(if Vn c=true then _ else _)=_
  rw [if_neg (by rw [h c (List.mem_cons_self ..)];exact Bool.false_ne_true)]
  have ih:=R9 w (cur++ [c]) t (fun d hd=>h d (List.mem_cons_of_mem _ hd))
  rw [List.append_assoc] at ih
  exact ih
theorem Ll: ∀(b t:List UInt8),(∀c∈b,Vn c=true)→QO [] (b++t)=QO [] t
 | [],t,_=>rfl
 | c::b,t,h=>by
  show(if Vn c=true then _ else _)=_
  rw [if_pos (h c (List.mem_cons_self ..))]
  exact Ll b t (fun d hd=>h d (List.mem_cons_of_mem _ hd))
inductive JD:List UInt8→List (List UInt8)→Prop
 | none {b:List UInt8}:(∀c∈b,Vn c=true)→JD b []
 | one {b w e:List UInt8}:(∀c∈b,Vn c=true)→Yn w→(∀c∈e,Vn c=true)→JD (b++(w++e)) [w]
 | more {b w r:List UInt8} {c:UInt8} {l:List (List UInt8)}:(∀c∈b,Vn c=true)→Yn w→Vn c=true→JD r l→JD (b++(w++c::r)) (w::l)
theorem WJ {w:List UInt8} (hw:Yn w) (c:UInt8) (r:List UInt8) (hc:Vn c=true):QO [] (w++c::r)=w::QO [] r:=by
 rw [R9 w [] _ hw.2,List.nil_append]
 show(if Vn c=true then _ else _)=_
 rw [if_pos hc,if_neg hw.1]
 rfl
theorem Yo {t:List UInt8} {l:List (List UInt8)} (h:JD t l):QO [] t=l:=by
 induction h with
 | none hb=>
  rename_i b
  have:=Ll b [] hb
  rw [List.append_nil] at this
  rw [this];rfl
 | one hb hw he=>
  rename_i b w e
  rw [Ll _ _ hb]
  cases e with
  | nil=>
   rw [R9 w [] [] hw.2,List.nil_append]
   show(if w= [] then _ else _)=_
   rw [if_neg hw.1]
  | cons c e=>
   rw [WJ hw c e (he c (List.mem_cons_self ..))]
   have:=Ll e [] (fun d hd=>he d (List.mem_cons_of_mem _ hd))
   rw [List.append_nil] at this
   rw [this];rfl
 | more hb hw hc _ ih=>rw [Ll _ _ hb,WJ hw _ _ hc,ih]
theorem TG: ∀ {l:List (List UInt8)},(∀w∈l,Yn w)→JD (Lib.join l [32]) l
 | [],_=>JD.none (fun c hc=>by cases hc)
 | [w],h=>by
  rw [Lib.join_one]
  have:=JD.one (b:= []) (e:= []) (w:=w) (fun c hc=>by cases hc) (h w (List.mem_cons_self ..)) (fun c hc=>by cases hc)
  rwa [List.nil_append,List.append_nil] at this
 | w::v::l,h=>by
  have ih:=TG (l:=v::l) (fun x hx=>h x (List.mem_cons_of_mem _ hx))
  have:=JD.more (b:= []) (w:=w) (c:=32) (fun c hc=>by cases hc) (h w (List.mem_cons_self ..)) (by decide) ih
  rw [List.nil_append] at this
  have e:Lib.join (w::v::l) [32]=w++32::Lib.join (v::l) [32]:=by simp [Lib.join,List.intercalate]
  rw [e]
  exact this
theorem Yp {b t:List UInt8} {l:List (List UInt8)} (hb: ∀c∈b,Vn c=true) (h:JD t l):JD (b++t) l:=by
 have hap: ∀ {a:List UInt8},(∀c∈a,Vn c=true)→ ∀c∈b++a,Vn c=true:=fun ha c hc=>(List.mem_append.1 hc).elim (hb c) (ha c)
 cases h with
 | none h1=>exact JD.none (hap h1)
 | one h1 h2 h3=>rw [←List.append_assoc];exact JD.one (hap h1) h2 h3
 | more h1 h2 h3 h4=>rw [←List.append_assoc];exact JD.more (hap h1) h2 h3 h4
theorem lK {l r:List UInt8} (h: ∀c∈l,c≠10):Lib.index (l++10::r) [10]=l.length:=by
 refine Lib.index_first (by rw [List.length_append];omega) ?_ ?_
 ·unfold Lib.occAt
  rw [List.drop_left' rfl]
  rfl
 ·intro j hj
  unfold Lib.occAt
  rw [List.drop_append_of_le_length (by omega),List.drop_eq_getElem_cons hj]
  show(10==l[j]&&_)=false
  have:(10==l[j])=false:=by simpa using fun e:(10:UInt8)=l[j]=>h _ (List.getElem_mem hj) e.symm
  rw [this,Bool.false_and]
theorem TH: ∀(ls:List (List UInt8)),(∀l∈ls,∀c∈l,c≠10)→
 Lib.count (ls.flatMap (· ++ [10])) [10]=ls.length∧Lib.splitK [10] 0 ls.length (ls.flatMap (· ++ [10]))=ls++ [[]]
 | [],_=>⟨Lib.count_miss (by decide),rfl⟩
 | l::ls,h=>by
  obtain⟨h1,h2⟩:=TH ls (fun x hx=>h x (List.mem_cons_of_mem _ hx))
  have hi:=lK (r:=ls.flatMap (· ++ [10])) (h l (List.mem_cons_self ..))
  have he:(l::ls).flatMap (· ++ [10])=l++10::ls.flatMap (· ++ [10]):=by simp
  have hd:(l++10::ls.flatMap (· ++ [10])).drop (l.length+ [(10:UInt8)].length)=ls.flatMap (· ++ [10]):=by
   rw [←List.drop_drop,List.drop_left' rfl];rfl
  rw [he]
  constructor
  ·rw [Lib.count_hit (by decide) hi,hd,h1,List.length_cons];omega
  ·show(if(Lib.index _ _== -1)=true then _ else _)=_
   rw [hi,if_neg (by simp<;>omega),Int.toNat_natCast,hd,h2,Nat.add_zero,List.take_left' rfl]
   rfl
theorem Yq (ls:List (List UInt8)) (h: ∀l∈ls,∀c∈l,c≠10):EC (CK (ls.flatMap (· ++ [10])))=(ls++ [[]]).map CK:=by
 obtain⟨h1,h2⟩:=TH ls h
 unfold EC
 refine dQ ?_
 rw [Lib.splitB_data,KN,←h2]
 have:Lib.countB (CK (ls.flatMap (· ++ [10]))) gW=ls.length:=by
  rw [←h1]
  show Lib.count _ _=_
  rw [KN]
  rfl
 rw [this]
 rfl
theorem lM {l:List UInt8} {ws:List (List UInt8)} (ha: ∀c∈l,c.toNat<128) (h:JD l ws):DN (CK l)=ws.map CK:=by
 refine dQ ?_
 rw [aL _ (by rw [KN];exact ha),KN]
 exact Yo h
end Go.Proofs.YtejbcledkhioeaaGreatDoor
