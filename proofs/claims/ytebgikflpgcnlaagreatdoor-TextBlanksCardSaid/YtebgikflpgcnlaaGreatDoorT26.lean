/- Part 26 of the proof: RdrH RdrD RdrE RdrI -/
import Derived.Test.YtebgikflpgcnlaaGreatDoorT25
namespace Go.Proofs.YtebgikflpgcnlaaGreatDoor
set_option linter.unusedVariables false
set_option linter.unusedSimpArgs false
set_option maxRecDepth 100000
set_option maxHeartbeats 4000000
open Go.RowKit Tryz
theorem info_fn3:(prog.info? 56).map (fun i=>(i.zero,i.size,i.bytes))=some (some (.agg #[.int .i64 0,.string ⟨#[]⟩,.slice none 0 0]),3,48):=by kernel_rfl
section
variable {B b A hi:Nat} {w:World} {col:Nat→Nat} {v1 v2 v3 v6 v7 v8:Value} {m:ModV} {st ln:Nat} {ws:List ByteArray}
theorem RdC.push6 {A:Option Addr} {c:Nat} {cells:List Value} {w3 w4:World} (h:RdC B b w col v1 v2 v3 (.slice A m.fns.length c) v7 v8 m 6 ln) (hP:PrtC rFn 56 B (fun k=>col k=6) w A m.fns.length c cells m.fns)
 (hb:Below w.heap.size w w3) {A':Option Addr} {c':Nat} {f:FnV} (hc:f.code= []) (ht:Rd.B63 f.t) (hl:Rd.SOk f.loc)
 (ho:w4.ownsRow B 56 3 (.slice A' (m.fns.length+1) c') (m.fns.length+1) (cells++ [.int .i64 f.t,.string f.loc,.slice none 0 0])) (hg:w3.grownBy w4 (Value.slice A m.fns.length c).ownBlock)
 (hat:(Value.slice A' (m.fns.length+1) c').ownBlock=(Value.slice A m.fns.length c).ownBlock∨(Value.slice A' (m.fns.length+1) c').ownBlock=some w3.heap.size):
 Keep (fun k=>k<B∧k≠b) w (w4.setCell ⟨b,5,none⟩ (.slice A' (m.fns.length+1) c'))∧RdOpen B b (w4.setCell ⟨b,5,none⟩ (.slice A' (m.fns.length+1) c')) {m with fns:=m.fns++ [f]} ln:=by
 have hK:=push_keep (b:=b) hb hg 5 (.slice A' (m.fns.length+1) c')
 have hB:=h.top
 have hown:=hP.lt
 have hlow:=h.low
 have hlt5: ∀k,k<w.heap.size→k<(w4.setCell ⟨b,5,none⟩ (.slice A' (m.fns.length+1) c')).heap.size:=fun k hk=>Nat.lt_of_lt_of_le hk hK.size
 refine⟨hK.mono fun k hk=>⟨hk.2,fun e=>by have:=(hown k e).1;omega⟩,?_⟩
 have hbl:Blk w4 b 104 [v1,v2,v3,.int .i64 m.first,.int .i64 m.most,.slice A m.fns.length c,v7,v8,.int .i64 (6:Nat),.int .i64 ln]:=(hg.block b (Nat.lt_of_lt_of_le h.blk.lt hb.size) (fun e=>by have:=(hown b e.symm).1;omega)).trans (h.blk.below hb h.blk.lt)
 have hsz34:w3.heap.size≤w4.heap.size:=hg.size
 have hsz5:(w4.setCell ⟨b,5,none⟩ (.slice A' (m.fns.length+1) c')).heap.size=w4.heap.size:=by unfold World.setCell;first | rfl | simp | (split<;>first | rfl | simp)
 have hlo: ∀g,(Value.slice A' (m.fns.length+1) c').ownBlock=some g→g<w4.heap.size:=fun g e=>(ho.lt g e).2
 have hcol: ∀k,k<w.heap.size→(fun k=>if k<w.heap.size then col k else if k<w4.heap.size then 6 else 9) k=col k:=fun k hk=>if_pos hk
 refine⟨m.fns,f,w4.heap.size,fun k=>if k<w.heap.size then col k else if k<w4.heap.size then 6 else 9,v1,v2,v3,v7,v8,A',c',cells,.slice none 0 0,⟨hbl.set 5 _,?_,⟨?_,?_,?_,ht,hl,?_,Nat.le_trans hB (Nat.le_trans hb.size hsz34),by rw [hsz5];exact Nat.le_refl _,?_⟩,rfl,hlow,Nat.le_trans hB hK.size,h.first,h.most⟩⟩
 ·have h5:Five B col w v1 v2 v3 v7 v8 m:=⟨h.six.p1,h.six.p2,h.six.p3,h.six.p7,h.six.p8⟩
  exact h5.keep hK (fun k hBk hk hc=>⟨by omega,fun e=>by have:col k=6:=hP.at_ k e;omega⟩) _ (fun k hk hc=>if_pos hk) rfl rfl rfl rfl rfl
 ·have h1:(Keep.refl (fun k=>k≠b) w4).setCell (p:=⟨b,5,none⟩) (fun e=>e rfl) (.slice A' (m.fns.length+1) c')=(Keep.refl (fun k=>k≠b) w4).setCell (p:=⟨b,5,none⟩) (fun e=>e rfl) (.slice A' (m.fns.length+1) c'):=rfl
  exact own_keepK (K:=fun k=>k≠b) ho ((Keep.refl _ w4).setCell (p:=⟨b,5,none⟩) (fun e=>e rfl) _) (fun k hk=>by have:=(ho.lt k hk).1;omega)
 ·intro g hg'
  refine⟨?_,hlo g hg'⟩
  by_cases hk:g<w.heap.size
  ·rw [if_pos hk]
   rcases hat with e | e
   ·exact hP.at_ g (e▸hg')
   ·rw [e] at hg';injection hg' with hg';have:=hb.size;omega
  ·rw [if_neg hk,if_pos (hlo g hg')]
 ·intro k x hk
  obtain⟨l,hh,g1,g2,g3,g4,g5⟩:=hP.els k x hk
  refine⟨l,hh,g1,Nat.le_trans g2 (Nat.le_trans hb.size hsz34),fun g hg'=> ?_,fun g ha hb'=> ?_,?_⟩
  ·rcases hat with e | e
   ·exact g3 g (e▸hg')
   ·rw [e] at hg';injection hg' with hg';have:=hb.size;right;omega
  ·rw [if_pos (by omega)];exact g4 g ha hb'
  ·refine Rd.keepK (K:=fun k=>k≠b∧(Value.slice A m.fns.length c).ownBlock≠some k) g5 hK g2 (fun k ha hb'=>⟨by omega,fun e=> ?_⟩)
   have:=g3 k e
   omega
 ·rw [hc];exact Prt.nil _ _ _ _ _
 ·intro k hk hk2
  have:=hb.size
  rw [if_neg (by omega),if_neg (by omega)]
theorem rd_function_x {x0 x1 x2:ByteArray} (h:MIn B b A hi w col v1 v2 v3 v6 v7 v8 m 6 ln [x0,x1,x2]):
 Calls prog 93 #[.pointer (some ⟨b,0,none⟩),.slice (some ⟨A,0,none⟩) 3 3] w (MEnd (fun W m'=>RdOpen B b W m' ln) B b w (readK 6 m [x1,x2])):=by
 obtain⟨A2,c2,cells2,e2,hP⟩:=h.rd.six.p6
 subst e2
 obtain⟨i0,hi0,hz,hs',hby⟩:=info_parts info_fn3
 have hc1:=h.rd.blk.q 5 rfl
 have hw1:w.cell? ⟨A,1,none⟩=some (.string x1):=h.wd.at_ 1 _ rfl
 have hw2:w.cell? ⟨A,2,none⟩=some (.string x2):=h.wd.at_ 2 _ rfl
 have hAl:=h.wd.lt
 have hbl:=h.rd.blk.lt
 have hhi:=h.hhi
 have hq:=h.lens.fns
 have HX1:=hideIt (h.wd.sz x1 (by simp));have HX2:=hideIt (h.wd.sz x2 (by simp));have HE:=hideIt h.env;have HR:=hideIt h.rd;have HP:=hideIt hP
 have hlow:=h.rd.low
 have htop:=h.rd.top
 have HNO:Hid (numW x1=none→readK 6 m [x1,x2]=none):=hideIt fun h=>by show(numW x1).map _=none;rw [h];rfl
 have HYES:Hid (∀a,numW x1=some a→readK 6 m [x1,x2]=some {m with fns:=m.fns++ [⟨a,locR x2,[]⟩]}):=hideIt fun a h1=>by show(numW x1).map _=_;rw [h1];rfl
 have HZ:=hideIt (Blk.new w.drew 56 [.int .i64 0,.string ⟨#[]⟩,.slice none 0 0])
 clear h hP
 go_enter func93,ntmps93
 go_wp2_with fail
 refine(txt_count (some ⟨A,0,none⟩) 3 3 3 w).mono ?_
 rintro e w1 ⟨rfl,hends⟩
 rcases hends with⟨_,rfl⟩ | ⟨hf,_⟩
 case inr=>exact absurd hf (by decide)
 go_wp2_with fail
 refine wp_region_held_drew (S:=fun W=>W.cell? ⟨A,1,none⟩=some (.string x1)∧W.cell? ⟨A,2,none⟩=some (.string x2)) (by kernel_rfl) ⟨hw1,hw2⟩ (fun hHeld=> ?_)
 refine takeIt (i:=0) (v:= ?_) rfl (by kernel_rfl) (fun _ _ _ h=>h) rfl (by intro w hSw;(try dsimp only at hSw);go_simp;try with_reducible rfl) hHeld ?_
 refine takeIt (i:=1) (v:= ?_) rfl (by kernel_rfl) (fun _ _ _ h=>h) rfl (by intro w hSw;(try dsimp only at hSw);go_simp;try with_reducible rfl) hHeld ?_
 refine takeIt (i:=2) (v:= ?_) rfl (by kernel_rfl) (fun _ _ _ h=>h) rfl (by intro w hSw;(try dsimp only at hSw);go_simp;try with_reducible rfl) hHeld ?_
 refine takeIt (i:=4) (v:= ?_) rfl (by kernel_rfl) (fun _ _ _ h=>h) rfl (by intro w hSw;(try dsimp only at hSw);go_simp;try with_reducible rfl) hHeld ?_
 refine takeIt (i:=5) (v:= ?_) rfl (by kernel_rfl) (fun _ _ _ h=>h) rfl (by intro w hSw;(try dsimp only at hSw);go_simp;try with_reducible rfl) hHeld ?_
 refine takeIt (i:=6) (v:= ?_) rfl (by kernel_rfl) (fun _ _ _ h=>h) rfl (by intro w hSw;(try dsimp only at hSw);go_simp;try with_reducible rfl) hHeld ?_
 refine wpAnyH_ready (rs:= [3,8]) (by kernel_rfl) (by simp) ?_
 refine AllReadyH.cons rfl (fun K hK=> ?ga) (AllReadyH.cons rfl (fun K hK=> ?gb) AllReadyH.nil)
 case' ga=>
  go_simp
  go_at_call 142
  refine(txt_number x1 (by have:=HX1.out;omega) _ (HE.out.up (below_drewN (Below.refl _ _) 1) (by omega)) (by simp;omega)).mono ?_
  rintro e w2 ⟨hb2,⟨h0,rfl⟩ | ⟨n,hn,hm,rfl⟩⟩
  ·go_wp2_with fail
   exact⟨rfl,.inl ⟨HNO.out h0,rfl,below_of_drew hb2⟩⟩
  have hS2:=below_of_drew hb2
  refine hK.out _ _ ⟨(hS2.cell (p:=⟨A,1,none⟩) hAl).trans hw1,(hS2.cell (p:=⟨A,2,none⟩) hAl).trans hw2⟩ (fun hHeld2=> ?_)
  clear hK K
  refine takeIt (i:=7) (v:= ?_) rfl (by kernel_rfl) (fun _ _ _ h=>h) rfl (by intro w hSw;(try dsimp only at hSw);go_simp;try with_reducible rfl) hHeld2 ?_
  refine wpAnyH_ready (rs:= [8]) (by kernel_rfl) (by simp) ?_
  refine AllReadyH.cons rfl (fun K hK=> ?_) AllReadyH.nil
  go_simp
  have hAz:(w2.alloc (.cells #[.int .i64 0,.string ⟨#[]⟩,.slice none 0 0] 56)).cell? ⟨A,1,none⟩=some (.string x1)∧(w2.alloc (.cells #[.int .i64 0,.string ⟨#[]⟩,.slice none 0 0] 56)).cell? ⟨A,2,none⟩=some (.string x2):=by
   have hb:=(Below.refl w2.heap.size w2).alloc (Nat.le_refl _) (.cells #[.int .i64 0,.string ⟨#[]⟩,.slice none 0 0] 56)
   have hA2:=Nat.lt_of_lt_of_le hAl hS2.size
   exact⟨(hb.cell (p:=⟨A,1,none⟩) hA2).trans ((hS2.cell (p:=⟨A,1,none⟩) hAl).trans hw1),(hb.cell (p:=⟨A,2,none⟩) hA2).trans ((hS2.cell (p:=⟨A,2,none⟩) hAl).trans hw2)⟩
  refine hK.out _ _ hAz (fun hHeld3=> ?_)
  clear hK K
  have hbx:=Blk.new w2 56 [.int .i64 0,.string ⟨#[]⟩,.slice none 0 0]
  have hB3:Below w.heap.size w (w2.alloc (.cells #[.int .i64 0,.string ⟨#[]⟩,.slice none 0 0] 56)):=hS2.alloc hS2.size _
  have hgl:w.heap.size≤w2.heap.size:=hS2.size
  obtain⟨g,hgg⟩: ∃g,g=w2.heap.size:=⟨_,rfl⟩
  rw [←hgg] at hbx hgl⊢
  generalize hw3:w2.alloc (.cells #[.int .i64 0,.string ⟨#[]⟩,.slice none 0 0] 56)=w3 at*
  clear hS2 hgg hw3 hb2 hHeld hHeld2 hAz
 case' gb=>
  go_simp
  have hAz:(w.drew.alloc (.cells #[.int .i64 0,.string ⟨#[]⟩,.slice none 0 0] 56)).cell? ⟨A,1,none⟩=some (.string x1)∧(w.drew.alloc (.cells #[.int .i64 0,.string ⟨#[]⟩,.slice none 0 0] 56)).cell? ⟨A,2,none⟩=some (.string x2):=by
   have hb:=(Below.refl w.drew.heap.size w.drew).alloc (Nat.le_refl _) (.cells #[.int .i64 0,.string ⟨#[]⟩,.slice none 0 0] 56)
   exact⟨(hb.cell (p:=⟨A,1,none⟩) hAl).trans hw1,(hb.cell (p:=⟨A,2,none⟩) hAl).trans hw2⟩
  have hBz:Below w.heap.size w (w.drew.alloc (.cells #[.int .i64 0,.string ⟨#[]⟩,.slice none 0 0] 56)):=((Below.refl _ _).drew).alloc (Nat.le_refl _) _
  refine hK.out _ _ hAz (fun hHeld2=> ?_)
  clear hK K
  refine wpAnyH_ready (rs:= [3]) (by kernel_rfl) (by simp) ?_
  refine AllReadyH.cons rfl (fun K hK=> ?_) AllReadyH.nil
  go_simp
  go_at_call 142
  refine(txt_number x1 (by have:=HX1.out;omega) _ (HE.out.up hBz (by omega)) (by simp;omega)).mono ?_
  rintro e w3 ⟨hb2,⟨h0,rfl⟩ | ⟨n,hn,hm,rfl⟩⟩
  ·go_wp2_with fail
   exact⟨rfl,.inl ⟨HNO.out h0,rfl,hBz.trans (hb2.mono (by simp))⟩⟩
  have hB3:Below w.heap.size w w3:=hBz.trans (hb2.mono (by simp))
  have hbx:Blk w3 w.heap.size 56 [.int .i64 0,.string ⟨#[]⟩,.slice none 0 0]:=HZ.out.below hb2 HZ.out.lt
  have hA3:w3.cell? ⟨A,1,none⟩=some (.string x1)∧w3.cell? ⟨A,2,none⟩=some (.string x2):=⟨(hB3.cell (p:=⟨A,1,none⟩) hAl).trans hw1,(hB3.cell (p:=⟨A,2,none⟩) hAl).trans hw2⟩
  refine hK.out _ _ hA3 (fun hHeld3=> ?_)
  clear hK K
  refine wpAnyH_take (i:=7) (v:= ?_) rfl (by kernel_rfl) (by kernel_rfl) (by kernel_rfl) (fun _ _ _ h=>h) (Or.inl ⟨by rfl,by intro w hSw;(try dsimp only at hSw);go_simp;try with_reducible rfl⟩) hHeld3 ?_
  have hgl:w.heap.size≤w.heap.size:=Nat.le_refl _
  obtain⟨g,hgg⟩: ∃g,g=w.heap.size:=⟨_,rfl⟩
  rw [←hgg] at hbx
  have hgl:w.heap.size≤g:=by omega
  conv=>
   congr
   all_goals try rw [←hgg]
  clear hBz hgg hb2 hHeld hHeld2 hA3 hAz
 all_goals
  have cb0:=hbx.q 0 rfl
  have cb1:=hbx.q 1 rfl
  have cb2:=hbx.q 2 rfl
  have fb0:=hbx.frozen 0
  have fb1:=hbx.frozen 1
  have fb2:=hbx.frozen 2
  refine wpAnyH_ready (rs:= [9]) (by kernel_rfl) (by simp) ?_
  refine AllReadyH.cons rfl (fun K hK=> ?_) AllReadyH.nil
  go_simp
  have hb5:=(((hB3.setCell (p:=⟨g,0,none⟩) hgl (.int .i64 n)).setCell (p:=⟨g,1,none⟩) hgl (.string x2)).setCell (p:=⟨g,2,none⟩) hgl (.slice none 0 0))
  have hx5:=(((hbx.set 0 (.int .i64 n)).set 1 (.string x2)).set 2 (.slice none 0 0))
  refine hK.out _ _ ⟨(hb5.cell (p:=⟨A,1,none⟩) hAl).trans hw1,(hb5.cell (p:=⟨A,2,none⟩) hAl).trans hw2⟩ (fun hHeld5=> ?_)
  clear hK K
  refine wpAnyH_done (by kernel_rfl) ?_ _
  generalize hw5:World.setCell _ _ _=w5 at*
  have hx5:Blk w5 g 56 [.int .i64 n,.string x2,.slice none 0 0]:=hx5
  have HY:=hideIt (HYES.out n hn);have HM:=hideIt hm
  clear hw5 hHeld3 hHeld5 cb0 cb1 cb2 fb0 fb1 fb2 hbx hB3 hn hm HYES HNO HZ
  have cb0:=hx5.q 0 rfl
  have cb1:=hx5.q 1 rfl
  have cb2:=hx5.q 2 rfl
  have fb1:=hx5.frozen 1
  have HX5:=hideIt hx5;have HB5:=hideIt hb5
  clear hx5 hb5
  have hpart: ∃(w6:World) (lx:ByteArray),lx=locR x2∧Below w.heap.size w w6∧Blk w6 g 56 [.int .i64 n,.string lx,.slice none 0 0]∧((x2=dash∧w6=w5.setCell ⟨g,1,none⟩ (.string ⟨#[]⟩))∨(x2≠dash∧w6=w5)):=by
   by_cases hd:x2=dash
   ·refine⟨_,_,rfl,HB5.out.setCell (p:=⟨g,1,none⟩) hgl (.string ⟨#[]⟩),?_,.inl ⟨hd,rfl⟩⟩
    have:locR x2=none_:=if_pos hd
    rw [this]
    exact HX5.out.set 1 _
   ·refine⟨w5,_,rfl,HB5.out,?_,.inr ⟨hd,rfl⟩⟩
    have:locR x2=x2:=if_neg hd
    rw [this]
    exact HX5.out
  obtain⟨w6,lx,hlx,hb6,hx6,hway⟩:=hpart
  have hlk:lx.size≤140737488351232:=by
   rw [hlx]
   have h0:=HX2.out
   unfold locR
   split
   ·exact Nat.zero_le _
   ·omega
  have g1:=(hb6.cell (p:=⟨b,5,none⟩) hbl).trans hc1
  have e0:=hx6.q 0 rfl
  have e1:=hx6.q 1 rfl
  have e2:=hx6.q 2 rfl
  have hlt6:=hx6.lt
  have hsz6:=hb6.size
  have hb8:Below w6.heap.size w6 (w6.alloc (.cells #[.int .i64 n,.string lx,.slice none 0 0] 56)).drew:=((Below.refl _ _).alloc (Nat.le_refl _) _).drew
  have HB8:=hideIt (hb6.trans (hb8.mono hsz6))
  have k1:=(hb8.cell (p:=⟨b,5,none⟩) (show b<w6.heap.size by omega)).trans g1
  have k2:=(hb8.cell (p:=⟨g,0,none⟩) hlt6).trans e0
  have k3:=(hb8.cell (p:=⟨g,1,none⟩) hlt6).trans e1
  have k4:=(hb8.cell (p:=⟨g,2,none⟩) hlt6).trans e2
  have HO8:=hideIt (own_keptz HP.out.own HB8.out)
  have Hrow:Hid (Row (w6.alloc (.cells #[.int .i64 n,.string lx,.slice none 0 0] 56)).drew (w6.heap.size+1) (some ⟨w6.heap.size,0,none⟩) [.int .i64 n,.string lx,.slice none 0 0]):=hideIt (row_cells w6 [.int .i64 n,.string lx,.slice none 0 0] 56)
  have HLK:=hideIt hlk
  clear hb8 hx6 hb6 hlk
  rw [←hlx] at HY
  rcases hway with⟨hd,hw6⟩ | ⟨hd,hw6⟩
  case' inl=>
   subst hd
   obtain rfl:lx=⟨#[]⟩:=hlx
   have hq2:(dash.toList== [45])=true:=by decide+kernel
   go_wp2_with fail
   rw [←hw6]
   clear hw6 cb0 cb1 cb2 fb1 HX5 HB5
   try clear hlx
   go_wp2_with fail
  case' inr=>
   have hq2:(x2.toList== [45])=false:=dash_no hd
   obtain rfl:lx=x2:=hlx.trans (if_neg hd)
   subst hw6
   clear cb0 cb2 HX5 HB5
   try clear hlx
   go_wp2_with fail
   clear cb1 fb1 hq2
 all_goals
  go_region_law (refine step_appz rfl (.tmp 24) (.tmp 26) 25 rfl B 56 i0 _ 3 48 underlying25 hi0 hz hs' hby rfl (by omega) _ m.fns.length cells2 rfl HO8.out _ _ 1 1 [.int .i64 n,.string _,.slice none 0 0] rfl rfl Hrow.out (by intro u hu;simp at hu;rcases hu with rfl | rfl | rfl<;>rfl) (by unfold maxLen;omega) (by omega) (by simp;omega) ?_;intro A4 c4 w9 h2 h3 h4;have hbl4:=HR.out.old HB8.out h3 (fun g e=>(HP.out.lt g e).1);have hf4:=hbl4.frozen 5;have hc4:=hbl4.cell 5;have H2:=hideIt h2;have H3:=hideIt h3;have H4:=hideIt h4;clear h2 h3 h4 hbl4)
  all_goals
   go_end0
   exact .inr ⟨_,HY.out,rfl,HR.out.push6 HP.out HB8.out (f:=⟨n,_,[]⟩) rfl HM.out HLK.out H2.out H3.out H4.out⟩
theorem rd_function_len (h0:ws≠ []) (hk:ws.length≠3) (Inv:World→ModV→Prop):
 Calls prog 93 #[.pointer (some ⟨b,0,none⟩),.slice (some ⟨A,0,none⟩) ws.length ws.length] w (MEnd Inv B b w (readK 6 m ws.tail)):=by
 have HN:=hideIt (readK_len (m:=m) (p:=6) (k:=3) (by decide) h0 hk)
 have HK:Hid (decide (ws.length=3)=false):=hideIt (decide_eq_false hk)
 clear h0 hk
 go_enter func93,ntmps93
 go_wp2_with fail
 refine(txt_count (some ⟨A,0,none⟩) ws.length ws.length 3 w).mono ?_
 rintro e w1 ⟨rfl,⟨h1,rfl⟩ | ⟨h1,rfl⟩⟩
 ·rw [HK.out] at h1;cases h1
 go_wp2_with fail
 exact⟨rfl,.inl ⟨HN.out,rfl,Below.refl _ _⟩⟩
theorem rd_function (h:MIn B b A hi w col v1 v2 v3 v6 v7 v8 m 6 ln ws) (h0:ws≠ []):
 Calls prog 93 #[.pointer (some ⟨b,0,none⟩),.slice (some ⟨A,0,none⟩) ws.length ws.length] w (MEnd (fun W m'=>RdOpen B b W m' ln) B b w (readK 6 m ws.tail)):=by
 by_cases hk:ws.length=3
 case neg=>exact rd_function_len h0 hk _
 obtain⟨x0,x1,x2,rfl⟩:=len3 hk
 exact rd_function_x h
end
section
variable {B b A hi:Nat} {w:World} {col:Nat→Nat} {v1 v2 v3 v6 v7 v8:Value} {m:ModV} {st ln:Nat} {ws:List ByteArray}
theorem rd_host_len (h0:ws≠ []) (hk:ws.length≠2) (Inv:World→ModV→Prop):
 Calls prog 90 #[.pointer (some ⟨b,0,none⟩),.slice (some ⟨A,0,none⟩) ws.length ws.length] w (MEnd Inv B b w (readK 3 m ws.tail)):=by
 have HN:=hideIt (readK_len (m:=m) (p:=3) (k:=2) (by decide) h0 hk)
 have HK:Hid (decide (ws.length=2)=false):=hideIt (decide_eq_false hk)
 clear h0 hk
 go_enter func90,ntmps90
 go_wp2_with fail
 refine(txt_count (some ⟨A,0,none⟩) ws.length ws.length 2 w).mono ?_
 rintro e w1 ⟨rfl,⟨h1,rfl⟩ | ⟨h1,rfl⟩⟩
 ·rw [HK.out] at h1;cases h1
 go_wp2_with fail
 exact⟨rfl,.inl ⟨HN.out,rfl,Below.refl _ _⟩⟩
theorem rd_host_no {x0 x1:ByteArray} (h:MIn B b A hi w col v1 v2 v3 v6 v7 v8 m st ln [x0,x1]) (hn:numW x1=none) (Inv:World→ModV→Prop):
 Calls prog 90 #[.pointer (some ⟨b,0,none⟩),.slice (some ⟨A,0,none⟩) 2 2] w (MEnd Inv B b w (readK 3 m [x1])):=by
 obtain⟨A2,c2,cells2,e2,hP⟩:=h.rd.six.p2
 subst e2
 have hc1:=h.rd.blk.q 1 rfl
 have hw1:w.cell? ⟨A,1,none⟩=some (.string x1):=h.wd.at_ 1 _ rfl
 have hbl:=h.rd.blk.lt
 have hAl:=h.wd.lt
 have hhi:=h.hhi
 have HX:=hideIt (h.wd.sz x1 (by simp));have HN:=hideIt hn;have HE:=hideIt h.env
 have HRN:Hid (readK 3 m [x1]=none):=hideIt (by show(numW x1).map _=none;rw [hn];rfl)
 clear h hn hP
 go_enter func90,ntmps90
 go_wp2_with fail
 refine(txt_count (some ⟨A,0,none⟩) 2 2 2 w).mono ?_
 rintro e w1 ⟨rfl,hends⟩
 rcases hends with⟨_,rfl⟩ | ⟨hf,_⟩
 case inr=>exact absurd hf (by decide)
 go_wp2_with fail
 refine wp_region_held_drew (S:=fun W=>W.cell? ⟨b,1,none⟩=some (.slice A2 m.hosts.length c2)∧W.cell? ⟨A,1,none⟩=some (.string x1)) (by kernel_rfl) ⟨hc1,hw1⟩ (fun hHeld=> ?_)
 refine takeIt (i:=0) (v:= ?_) rfl (by kernel_rfl) (fun _ _ _ h=>h) rfl (by intro w hSw;(try dsimp only at hSw);go_simp;try with_reducible rfl) hHeld ?_
 refine takeIt (i:=1) (v:= ?_) rfl (by kernel_rfl) (fun _ _ _ h=>h) rfl (by intro w hSw;(try dsimp only at hSw);go_simp;try with_reducible rfl) hHeld ?_
 refine takeIt (i:=2) (v:= ?_) rfl (by kernel_rfl) (fun _ _ _ h=>h) rfl (by intro w hSw;(try dsimp only at hSw);go_simp;try with_reducible rfl) hHeld ?_
 refine takeIt (i:=3) (v:= ?_) rfl (by kernel_rfl) (fun _ _ _ h=>h) rfl (by intro w hSw;(try dsimp only at hSw);go_simp;try with_reducible rfl) hHeld ?_
 refine takeIt (i:=4) (v:= ?_) rfl (by kernel_rfl) (fun _ _ _ h=>h) rfl (by intro w hSw;(try dsimp only at hSw);go_simp;try with_reducible rfl) hHeld ?_
 refine takeIt (i:=5) (v:= ?_) rfl (by kernel_rfl) (fun _ _ _ h=>h) rfl (by intro w hSw;(try dsimp only at hSw);go_simp;try with_reducible rfl) hHeld ?_
 refine takeIt (i:=6) (v:= ?_) rfl (by kernel_rfl) (fun _ _ _ h=>h) rfl (by intro w hSw;(try dsimp only at hSw);go_simp;try with_reducible rfl) hHeld ?_
 refine takeIt (i:=7) (v:= ?_) rfl (by kernel_rfl) (fun _ _ _ h=>h) rfl (by intro w hSw;(try dsimp only at hSw);go_simp;try with_reducible rfl) hHeld ?_
 refine takeIt (i:=8) (v:= ?_) rfl (by kernel_rfl) (fun _ _ _ h=>h) rfl (by intro w hSw;(try dsimp only at hSw);go_simp;try with_reducible rfl) hHeld ?_
 refine wpAnyH_ready (rs:= [9]) (by kernel_rfl) (by simp) ?_
 refine AllReadyH.cons rfl (fun K hK=> ?_) AllReadyH.nil
 go_simp
 go_at_call 142
 refine(txt_number x1 (by have:=HX.out;omega) _ (HE.out.up (below_drewN (Below.refl _ _) 1) (by omega)) (by first | (simp;omega) | omega)).mono ?_
 rintro e w2 ⟨hb2,⟨h0,rfl⟩ | ⟨k,hk,_,rfl⟩⟩
 ·go_wp2_with fail
  exact⟨rfl,.inl ⟨HRN.out,rfl,below_of_drew hb2⟩⟩
 ·exact absurd (hk.symm.trans HN.out) (by simp)
theorem rd_host_ok {x0 x1:ByteArray} {n:Int} (h:MIn B b A hi w col v1 v2 v3 v6 v7 v8 m st ln [x0,x1]) (hn:numW x1=some n):
 Calls prog 90 #[.pointer (some ⟨b,0,none⟩),.slice (some ⟨A,0,none⟩) 2 2] w fun e w'=>e= .returned (.tuple #[])∧Keep (fun k=>k<B∧k≠b) w w'∧RdM B b w' {m with hosts:=m.hosts++ [n]} st ln:=by
 obtain⟨A2,c2,cells2,e2,hP⟩:=h.rd.six.p2
 subst e2
 obtain⟨i0,hi0,hz,hs',hby⟩:=info_parts info_int
 have hc1:=h.rd.blk.q 1 rfl
 have hw1:w.cell? ⟨A,1,none⟩=some (.string x1):=h.wd.at_ 1 _ rfl
 have hbl:=h.rd.blk.lt
 have hAl:=h.wd.lt
 have hhi:=h.hhi
 have hlow:=h.rd.low
 have htop:=h.rd.top
 have hq:=h.lens.hosts
 have HX:=hideIt (h.wd.sz x1 (by simp));have HX1:=hideIt (h.wd.sz x1 (by simp));have HN:=hideIt hn;have HE:=hideIt h.env;have HR:=hideIt h.rd;have HP:=hideIt hP
 clear h hn hP
 go_enter func90,ntmps90
 go_wp2_with fail
 refine(txt_count (some ⟨A,0,none⟩) 2 2 2 w).mono ?_
 rintro e w1 ⟨rfl,hends⟩
 rcases hends with⟨_,rfl⟩ | ⟨hf,_⟩
 case inr=>exact absurd hf (by decide)
 go_wp2_with fail
 go_region_law
  (first
   | (go_simp;go_at_call 142;refine(txt_number x1 (by have:=HX.out;omega) w.drew (HE.out.up (below_drewN (Below.refl _ _) 1) (by omega)) (by first | (simp;omega) | omega)).mono ?_;rintro e w2 ⟨hb2,⟨h0,rfl⟩ | ⟨k,hk,hk63,rfl⟩⟩;exact absurd (h0.symm.trans HN.out) (by simp);obtain rfl:k=n:=Option.some.inj (hk.symm.trans HN.out);have hS:=below_of_drew hb2;have HS:=hideIt hS;have g1:=(hS.cell (p:=⟨b,1,none⟩) (show b<w.heap.size by omega)).trans hc1;have hsz2:w.heap.size≤w2.heap.size:=hS.size;have g1a:=(((Below.refl w2.heap.size w2).alloc (Nat.le_refl _) (.cells #[.int .i64 k] 3)).cell (p:=⟨b,1,none⟩) (show b<w2.heap.size by omega)).trans g1;have Hrow:=hideIt (row_cells w2 [.int .i64 k] 3);have HK63:=hideIt hk63;have HO2:=hideIt (own_keptz HP.out.own hS);clear hb2 hk hk63 hS)
   | (refine step_appz rfl (.tmp 11) (.tmp 16) 23 rfl B 3 i0 _ 1 8 underlying23 hi0 hz hs' hby rfl (by omega) _ m.hosts.length cells2 rfl (HO2.out.alloc _) (w2.heap.size+1) _ 1 1 [.int .i64 k] rfl rfl Hrow.out (by intro u hu;simp at hu;rcases hu with rfl<;>rfl) (by unfold maxLen;omega) (by omega) (by simp;omega) ?_;intro A4 c4 w4 h2 h3 h4;have hbl4:=HR.out.old (HS.out.alloc HS.out.size _) h3 (fun g e=>(HP.out.lt g e).1);have hf4:=hbl4.frozen 1;have hc4:=hbl4.cell 1;have H2:=hideIt h2;have H3:=hideIt h3;have H4:=hideIt h4;clear h2 h3 h4 hbl4))
 all_goals
  go_end0
  exact⟨rfl,HR.out.push2 HP.out (HS.out.alloc HS.out.size _) (lo:=w.heap.size) (hi:=w.heap.size) (⟨rfl,HK63.out⟩) (Nat.le_refl _) (by simp;omega) H2.out H3.out H4.out⟩
theorem rd_host (h:MIn B b A hi w col v1 v2 v3 v6 v7 v8 m st ln ws) (h0:ws≠ []):
 Calls prog 90 #[.pointer (some ⟨b,0,none⟩),.slice (some ⟨A,0,none⟩) ws.length ws.length] w (MEnd (fun W m'=>RdM B b W m' st ln) B b w (readK 3 m ws.tail)):=by
 by_cases hk:ws.length=2
 case neg=>exact rd_host_len h0 hk _
 obtain⟨x0,x1,rfl⟩:=len2 hk
 cases hn:numW x1 with
 | none=>exact rd_host_no h hn _
 | some n=>
  refine(rd_host_ok h hn).mono ?_
  rintro e w' ⟨rfl,hk,hr⟩
  exact .inr ⟨_,by show(numW x1).map _=_;rw [hn];rfl,rfl,hk,hr⟩
end
section
variable {B b A hi:Nat} {w:World} {col:Nat→Nat} {v1 v2 v3 v6 v7 v8:Value} {m:ModV} {st ln:Nat} {ws:List ByteArray}
theorem rd_export_len (h0:ws≠ []) (hk:ws.length≠3) (Inv:World→ModV→Prop):
 Calls prog 95 #[.pointer (some ⟨b,0,none⟩),.slice (some ⟨A,0,none⟩) ws.length ws.length] w (MEnd Inv B b w (readK 8 m ws.tail)):=by
 have HN:=hideIt (readK_len (m:=m) (p:=8) (k:=3) (by decide) h0 hk)
 have HK:Hid (decide (ws.length=3)=false):=hideIt (decide_eq_false hk)
 clear h0 hk
 go_enter func95,ntmps95
 go_wp2_with fail
 refine(txt_count (some ⟨A,0,none⟩) ws.length ws.length 3 w).mono ?_
 rintro e w1 ⟨rfl,⟨h1,rfl⟩ | ⟨h1,rfl⟩⟩
 ·rw [HK.out] at h1;cases h1
 go_wp2_with fail
 exact⟨rfl,.inl ⟨HN.out,rfl,Below.refl _ _⟩⟩
theorem rd_export_no {x0 x1 x2:ByteArray} (h:MIn B b A hi w col v1 v2 v3 v6 v7 v8 m st ln [x0,x1,x2]) (hn:numW x2=none) (Inv:World→ModV→Prop):
 Calls prog 95 #[.pointer (some ⟨b,0,none⟩),.slice (some ⟨A,0,none⟩) 3 3] w (MEnd Inv B b w (readK 8 m [x1,x2])):=by
 obtain⟨A2,c2,cells2,e2,hP⟩:=h.rd.six.p8
 subst e2
 have hc1:=h.rd.blk.q 7 rfl
 have hw1:w.cell? ⟨A,1,none⟩=some (.string x1):=h.wd.at_ 1 _ rfl
 have hw2:w.cell? ⟨A,2,none⟩=some (.string x2):=h.wd.at_ 2 _ rfl
 have hbl:=h.rd.blk.lt
 have hAl:=h.wd.lt
 have hhi:=h.hhi
 have HX:=hideIt (h.wd.sz x2 (by simp));have HN:=hideIt hn;have HE:=hideIt h.env
 have HRN:Hid (readK 8 m [x1,x2]=none):=hideIt (by show(numW x2).map _=none;rw [hn];rfl)
 clear h hn hP
 go_enter func95,ntmps95
 go_wp2_with fail
 refine(txt_count (some ⟨A,0,none⟩) 3 3 3 w).mono ?_
 rintro e w1 ⟨rfl,hends⟩
 rcases hends with⟨_,rfl⟩ | ⟨hf,_⟩
 case inr=>exact absurd hf (by decide)
 go_wp2_with fail
 refine wp_region_held_drew (S:=fun W=>W.cell? ⟨b,7,none⟩=some (.slice A2 m.exps.length c2)∧W.cell? ⟨A,1,none⟩=some (.string x1)∧W.cell? ⟨A,2,none⟩=some (.string x2)) (by kernel_rfl) ⟨hc1,hw1,hw2⟩ (fun hHeld=> ?_)
 refine takeIt (i:=0) (v:= ?_) rfl (by kernel_rfl) (fun _ _ _ h=>h) rfl (by intro w hSw;(try dsimp only at hSw);go_simp;try with_reducible rfl) hHeld ?_
 refine takeIt (i:=1) (v:= ?_) rfl (by kernel_rfl) (fun _ _ _ h=>h) rfl (by intro w hSw;(try dsimp only at hSw);go_simp;try with_reducible rfl) hHeld ?_
 refine takeIt (i:=2) (v:= ?_) rfl (by kernel_rfl) (fun _ _ _ h=>h) rfl (by intro w hSw;(try dsimp only at hSw);go_simp;try with_reducible rfl) hHeld ?_
 refine takeIt (i:=3) (v:= ?_) rfl (by kernel_rfl) (fun _ _ _ h=>h) rfl (by intro w hSw;(try dsimp only at hSw);go_simp;try with_reducible rfl) hHeld ?_
 refine takeIt (i:=4) (v:= ?_) rfl (by kernel_rfl) (fun _ _ _ h=>h) rfl (by intro w hSw;(try dsimp only at hSw);go_simp;try with_reducible rfl) hHeld ?_
 refine takeIt (i:=5) (v:= ?_) rfl (by kernel_rfl) (fun _ _ _ h=>h) rfl (by intro w hSw;(try dsimp only at hSw);go_simp;try with_reducible rfl) hHeld ?_
 refine takeIt (i:=6) (v:= ?_) rfl (by kernel_rfl) (fun _ _ _ h=>h) rfl (by intro w hSw;(try dsimp only at hSw);go_simp;try with_reducible rfl) hHeld ?_
 refine takeIt (i:=7) (v:= ?_) rfl (by kernel_rfl) (fun _ _ _ h=>h) rfl (by intro w hSw;(try dsimp only at hSw);go_simp;try with_reducible rfl) hHeld ?_
 refine takeIt (i:=8) (v:= ?_) rfl (by kernel_rfl) (fun _ _ _ h=>h) rfl (by intro w hSw;(try dsimp only at hSw);go_simp;try with_reducible rfl) hHeld ?_
 refine takeIt (i:=9) (v:= ?_) rfl (by kernel_rfl) (fun _ _ _ h=>h) rfl (by intro w hSw;(try dsimp only at hSw);go_simp;try with_reducible rfl) hHeld ?_
 refine takeIt (i:=10) (v:= ?_) rfl (by kernel_rfl) (fun _ _ _ h=>h) rfl (by intro w hSw;(try dsimp only at hSw);go_simp;try with_reducible rfl) hHeld ?_
 refine takeIt (i:=11) (v:= ?_) rfl (by kernel_rfl) (fun _ _ _ h=>h) rfl (by intro w hSw;(try dsimp only at hSw);go_simp;try with_reducible rfl) hHeld ?_
 refine wpAnyH_ready (rs:= [12]) (by kernel_rfl) (by simp) ?_
 refine AllReadyH.cons rfl (fun K hK=> ?_) AllReadyH.nil
 go_simp
 go_at_call 142
 refine(txt_number x2 (by have:=HX.out;omega) _ (HE.out.up (below_drewN (Below.refl _ _) 1) (by omega)) (by first | (simp;omega) | omega)).mono ?_
 rintro e w2 ⟨hb2,⟨h0,rfl⟩ | ⟨k,hk,_,rfl⟩⟩
 ·go_wp2_with fail
  exact⟨rfl,.inl ⟨HRN.out,rfl,below_of_drew hb2⟩⟩
 ·exact absurd (hk.symm.trans HN.out) (by simp)
theorem rd_export_ok {x0 x1 x2:ByteArray} {n:Int} (h:MIn B b A hi w col v1 v2 v3 v6 v7 v8 m st ln [x0,x1,x2]) (hn:numW x2=some n):
 Calls prog 95 #[.pointer (some ⟨b,0,none⟩),.slice (some ⟨A,0,none⟩) 3 3] w fun e w'=>e= .returned (.tuple #[])∧Keep (fun k=>k<B∧k≠b) w w'∧RdM B b w' {m with exps:=m.exps++ [⟨x1,n⟩]} st ln:=by
 obtain⟨A2,c2,cells2,e2,hP⟩:=h.rd.six.p8
 subst e2
 obtain⟨i0,hi0,hz,hs',hby⟩:=info_parts info_exp
 have hc1:=h.rd.blk.q 7 rfl
 have hw1:w.cell? ⟨A,1,none⟩=some (.string x1):=h.wd.at_ 1 _ rfl
 have hw2:w.cell? ⟨A,2,none⟩=some (.string x2):=h.wd.at_ 2 _ rfl
 have hbl:=h.rd.blk.lt
 have hAl:=h.wd.lt
 have hhi:=h.hhi
 have hlow:=h.rd.low
 have htop:=h.rd.top
 have hq:=h.lens.exps
 have HX:=hideIt (h.wd.sz x2 (by simp));have HX1:=hideIt (h.wd.sz x1 (by simp));have HN:=hideIt hn;have HE:=hideIt h.env;have HR:=hideIt h.rd;have HP:=hideIt hP
 clear h hn hP
 go_enter func95,ntmps95
 go_wp2_with fail
 refine(txt_count (some ⟨A,0,none⟩) 3 3 3 w).mono ?_
 rintro e w1 ⟨rfl,hends⟩
 rcases hends with⟨_,rfl⟩ | ⟨hf,_⟩
 case inr=>exact absurd hf (by decide)
 go_wp2_with fail
 go_region_law
  (first
   | (go_simp;go_at_call 142;refine(txt_number x2 (by have:=HX.out;omega) w.drew (HE.out.up (below_drewN (Below.refl _ _) 1) (by omega)) (by first | (simp;omega) | omega)).mono ?_;rintro e w2 ⟨hb2,⟨h0,rfl⟩ | ⟨k,hk,hk63,rfl⟩⟩;exact absurd (h0.symm.trans HN.out) (by simp);obtain rfl:k=n:=Option.some.inj (hk.symm.trans HN.out);have hS:=below_of_drew hb2;have HS:=hideIt hS;have g1:=(hS.cell (p:=⟨b,7,none⟩) (show b<w.heap.size by omega)).trans hc1;have gw1:=(hS.cell (p:=⟨A,1,none⟩) (show A<w.heap.size by omega)).trans hw1;have hsz2:w.heap.size≤w2.heap.size:=hS.size;have g1a:=(((Below.refl w2.heap.size w2).alloc (Nat.le_refl _) (.cells #[.string x1,.int .i64 k] 61)).cell (p:=⟨b,7,none⟩) (show b<w2.heap.size by omega)).trans g1;have Hrow:=hideIt (row_cells w2 [.string x1,.int .i64 k] 61);have HK63:=hideIt hk63;have HO2:=hideIt (own_keptz HP.out.own hS);clear hb2 hk hk63 hS)
   | (refine step_appz rfl (.tmp 11) (.tmp 20) 27 rfl B 61 i0 _ 2 24 underlying27 hi0 hz hs' hby rfl (by omega) _ m.exps.length cells2 rfl (HO2.out.alloc _) (w2.heap.size+1) _ 1 1 [.string x1,.int .i64 k] rfl rfl Hrow.out (by intro u hu;simp at hu;rcases hu with rfl | rfl<;>rfl) (by unfold maxLen;omega) (by omega) (by simp;omega) ?_;intro A4 c4 w4 h2 h3 h4;have hbl4:=HR.out.old (HS.out.alloc HS.out.size _) h3 (fun g e=>(HP.out.lt g e).1);have hf4:=hbl4.frozen 7;have hc4:=hbl4.cell 7;have H2:=hideIt h2;have H3:=hideIt h3;have H4:=hideIt h4;clear h2 h3 h4 hbl4))
 all_goals
  go_end0
  exact⟨rfl,HR.out.push8 HP.out (HS.out.alloc HS.out.size _) (lo:=w.heap.size) (hi:=w.heap.size) (rExp_iff.2 ⟨rfl,(show x1.size≤140737488351232 by have:=HX1.out;omega),HK63.out⟩) (Nat.le_refl _) (by simp;omega) H2.out H3.out H4.out⟩
theorem rd_export (h:MIn B b A hi w col v1 v2 v3 v6 v7 v8 m st ln ws) (h0:ws≠ []):
 Calls prog 95 #[.pointer (some ⟨b,0,none⟩),.slice (some ⟨A,0,none⟩) ws.length ws.length] w (MEnd (fun W m'=>RdM B b W m' st ln) B b w (readK 8 m ws.tail)):=by
 by_cases hk:ws.length=3
 case neg=>exact rd_export_len h0 hk _
 obtain⟨x0,x1,x2,rfl⟩:=len3 hk
 cases hn:numW x2 with
 | none=>exact rd_export_no h hn _
 | some n=>
  refine(rd_export_ok h hn).mono ?_
  rintro e w' ⟨rfl,hk,hr⟩
  exact .inr ⟨_,by show(numW x2).map _=_;rw [hn];rfl,rfl,hk,hr⟩
end
section
variable {B b A hi:Nat} {w:World} {col:Nat→Nat} {v1 v2 v3 v6 v7 v8:Value} {m:ModV} {st ln:Nat} {ws:List ByteArray}
theorem RdC.mem (h:RdC B b w col v1 v2 v3 v6 v7 v8 m st ln) {x y:Int} (hx:Rd.B63 x) (hy:Rd.B63 y) {w4 w5:World} (hb:Below w.heap.size w w4) (hK:Keep (fun k=>k≠b) w4 w5)
 (hB:Blk w5 b 104 [v1,v2,v3,.int .i64 x,.int .i64 y,v6,v7,v8,.int .i64 st,.int .i64 ln]):
 Keep (fun k=>k<B∧k≠b) w w5∧RdM B b w5 {m with first:=x,most:=y} st ln:=by
 have hlow:=h.low
 have hK2:Keep (fun k=>k≠b) w w5:=((Keep.of_all hb).mono0 (fun k hk _=>hk)).trans hK
 refine⟨hK2.mono fun k hk=>hk.2,⟨colU w col 0,v1,v2,v3,v6,v7,v8,hB,?_,h.low,Nat.le_trans h.top hK2.size,hx,hy⟩⟩
 have:=h.six.keep hK2 (fun k hk _ _=>by omega) (colU w col 0) (fun k hk _=>colU_old hk rfl)
 exact⟨this.p1,this.p2,this.p3,this.p6,this.p7,this.p8⟩
theorem cell_far (W:World) (u:Value) {p q:Addr} (h:p.block≠q.block):(W.setCell q u).cell? p=W.cell? p:=by
 have:=Below.heap_setCell W q u p.block h
 simp [World.cell?,this]
theorem rd_memory_x {x0 x1 x2:ByteArray} (h:MIn B b A hi w col v1 v2 v3 v6 v7 v8 m st ln [x0,x1,x2]):
 Calls prog 92 #[.pointer (some ⟨b,0,none⟩),.slice (some ⟨A,0,none⟩) 3 3] w (MEnd (fun W m'=>RdM B b W m' st ln) B b w (readK 5 m [x1,x2])):=by
 have hw1:w.cell? ⟨A,1,none⟩=some (.string x1):=h.wd.at_ 1 _ rfl
 have hw2:w.cell? ⟨A,2,none⟩=some (.string x2):=h.wd.at_ 2 _ rfl
 have hAl:=h.wd.lt
 have hbl:=h.rd.blk.lt
 have hhi:=h.hhi
 have HX1:=hideIt (h.wd.sz x1 (by simp));have HX2:=hideIt (h.wd.sz x2 (by simp));have HE:=hideIt h.env;have HR:=hideIt h.rd;have HNE:=hideIt h.ne
 have HNO1:Hid (numW x1=none→readK 5 m [x1,x2]=none):=hideIt fun h=>by show(numW x1).bind _=none;rw [h];rfl
 have HNO2:Hid (numW x2=none→readK 5 m [x1,x2]=none):=hideIt fun h=>by show(numW x1).bind (fun x=>(numW x2).map fun y=>({m with first:=x,most:=y}:ModV))=none;rw [h];cases numW x1<;>rfl
 have HYES:Hid (∀a c,numW x1=some a→numW x2=some c→readK 5 m [x1,x2]=some {m with first:=a,most:=c}):=hideIt fun a c h1 h2=>by show(numW x1).bind (fun x=>(numW x2).map fun y=>({m with first:=x,most:=y}:ModV))=_;rw [h1,h2];rfl
 clear h
 go_enter func92,ntmps92
 go_wp2_with fail
 refine(txt_count (some ⟨A,0,none⟩) 3 3 3 w).mono ?_
 rintro e w1 ⟨rfl,hends⟩
 rcases hends with⟨_,rfl⟩ | ⟨hf,_⟩
 case inr=>exact absurd hf (by decide)
 go_wp2_with fail
 refine wp_region_held_drew (S:=fun W=>W.cell? ⟨A,1,none⟩=some (.string x1)∧W.cell? ⟨A,2,none⟩=some (.string x2)) (by kernel_rfl) ⟨hw1,hw2⟩ (fun hHeld=> ?_)
 refine takeIt (i:=0) (v:= ?_) rfl (by kernel_rfl) (fun _ _ _ h=>h) rfl (by intro w hSw;(try dsimp only at hSw);go_simp;try with_reducible rfl) hHeld ?_
 refine takeIt (i:=1) (v:= ?_) rfl (by kernel_rfl) (fun _ _ _ h=>h) rfl (by intro w hSw;(try dsimp only at hSw);go_simp;try with_reducible rfl) hHeld ?_
 refine takeIt (i:=2) (v:= ?_) rfl (by kernel_rfl) (fun _ _ _ h=>h) rfl (by intro w hSw;(try dsimp only at hSw);go_simp;try with_reducible rfl) hHeld ?_
 refine takeIt (i:=3) (v:= ?_) rfl (by kernel_rfl) (fun _ _ _ h=>h) rfl (by intro w hSw;(try dsimp only at hSw);go_simp;try with_reducible rfl) hHeld ?_
 refine takeIt (i:=4) (v:= ?_) rfl (by kernel_rfl) (fun _ _ _ h=>h) rfl (by intro w hSw;(try dsimp only at hSw);go_simp;try with_reducible rfl) hHeld ?_
 refine takeIt (i:=6) (v:= ?_) rfl (by kernel_rfl) (fun _ _ _ h=>h) rfl (by intro w hSw;(try dsimp only at hSw);go_simp;try with_reducible rfl) hHeld ?_
 refine takeIt (i:=7) (v:= ?_) rfl (by kernel_rfl) (fun _ _ _ h=>h) rfl (by intro w hSw;(try dsimp only at hSw);go_simp;try with_reducible rfl) hHeld ?_
 refine takeIt (i:=8) (v:= ?_) rfl (by kernel_rfl) (fun _ _ _ h=>h) rfl (by intro w hSw;(try dsimp only at hSw);go_simp;try with_reducible rfl) hHeld ?_
 refine wpAnyH_ready (rs:= [5]) (by kernel_rfl) (by simp) ?_
 refine AllReadyH.cons rfl (fun K hK=> ?_) AllReadyH.nil
 ·go_simp
  go_at_call 142
  refine(txt_number x1 (by have:=HX1.out;omega) _ (HE.out.up (below_drewN (Below.refl _ _) 1) (by omega)) (by simp;omega)).mono ?_
  rintro e w2 ⟨hb2,⟨h0,rfl⟩ | ⟨n1,hn1,hm1,rfl⟩⟩
  ·go_wp2_with fail
   exact⟨rfl,.inl ⟨HNO1.out h0,rfl,below_of_drew hb2⟩⟩
  have hS2:=below_of_drew hb2
  have hsz2:=hS2.size
  refine hK.out _ _ ⟨(hS2.cell (p:=⟨A,1,none⟩) hAl).trans hw1,(hS2.cell (p:=⟨A,2,none⟩) hAl).trans hw2⟩ (fun hHeld2=> ?_)
  clear hK K
  refine wpAnyH_ready (rs:= [9]) (by kernel_rfl) (by simp) ?_
  refine AllReadyH.cons rfl (fun K hK=> ?_) AllReadyH.nil
  go_simp
  go_at_call 142
  refine(txt_number x2 (by have:=HX2.out;omega) w2 (HE.out.up hS2 (by omega)) (by omega)).mono ?_
  rintro e w3 ⟨hb3,⟨h0,rfl⟩ | ⟨n2,hn2,hm2,rfl⟩⟩
  ·go_wp2_with fail
   exact⟨rfl,.inl ⟨HNO2.out h0,rfl,hS2.trans (hb3.mono hsz2)⟩⟩
  have hS3:=hS2.trans (hb3.mono hsz2)
  refine hK.out _ _ ⟨(hS3.cell (p:=⟨A,1,none⟩) hAl).trans hw1,(hS3.cell (p:=⟨A,2,none⟩) hAl).trans hw2⟩ (fun hHeld3=> ?_)
  clear hK K
  have hY:=HYES.out n1 n2 hn1 hn2
  have hbk:=HR.out.blk.below hS3 hbl
  have HY:=hideIt hY;have HM1:=hideIt hm1;have HM2:=hideIt hm2;have HS3:=hideIt hS3;have HBK:=hideIt hbk
  have c3:=hbk.q 3 rfl
  have c4:=hbk.q 4 rfl
  have f3:=hbk.frozen 3
  have f4:=hbk.frozen 4
  clear hY hm1 hm2 hb2 hb3 hn1 hn2 hS2 hS3 hbk
  clear hHeld hHeld2
  refine wpAnyH_take (i:=10) (v:= ?_) rfl (by kernel_rfl) (by kernel_rfl) (by kernel_rfl) (fun _ _ _ h=>h) (Or.inl ⟨by rfl,by intro w hSw;(try dsimp only at hSw);go_simp;try with_reducible rfl⟩) hHeld3 ?_
  refine wpAnyH_take (i:=11) (v:= ?_) rfl (by kernel_rfl) (by kernel_rfl) (by kernel_rfl) (fun _ _ _ h=>h) (Or.inl ⟨by rfl,by intro w hSw;(try dsimp only at hSw);go_simp;try with_reducible rfl⟩) hHeld3 ?_
  refine wpAnyH_take (i:=12) (v:= ?_) rfl (by kernel_rfl) (by kernel_rfl) (by kernel_rfl) (fun _ _ _ h=>h) (Or.inl ⟨by rfl,by intro w hSw;(try dsimp only at hSw);go_simp;try with_reducible rfl⟩) hHeld3 ?_
  refine wpAnyH_ready (rs:= [13]) (by kernel_rfl) (by simp) ?_
  refine AllReadyH.cons rfl (fun K hK=> ?_) AllReadyH.nil
  go_simp
  have hB5:=(HBK.out.set 3 (.int .i64 n1))
  have c4':=hB5.q 4 rfl
  have f4':=hB5.frozen 4
  have HN5:=HNE.out
  refine hK.out _ _ ⟨(cell_far _ _ (p:=⟨A,1,none⟩) (q:=⟨b,3,none⟩) HN5).trans ((HS3.out.cell (p:=⟨A,1,none⟩) hAl).trans hw1),(cell_far _ _ (p:=⟨A,2,none⟩) (q:=⟨b,3,none⟩) HN5).trans ((HS3.out.cell (p:=⟨A,2,none⟩) hAl).trans hw2)⟩ (fun hHeld4=> ?_)
  clear hK K
  refine wpAnyH_take (i:=14) (v:= ?_) rfl (by kernel_rfl) (by kernel_rfl) (by kernel_rfl) (fun _ _ _ h=>h) (Or.inl ⟨by rfl,by intro w hSw;(try dsimp only at hSw);go_simp;try with_reducible rfl⟩) hHeld4 ?_
  refine wpAnyH_take (i:=15) (v:= ?_) rfl (by kernel_rfl) (by kernel_rfl) (by kernel_rfl) (fun _ _ _ h=>h) (Or.inl ⟨by rfl,by intro w hSw;(try dsimp only at hSw);go_simp;try with_reducible rfl⟩) hHeld4 ?_
  refine wpAnyH_take (i:=16) (v:= ?_) rfl (by kernel_rfl) (by kernel_rfl) (by kernel_rfl) (fun _ _ _ h=>h) (Or.inl ⟨by rfl,by intro w hSw;(try dsimp only at hSw);go_simp;try with_reducible rfl⟩) hHeld4 ?_
  refine wpAnyH_ready (rs:= [17]) (by kernel_rfl) (by simp) ?_
  refine AllReadyH.cons rfl (fun K hK=> ?_) AllReadyH.nil
  go_simp
  refine hK.out _ _ ⟨(cell_far _ _ (p:=⟨A,1,none⟩) (q:=⟨b,4,none⟩) HN5).trans ((cell_far _ _ (p:=⟨A,1,none⟩) (q:=⟨b,3,none⟩) HN5).trans ((HS3.out.cell (p:=⟨A,1,none⟩) hAl).trans hw1)),(cell_far _ _ (p:=⟨A,2,none⟩) (q:=⟨b,4,none⟩) HN5).trans ((cell_far _ _ (p:=⟨A,2,none⟩) (q:=⟨b,3,none⟩) HN5).trans ((HS3.out.cell (p:=⟨A,2,none⟩) hAl).trans hw2))⟩ (fun hHeld5=> ?_)
  clear hK K
  refine wpAnyH_done (by kernel_rfl) ?_ _
  go_simp
  have hfin:=HR.out.mem HM1.out HM2.out HS3.out (((Keep.refl _ w3).setCell (p:=⟨b,3,none⟩) (fun e=>e rfl) (.int .i64 n1)).setCell (p:=⟨b,4,none⟩) (fun e=>e rfl) (.int .i64 n2)) (hB5.set 4 _)
  go_end0
  exact .inr ⟨_,HY.out,rfl,hfin⟩
theorem rd_memory_len (h0:ws≠ []) (hk:ws.length≠3) (Inv:World→ModV→Prop):
 Calls prog 92 #[.pointer (some ⟨b,0,none⟩),.slice (some ⟨A,0,none⟩) ws.length ws.length] w (MEnd Inv B b w (readK 5 m ws.tail)):=by
 have HN:=hideIt (readK_len (m:=m) (p:=5) (k:=3) (by decide) h0 hk)
 have HK:Hid (decide (ws.length=3)=false):=hideIt (decide_eq_false hk)
 clear h0 hk
 go_enter func92,ntmps92
 go_wp2_with fail
 refine(txt_count (some ⟨A,0,none⟩) ws.length ws.length 3 w).mono ?_
 rintro e w1 ⟨rfl,⟨h1,rfl⟩ | ⟨h1,rfl⟩⟩
 ·rw [HK.out] at h1;cases h1
 go_wp2_with fail
 exact⟨rfl,.inl ⟨HN.out,rfl,Below.refl _ _⟩⟩
theorem rd_memory (h:MIn B b A hi w col v1 v2 v3 v6 v7 v8 m st ln ws) (h0:ws≠ []):
 Calls prog 92 #[.pointer (some ⟨b,0,none⟩),.slice (some ⟨A,0,none⟩) ws.length ws.length] w (MEnd (fun W m'=>RdM B b W m' st ln) B b w (readK 5 m ws.tail)):=by
 by_cases hk:ws.length=3
 case neg=>exact rd_memory_len h0 hk _
 obtain⟨x0,x1,x2,rfl⟩:=len3 hk
 exact rd_memory_x h
end
end Go.Proofs.YtebgikflpgcnlaaGreatDoor
