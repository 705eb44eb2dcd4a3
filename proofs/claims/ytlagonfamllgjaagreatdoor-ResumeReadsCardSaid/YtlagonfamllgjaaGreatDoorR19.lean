/- Part 19 of the proof: VdF -/
import Derived.Test.YtlagonfamllgjaaGreatDoorR17
namespace Go.Proofs.YtlagonfamllgjaaGreatDoor
set_option linter.unusedVariables false
set_option linter.unusedSimpArgs false
set_option maxRecDepth 100000
set_option maxHeartbeats 4000000
open Go.RowKit Tryz
theorem WK (v:Value) (y:Ad) {lo g hi:Nat} {x:Fx} {st:Cm} {m:AP} {f:Bt} {AB:List Int} {p:Nat} (w:World) (h:EM m f p st y lo hi g x w) (hop:y.op.toNat=21∨y.op.toNat=22) (hi0:Eo y.a m.globs.length=false):
 Calls prog 169 #[.pointer (some ⟨g,0,none⟩),.agg #[.int .u8 (y.op.toNat:Int),.int .i64 y.a,v]] w fun e w'=>Ag m f AB p st y w w' lo g x e:=by
 have hcl:Ah y.op=false:=by unfold Ah;exact decide_eq_false (by omega)
 obtain⟨A0,c0,A1,c1,A2,c2,A5,c5,vS,vF,vO,bs,hb,h1,b2,e0,e1,e2,e5,r0,r1,r2,r5,hk,HR,HB,HC,HK,hsz⟩:=h.pre v
 have hI:=AA hi0
 have HE:Hid ((BN m f st y).2.2=30):=AA (by
  have hrow:(Au y.op.toNat).map (·.plain)=some false:=by rcases hop with hop | hop<;>rw [hop]<;>kernel_rfl
  obtain⟨WH,hr1,hr2⟩:=Option.map_eq_some_iff.1 hrow
  have hno:(if 0≤y.a then m.globs[y.a.toNat]? else none)=none:=by
   have hi1:=of_decide_eq_false hi0
   by_cases h0:0≤y.a
   ·rw [if_pos h0];exact List.getElem?_eq_none (by omega)
   ·rw [if_neg h0]
  unfold BN Bf
  rw [hr1,hno]
  rcases hop with hop | hop<;>simp [hop,hr2])
 have hlen:m.globs.length≤1000000:=by have:=h.Yn.ng;omega
 have hc2:(w.alloc (.cells #[.int .u8 (y.op.toNat:Int),.int .i64 y.a,v] 122)).cell? ⟨g,2,none⟩=some (.slice A2 m.globs.length c2):=by rw [←e2];exact hk.blk.cell 2
 have hx0:=b2.q 0 rfl
 have hx1:=b2.q 1 rfl
 rcases hop with hop | hop
 case' inl=>have g21:((y.op.toNat:Int)==21)=true:=by simp;omega
 case' inr=>
  have g21:((y.op.toNat:Int)==21)=false:=by simp;omega
  have g22:((y.op.toNat:Int)==22)=true:=by simp;omega
 all_goals
  clear h h1 hb b2 e0 e1 e2 e5 hi0 hop hk r0 r1 r2 r5
  go_enter func169,ntmps169
  go_upto_region 1 with fail
  generalize w.alloc (.cells #[.int .u8 (y.op.toNat:Int),.int .i64 y.a,v] 122)=w1 at*
  go_upto_region 3 with fail
  refine wp_region_held_drew (S:=fun W=>W.cell? ⟨g,2,none⟩=some (.slice A2 m.globs.length c2)∧W.cell? ⟨w.heap.size,1,none⟩=some (.int .i64 y.a)) (by kernel_rfl) ⟨hc2,hx1⟩ (fun hHeld=> ?_)
  refine AZ (i:=0) (v:= ?_) rfl (by kernel_rfl) (fun _ _ _ h=>h) rfl (by intro w hSw;(try dsimp only at hSw);go_simp;try with_reducible rfl) hHeld ?_
  refine AZ (i:=1) (v:= ?_) rfl (by kernel_rfl) (fun _ _ _ h=>h) rfl (by intro w hSw;(try dsimp only at hSw);go_simp;try with_reducible rfl) hHeld ?_
  refine AZ (i:=2) (v:= ?_) rfl (by kernel_rfl) (fun _ _ _ h=>h) rfl (by intro w hSw;(try dsimp only at hSw);go_simp;try with_reducible rfl) hHeld ?_
  refine AZ (i:=3) (v:= ?_) rfl (by kernel_rfl) (fun _ _ _ h=>h) rfl (by intro w hSw;(try dsimp only at hSw);go_simp;try with_reducible rfl) hHeld ?_
  refine AZ (i:=4) (v:= ?_) rfl (by kernel_rfl) (fun _ _ _ h=>h) rfl (by intro w hSw;(try dsimp only at hSw);go_simp;try with_reducible rfl) hHeld ?_
  refine AZ (i:=5) (v:= ?_) rfl (by kernel_rfl) (fun _ _ _ h=>h) rfl (by intro w hSw;(try dsimp only at hSw);go_simp;try with_reducible rfl) hHeld ?_
  refine AZ (i:=6) (v:= ?_) rfl (by kernel_rfl) (fun _ _ _ h=>h) rfl (by intro w hSw;(try dsimp only at hSw);go_simp;try with_reducible rfl) hHeld ?_
  refine AZ (i:=7) (v:= ?_) rfl (by kernel_rfl) (fun _ _ _ h=>h) rfl (by intro w hSw;(try dsimp only at hSw);go_simp;try with_reducible rfl) hHeld ?_
  refine AZ (i:=8) (v:= ?_) rfl (by kernel_rfl) (fun _ _ _ h=>h) rfl (by intro w hSw;(try dsimp only at hSw);go_simp;try with_reducible rfl) hHeld ?_
  refine AZ (i:=9) (v:= ?_) rfl (by kernel_rfl) (fun _ _ _ h=>h) rfl (by intro w hSw;(try dsimp only at hSw);go_simp;try with_reducible rfl) hHeld ?_
  refine AZ (i:=10) (v:= ?_) rfl (by kernel_rfl) (fun _ _ _ h=>h) rfl (by intro w hSw;(try dsimp only at hSw);go_simp;try with_reducible rfl) hHeld ?_
  refine AZ (i:=11) (v:= ?_) rfl (by kernel_rfl) (fun _ _ _ h=>h) rfl (by intro w hSw;(try dsimp only at hSw);go_simp;try with_reducible rfl) hHeld ?_
  refine AZ (i:=12) (v:= ?_) rfl (by kernel_rfl) (fun _ _ _ h=>h) rfl (by intro w hSw;(try dsimp only at hSw);go_simp;try with_reducible rfl) hHeld ?_
  refine wpAnyH_ready (rs:= [13,16]) (by kernel_rfl) (by simp) ?_
  refine AllReadyH.cons rfl (fun K hK=> ?_) (AllReadyH.cons rfl (fun K hK=> ?_) AllReadyH.nil)
  ·go_simp
   go_at_call 186
   refine(GR y.a m.globs.length HR.out.ya (by omega) _).mono ?_
   rintro e w2 ⟨rfl,⟨h0,rfl⟩ | ⟨h0,rfl⟩⟩
   ·rw [hI.out] at h0;cases h0
   go_wp2_with fail
   exact⟨rfl,.fail hcl (HB.out.trans (below_drewN (Below.refl _ _) 1)) HE.out (by decide) HC.out⟩
  ·go_simp
   refine hK.out _ _ (by first | exact⟨hc2,hx1⟩ | (simp [*,World.cell?_alloc_some];done)) (fun FT=> ?_)
   refine wpAnyH_ready (rs:= [13]) (by kernel_rfl) (by simp) ?_
   refine AllReadyH.cons rfl (fun K2 hK2=> ?_) AllReadyH.nil
   go_simp
   go_at_call 186
   refine(GR y.a m.globs.length HR.out.ya (by omega) _).mono ?_
   rintro e w2 ⟨rfl,⟨h0,rfl⟩ | ⟨h0,rfl⟩⟩
   ·rw [hI.out] at h0;cases h0
   go_wp2_with fail
   exact⟨rfl,.fail hcl (HB.out.trans (below_drewN ((Below.refl _ _).alloc (Nat.le_trans HR.out.LP (Nat.le_refl _)) _) 1)) HE.out (by decide) (HK.out.below ((Below.refl _ _).alloc (Nat.le_refl _) _)).Gu⟩
theorem Tv (v:Value) (y:Ad) {lo g hi:Nat} {x:Fx} {st:Cm} {m:AP} {f:Bt} {AB:List Int} {p:Nat} (w:World) (h:EM m f p st y lo hi g x w) (hop:y.op.toNat=21∨y.op.toNat=22) (gv:Ei) (k:Nat) (hya:y.a=k) (hgv:m.globs[k]?=some gv) (hdd:st.dead=false) (hl:gv.l.toNat=119∨gv.l.toNat=108):
 Calls prog 169 #[.pointer (some ⟨g,0,none⟩),.agg #[.int .u8 (y.op.toNat:Int),.int .i64 y.a,v]] w fun e w'=>Ag m f AB p st y w w' lo g x e:=by
 have hcl:Ah y.op=false:=by unfold Ah;exact decide_eq_false (by omega)
 obtain⟨A0,c0,A1,c1,A2,c2,A5,c5,vS,vF,vO,bs,hb,h1,b2,e0,e1,e2,e5,r0,r1,r2,r5,hk,HR,HB,HC,HK,hsz⟩:=h.pre v
 obtain⟨o,rr,hop1,hrr⟩:=h.ne
 have hkl:=(List.getElem?_eq_some_iff.1 hgv).1
 have hi0:Eo y.a m.globs.length=true:=by unfold Eo;exact decide_eq_true (by omega)
 have hlen:m.globs.length≤1000000:=by have:=h.Yn.ng;omega
 obtain⟨ly,Zm⟩: ∃ly:ByteArray,ly=⟨#[gv.l]⟩:=⟨_,rfl⟩
 obtain⟨L,hL,hL0,hL1⟩: ∃L:Int,(gv.l.toNat:Int)=L∧0≤L∧L<128:=⟨_,rfl,by omega,by omega⟩
 have zK:Hid (ly=Utf8.encode L):=AA (by
  rw [Zm,←hL]
  rcases hl with hl | hl
  ·rw [hl,show gv.l=119 from UInt8.toNat_inj.1 (by rw [hl];rfl)];kernel_rfl
  ·rw [hl,show gv.l=108 from UInt8.toNat_inj.1 (by rw [hl];rfl)];kernel_rfl)
 have SL:ly.size≤1:=by rw [Zm];exact Nat.le_refl _
 obtain⟨mb,hmb⟩: ∃mb,gv.m=mb:=⟨_,rfl⟩
 have hrow:(Au y.op.toNat).map (·.plain)=some false:=by rcases hop with hop | hop<;>rw [hop]<;>kernel_rfl
 obtain⟨WH,hr1,hr2⟩:=Option.map_eq_some_iff.1 hrow
 have Td: ∀po pu,BN m f st y=(po,pu,0)→Eff m f st y po pu:=fun po pu h=>by
  refine⟨hcl,?_,?_,h,hdd⟩
  ·unfold BD;exact decide_eq_false (by omega)
  ·unfold DV;exact decide_eq_false (by omega)
 have KD:(((y.op.toNat:Int)==21)=true∧((y.op.toNat:Int)==22)=false∧((y.op.toNat:Int) !=21)=false∧((y.op.toNat:Int) !=22)=true∧Hid (Eff m f st y Di ly))∨(((y.op.toNat:Int)==21)=false∧((y.op.toNat:Int)==22)=true∧((y.op.toNat:Int) !=21)=true∧((y.op.toNat:Int) !=22)=false∧(mb=true∧Hid (Eff m f st y ly Di)∨mb=false∧Hid ((BN m f st y).2.2=39))):=by
  rcases hop with hop | hop
  ·refine .inl ⟨by simp;omega,by simp;omega,by simp;omega,by simp;omega,AA (Td _ _ ?_)⟩
   unfold BN Bf
   rw [hr1]
   simp [hop,hr2,Zm,hya,hgv]
  ·refine .inr ⟨by simp;omega,by simp;omega,by simp;omega,by simp;omega,?_⟩
   cases mb with
   | true=>
    refine .inl ⟨rfl,AA (Td _ _ ?_)⟩
    unfold BN Bf
    rw [hr1]
    simp [hop,hr2,Zm,hya,hgv,hmb]
   | false=>
    refine .inr ⟨rfl,AA ?_⟩
    unfold BN Bf
    rw [hr1]
    simp [hop,hr2,hya,hgv,hmb]
 have n18:((y.op.toNat:Int) !=18)=true:=by simp;omega
 have n19:((y.op.toNat:Int) !=19)=true:=by simp;omega
 have Sj:=fun W=>GR (k:Int) m.globs.length (by omega) (by omega) W
 have sG:Hid (∀W,Calls prog 186 #[.int .i64 k,.int .i64 m.globs.length] W fun e w'=>W=w'∧e= .returned (.int .i64 k)):=AA (fun W=>(Sj W).mono fun e w' hh=>⟨hh.1,by
  rcases hh.2 with⟨_,he⟩ | ⟨h0,_⟩
  ·exact he
  ·rw [←hya,hi0] at h0;cases h0⟩)
 obtain⟨bt,ot,eA2,_,hbt,hq0,hq1,hq2,_⟩:=Hw (Rd.below r2 hb h.hhi) hgv
 subst eA2
 rw [hL] at hq0
 rw [hmb] at hq1
 have hc2:(w.alloc (.cells #[.int .u8 (y.op.toNat:Int),.int .i64 y.a,v] 122)).cell? ⟨g,2,none⟩=some (.slice (some ⟨bt,ot,none⟩) m.globs.length c2):=by rw [←e2];exact hk.blk.cell 2
 have hx0:=b2.q 0 rfl
 have hx1:(w.alloc (.cells #[.int .u8 (y.op.toNat:Int),.int .i64 y.a,v] 122)).cell? ⟨w.heap.size,1,none⟩=some (.int .i64 k):=by rw [←hya];exact b2.cell 1
 have hkk:(0:Int)≤k:=by omega
 have zJ:(k:Int)<m.globs.length:=by omega
 have hop2:=AA hop1
 have htop:o.base.size≤st.shape.size:=by have:=h.top;unfold Bg at this;rw [hop1] at this;exact this
 have hlo:=h.LP
 have zL:Hid (g<w.heap.size):=AA (by
  obtain⟨_,_,_,_,h9⟩:=h.wk
  exact h9.blk.lt)
 clear h h1 hb b2 e0 e1 e2 e5 hi0 hop hk r0 r1 r2 r5 Sj hya hop1 hgv hmb Zm hdd hl hL hrow hr1 hr2 Td
 rcases KD with⟨g21,g22,n21,n22,HE⟩ | ⟨g21,g22,n21,n22,⟨hm,HE⟩ | ⟨hm,HE⟩⟩
 all_goals
  try (have HM:=AA hm;clear hm)
  go_enter func169,ntmps169
  go_upto_region 1 with fail
  generalize hw1:w.alloc (.cells #[.int .u8 (y.op.toNat:Int),.int .i64 y.a,v] 122)=w1 at*
  have hgw:w.heap.size≠g:=by have:=zL.out;omega
  have hwl:w.heap.size<w1.heap.size:=by rw [←hw1];simp
  clear hw1
  go_upto_region 3 with fail
  have n1:=World.new_ne w1 _ hc2
  have n2:=World.new_ne w1 _ hx1
  have n3:=World.new_ne w1 _ hq0
  go_region_held3 (fun W=>W.cell? ⟨g,2,none⟩=some (.slice (some ⟨bt,ot,none⟩) m.globs.length c2)∧W.cell? ⟨w.heap.size,1,none⟩=some (.int .i64 k)∧W.cell? ⟨bt,ot+k*3,none⟩=some (.int .u8 L)∧W.cell? ⟨bt,ot+k*3+1,none⟩=some (.bool mb)∧W.cell? ⟨bt,ot+k*3+2,none⟩=some (.int .u64 (gv.v:Int))) (go_keep) ((first | (go_at_call 186;refine(sG.out _).mono ?_;rintro e w2 ⟨rfl,rfl⟩)))
  all_goals
   generalize hw2:(w1.alloc (.cells #[.int .u8 L,.bool mb,.int .u64 (gv.v:Int)] 139)).drew=w2
   have hb2:Below w1.heap.size w1 w2:=by rw [←hw2];exact below_drewN ((Below.refl _ _).alloc (Nat.le_refl _) _) 1
   have hn2:AQ w2 w1.heap.size 139 [.int .u8 L,.bool mb,.int .u64 (gv.v:Int)]:=by rw [←hw2];exact AQ.new w1 139 _
   have hg0:=hn2.q 0 rfl
   have hg1:=hn2.q 1 rfl
   have zM:w2.cell? ⟨w.heap.size,0,none⟩=some (.int .u8 (y.op.toNat:Int)):=(hb2.cell hwl).trans hx0
   have ACt:w.heap.size<w2.heap.size:=Nat.lt_of_lt_of_le hwl hb2.size
   have FQ:=AA (HB.out.trans (hb2.mono HR.out.LP))
   have GN:=AA (HK.out.below hb2)
   have hl2:lo≤w2.heap.size:=Nat.le_trans HR.out.LP hb2.size
   clear hw2 hb2 hn2
 iterate 2
  ·go_wp2_with fail
   refine(BX 39 _).mono ?_
   rintro e w3 ⟨rfl,rfl⟩
   go_wp2_with fail
   rw [←zK.out]
   have H0:=AA (BQ (e:=33) (Sk (AV st)))
   have HB3:=FQ
   refine(JK st.shape ly (st.shape.size-Di.size) (by rfl) _ ⟨_,_,_,_,GN.out⟩ (by omega) (by omega)).mono ?_
   rintro e w4 ⟨MI,⟨h1,rfl,hk4⟩ | ⟨h1,rfl,hc4⟩⟩
   all_goals have hb4:=Bu MI HK.out.low (Nat.le_trans hl2 (Nat.le_refl _))
   ·go_wp2_with fail
    go_end0
    exact .done HE.out (HB3.out.trans hb4) H0.out h1 (by rw [bN];exact hk4)
   ·have H1:=AA h1;clear h1
    go_wp2_with fail
    exact⟨rfl,.gF HE.out (HB3.out.trans hb4) H0.out H1.out hc4⟩
 iterate 2
  ·obtain rfl:=HM.out
   go_wp2_with fail
   refine(BX 39 _).mono ?_
   rintro e w3 ⟨rfl,rfl⟩
   go_wp2_with fail
   rw [←zK.out]
   refine(Jc ly _ ⟨_,_,_,_,GN.out⟩ hop2.out (by omega) htop (by omega) (by omega)).mono ?_
   rintro e w3 ⟨hkp3,⟨h0,rfl,hk3⟩ | ⟨h0,rfl,hc3⟩⟩
   all_goals have hb3:=Bu hkp3 HK.out.low hl2
   case inr=>
    have H0:=AA h0;clear h0
    go_wp2_with fail
    exact⟨rfl,.gD HE.out (FQ.out.trans hb3) H0.out hc3⟩
   have H0:=AA h0;clear h0
   have HB3:=AA (FQ.out.trans hb3)
   obtain⟨uS,uF,uO,us,hu⟩:=hk3
   have HU:=AA hu
   have hx3:w3.cell? ⟨w.heap.size,0,none⟩=some (.int .u8 (y.op.toNat:Int)):=(KU hkp3 ACt hgw).trans zM
   clear hu hkp3
   go_wp2_with fail
   go_end0
   exact .done HE.out HB3.out H0.out (BQ (decide_eq_true (by show _+0≤256;omega))) (by rw [WI];exact⟨_,_,_,_,HU.out⟩)
 iterate 2
  ·obtain rfl:=HM.out
   go_wp2_with fail
   refine(DI 39 _).mono ?_
   rintro e w3 ⟨rfl,rfl⟩
   go_wp2_with fail
   exact⟨rfl,.fail hcl FQ.out HE.out (by decide) GN.out.Gu⟩
end Go.Proofs.YtlagonfamllgjaaGreatDoor
