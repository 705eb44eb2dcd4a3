/- Part 31 of the proof: VdF VdG -/
import Derived.Test.YtlagonfamllgjaaGreatDoorK30
namespace Go.Proofs.YtlagonfamllgjaaGreatDoor
set_option linter.unusedVariables false
set_option linter.unusedSimpArgs false
set_option maxRecDepth 100000
set_option maxHeartbeats 4000000
open Go.RowKit Tryz
theorem WV (v:Value) (y:Ad) {lo g hi:Nat} {x:Fx} {st:Cn} {m:AP} {f:Bv} {AJ:List Int} {p:Nat} (w:World) (h:EG m f p st y lo hi g x w) (hop:y.op.toNat=21∨y.op.toNat=22) (hi0:FE y.a m.globs.length=false):
 Calls prog 169 #[.pointer (some ⟨g,0,none⟩),.agg #[.int .u8 (y.op.toNat:Int),.int .i64 y.a,v]] w fun e w'=>Ab m f AJ p st y w w' lo g x e:=by
 have hcl:AZ y.op=false:=by unfold AZ;exact decide_eq_false (by omega)
 obtain⟨A0,c0,A1,c1,A2,c2,A5,c5,vS,vF,vO,bs,hb,h1,b2,e0,e1,e2,e5,r0,r1,r2,r5,hk,HR,HB,HC,HK,hsz⟩:=h.pre v
 have hI:=AA hi0
 have HE:Hid ((BI m f st y).2.2=30):=AA (by
  have hrow:(Aq y.op.toNat).map (·.plain)=some false:=by rcases hop with hop | hop<;>rw [hop]<;>kernel_rfl
  obtain⟨RJ,hr1,hr2⟩:=Option.map_eq_some_iff.1 hrow
  have hno:(if 0≤y.a then m.globs[y.a.toNat]? else none)=none:=by
   have hi1:=of_decide_eq_false hi0
   by_cases h0:0≤y.a
   ·rw [if_pos h0];exact List.getElem?_eq_none (by omega)
   ·rw [if_neg h0]
  unfold BI BR
  rw [hr1,hno]
  rcases hop with hop | hop<;>simp [hop,hr2])
 have hlen:m.globs.length≤1000000:=by have:=h.VL.ng;omega
 have hc2:(w.alloc (.cells #[.int .u8 (y.op.toNat:Int),.int .i64 y.a,v] 122)).cell? ⟨g,2,none⟩=some (.slice A2 m.globs.length c2):=by rw [←e2];exact hk.blk.cell 2
 have hx0:=b2.q 0 rfl
 have hx1:=b2.q 1 rfl
 rcases hop with hop | hop
 case' inl=>have g21:((y.op.toNat:Int)==21)=true:=by simp;omega
 case' inr=>
  have g21:((y.op.toNat:Int)==21)=false:=by simp;omega
  have g22:((y.op.toNat:Int)==22)=true:=by simp;omega
 all_goals
  clear h h1 hb b2 e0 e1 e2 e5 hi0 hop hk r0 r1 r2 r5
  go_enter func169,ntmps169
  go_upto_region 1 with fail
  generalize w.alloc (.cells #[.int .u8 (y.op.toNat:Int),.int .i64 y.a,v] 122)=w1 at*
  go_upto_region 3 with fail
  refine wp_region_held_drew (S:=fun W=>W.cell? ⟨g,2,none⟩=some (.slice A2 m.globs.length c2)∧W.cell? ⟨w.heap.size,1,none⟩=some (.int .i64 y.a)) (by kernel_rfl) ⟨hc2,hx1⟩ (fun hHeld=> ?_)
  refine Jm (i:=0) (v:= ?_) rfl (by kernel_rfl) (fun _ _ _ h=>h) rfl (by intro w hSw;(try dsimp only at hSw);go_simp;try with_reducible rfl) hHeld ?_
  refine Jm (i:=1) (v:= ?_) rfl (by kernel_rfl) (fun _ _ _ h=>h) rfl (by intro w hSw;(try dsimp only at hSw);go_simp;try with_reducible rfl) hHeld ?_
  refine Jm (i:=2) (v:= ?_) rfl (by kernel_rfl) (fun _ _ _ h=>h) rfl (by intro w hSw;(try dsimp only at hSw);go_simp;try with_reducible rfl) hHeld ?_
  refine Jm (i:=3) (v:= ?_) rfl (by kernel_rfl) (fun _ _ _ h=>h) rfl (by intro w hSw;(try dsimp only at hSw);go_simp;try with_reducible rfl) hHeld ?_
  refine Jm (i:=4) (v:= ?_) rfl (by kernel_rfl) (fun _ _ _ h=>h) rfl (by intro w hSw;(try dsimp only at hSw);go_simp;try with_reducible rfl) hHeld ?_
  refine Jm (i:=5) (v:= ?_) rfl (by kernel_rfl) (fun _ _ _ h=>h) rfl (by intro w hSw;(try dsimp only at hSw);go_simp;try with_reducible rfl) hHeld ?_
  refine Jm (i:=6) (v:= ?_) rfl (by kernel_rfl) (fun _ _ _ h=>h) rfl (by intro w hSw;(try dsimp only at hSw);go_simp;try with_reducible rfl) hHeld ?_
  refine Jm (i:=7) (v:= ?_) rfl (by kernel_rfl) (fun _ _ _ h=>h) rfl (by intro w hSw;(try dsimp only at hSw);go_simp;try with_reducible rfl) hHeld ?_
  refine Jm (i:=8) (v:= ?_) rfl (by kernel_rfl) (fun _ _ _ h=>h) rfl (by intro w hSw;(try dsimp only at hSw);go_simp;try with_reducible rfl) hHeld ?_
  refine Jm (i:=9) (v:= ?_) rfl (by kernel_rfl) (fun _ _ _ h=>h) rfl (by intro w hSw;(try dsimp only at hSw);go_simp;try with_reducible rfl) hHeld ?_
  refine Jm (i:=10) (v:= ?_) rfl (by kernel_rfl) (fun _ _ _ h=>h) rfl (by intro w hSw;(try dsimp only at hSw);go_simp;try with_reducible rfl) hHeld ?_
  refine Jm (i:=11) (v:= ?_) rfl (by kernel_rfl) (fun _ _ _ h=>h) rfl (by intro w hSw;(try dsimp only at hSw);go_simp;try with_reducible rfl) hHeld ?_
  refine Jm (i:=12) (v:= ?_) rfl (by kernel_rfl) (fun _ _ _ h=>h) rfl (by intro w hSw;(try dsimp only at hSw);go_simp;try with_reducible rfl) hHeld ?_
  refine wpAnyH_ready (rs:= [13,16]) (by kernel_rfl) (by simp) ?_
  refine AllReadyH.cons rfl (fun K hK=> ?_) (AllReadyH.cons rfl (fun K hK=> ?_) AllReadyH.nil)
  ·go_simp
   go_at_call 186
   refine(Dq y.a m.globs.length HR.out.ya (by omega) _).mono ?_
   rintro e w2 ⟨rfl,⟨h0,rfl⟩ | ⟨h0,rfl⟩⟩
   ·rw [hI.out] at h0;cases h0
   go_wp2_with fail
   exact⟨rfl,.fail hcl (HB.out.trans (below_drewN (Below.refl _ _) 1)) HE.out (by decide) HC.out⟩
  ·go_simp
   refine hK.out _ _ (by first | exact⟨hc2,hx1⟩ | (simp [*,World.cell?_alloc_some];done)) (fun G6=> ?_)
   refine wpAnyH_ready (rs:= [13]) (by kernel_rfl) (by simp) ?_
   refine AllReadyH.cons rfl (fun K2 hK2=> ?_) AllReadyH.nil
   go_simp
   go_at_call 186
   refine(Dq y.a m.globs.length HR.out.ya (by omega) _).mono ?_
   rintro e w2 ⟨rfl,⟨h0,rfl⟩ | ⟨h0,rfl⟩⟩
   ·rw [hI.out] at h0;cases h0
   go_wp2_with fail
   exact⟨rfl,.fail hcl (HB.out.trans (below_drewN ((Below.refl _ _).alloc (Nat.le_trans HR.out.Fq (Nat.le_refl _)) _) 1)) HE.out (by decide) (HK.out.below ((Below.refl _ _).alloc (Nat.le_refl _) _)).Ci⟩
theorem Ta (v:Value) (y:Ad) {lo g hi:Nat} {x:Fx} {st:Cn} {m:AP} {f:Bv} {AJ:List Int} {p:Nat} (w:World) (h:EG m f p st y lo hi g x w) (hop:y.op.toNat=21∨y.op.toNat=22) (gv:ED) (k:Nat) (hya:y.a=k) (hgv:m.globs[k]?=some gv) (hdd:st.dead=false) (hl:gv.l.toNat=119∨gv.l.toNat=108):
 Calls prog 169 #[.pointer (some ⟨g,0,none⟩),.agg #[.int .u8 (y.op.toNat:Int),.int .i64 y.a,v]] w fun e w'=>Ab m f AJ p st y w w' lo g x e:=by
 have hcl:AZ y.op=false:=by unfold AZ;exact decide_eq_false (by omega)
 obtain⟨A0,c0,A1,c1,A2,c2,A5,c5,vS,vF,vO,bs,hb,h1,b2,e0,e1,e2,e5,r0,r1,r2,r5,hk,HR,HB,HC,HK,hsz⟩:=h.pre v
 obtain⟨o,rr,hop1,hrr⟩:=h.ne
 have hkl:=(List.getElem?_eq_some_iff.1 hgv).1
 have hi0:FE y.a m.globs.length=true:=by unfold FE;exact decide_eq_true (by omega)
 have hlen:m.globs.length≤1000000:=by have:=h.VL.ng;omega
 obtain⟨ly,PX⟩: ∃ly:ByteArray,ly=⟨#[gv.l]⟩:=⟨_,rfl⟩
 obtain⟨L,hL,hL0,hL1⟩: ∃L:Int,(gv.l.toNat:Int)=L∧0≤L∧L<128:=⟨_,rfl,by omega,by omega⟩
 have nW:Hid (ly=Utf8.encode L):=AA (by
  rw [PX,←hL]
  rcases hl with hl | hl
  ·rw [hl,show gv.l=119 from UInt8.toNat_inj.1 (by rw [hl];rfl)];kernel_rfl
  ·rw [hl,show gv.l=108 from UInt8.toNat_inj.1 (by rw [hl];rfl)];kernel_rfl)
 have PE:ly.size≤1:=by rw [PX];exact Nat.le_refl _
 obtain⟨mb,hmb⟩: ∃mb,gv.m=mb:=⟨_,rfl⟩
 have hrow:(Aq y.op.toNat).map (·.plain)=some false:=by rcases hop with hop | hop<;>rw [hop]<;>kernel_rfl
 obtain⟨RJ,hr1,hr2⟩:=Option.map_eq_some_iff.1 hrow
 have Xk: ∀po pu,BI m f st y=(po,pu,0)→Eff m f st y po pu:=fun po pu h=>by
  refine⟨hcl,?_,?_,h,hdd⟩
  ·unfold Aw;exact decide_eq_false (by omega)
  ·unfold DF;exact decide_eq_false (by omega)
 have KD:(((y.op.toNat:Int)==21)=true∧((y.op.toNat:Int)==22)=false∧((y.op.toNat:Int) !=21)=false∧((y.op.toNat:Int) !=22)=true∧Hid (Eff m f st y Dm ly))∨(((y.op.toNat:Int)==21)=false∧((y.op.toNat:Int)==22)=true∧((y.op.toNat:Int) !=21)=true∧((y.op.toNat:Int) !=22)=false∧(mb=true∧Hid (Eff m f st y ly Dm)∨mb=false∧Hid ((BI m f st y).2.2=39))):=by
  rcases hop with hop | hop
  ·refine .inl ⟨by simp;omega,by simp;omega,by simp;omega,by simp;omega,AA (Xk _ _ ?_)⟩
   unfold BI BR
   rw [hr1]
   simp [hop,hr2,PX,hya,hgv]
  ·refine .inr ⟨by simp;omega,by simp;omega,by simp;omega,by simp;omega,?_⟩
   cases mb with
   | true=>
    refine .inl ⟨rfl,AA (Xk _ _ ?_)⟩
    unfold BI BR
    rw [hr1]
    simp [hop,hr2,PX,hya,hgv,hmb]
   | false=>
    refine .inr ⟨rfl,AA ?_⟩
    unfold BI BR
    rw [hr1]
    simp [hop,hr2,hya,hgv,hmb]
 have n18:((y.op.toNat:Int) !=18)=true:=by simp;omega
 have n19:((y.op.toNat:Int) !=19)=true:=by simp;omega
 have Ik:=fun W=>Dq (k:Int) m.globs.length (by omega) (by omega) W
 have UD:Hid (∀W,Calls prog 186 #[.int .i64 k,.int .i64 m.globs.length] W fun e w'=>W=w'∧e= .returned (.int .i64 k)):=AA (fun W=>(Ik W).mono fun e w' hh=>⟨hh.1,by
  rcases hh.2 with⟨_,he⟩ | ⟨h0,_⟩
  ·exact he
  ·rw [←hya,hi0] at h0;cases h0⟩)
 obtain⟨bt,ot,eA2,_,hbt,hq0,hq1,hq2,_⟩:=Eh (Rd.below r2 hb h.hhi) hgv
 subst eA2
 rw [hL] at hq0
 rw [hmb] at hq1
 have hc2:(w.alloc (.cells #[.int .u8 (y.op.toNat:Int),.int .i64 y.a,v] 122)).cell? ⟨g,2,none⟩=some (.slice (some ⟨bt,ot,none⟩) m.globs.length c2):=by rw [←e2];exact hk.blk.cell 2
 have hx0:=b2.q 0 rfl
 have hx1:(w.alloc (.cells #[.int .u8 (y.op.toNat:Int),.int .i64 y.a,v] 122)).cell? ⟨w.heap.size,1,none⟩=some (.int .i64 k):=by rw [←hya];exact b2.cell 1
 have hkk:(0:Int)≤k:=by omega
 have YZ:(k:Int)<m.globs.length:=by omega
 have hop2:=AA hop1
 have htop:o.base.size≤st.shape.size:=by have:=h.top;unfold BU at this;rw [hop1] at this;exact this
 have hlo:=h.Fq
 have aJ:Hid (g<w.heap.size):=AA (by
  obtain⟨_,_,_,_,h9⟩:=h.wk
  exact h9.blk.lt)
 clear h h1 hb b2 e0 e1 e2 e5 hi0 hop hk r0 r1 r2 r5 Ik hya hop1 hgv hmb PX hdd hl hL hrow hr1 hr2 Xk
 rcases KD with⟨g21,g22,n21,n22,HE⟩ | ⟨g21,g22,n21,n22,⟨hm,HE⟩ | ⟨hm,HE⟩⟩
 all_goals
  try (have HM:=AA hm;clear hm)
  go_enter func169,ntmps169
  go_upto_region 1 with fail
  generalize hw1:w.alloc (.cells #[.int .u8 (y.op.toNat:Int),.int .i64 y.a,v] 122)=w1 at*
  have hgw:w.heap.size≠g:=by have:=aJ.out;omega
  have hwl:w.heap.size<w1.heap.size:=by rw [←hw1];simp
  clear hw1
  go_upto_region 3 with fail
  have n1:=World.new_ne w1 _ hc2
  have n2:=World.new_ne w1 _ hx1
  have n3:=World.new_ne w1 _ hq0
  go_region_held3 (fun W=>W.cell? ⟨g,2,none⟩=some (.slice (some ⟨bt,ot,none⟩) m.globs.length c2)∧W.cell? ⟨w.heap.size,1,none⟩=some (.int .i64 k)∧W.cell? ⟨bt,ot+k*3,none⟩=some (.int .u8 L)∧W.cell? ⟨bt,ot+k*3+1,none⟩=some (.bool mb)∧W.cell? ⟨bt,ot+k*3+2,none⟩=some (.int .u64 (gv.v:Int))) (go_keep) ((first | (go_at_call 186;refine(UD.out _).mono ?_;rintro e w2 ⟨rfl,rfl⟩)))
  all_goals
   generalize hw2:(w1.alloc (.cells #[.int .u8 L,.bool mb,.int .u64 (gv.v:Int)] 139)).drew=w2
   have hb2:Below w1.heap.size w1 w2:=by rw [←hw2];exact below_drewN ((Below.refl _ _).alloc (Nat.le_refl _) _) 1
   have hn2:AQ w2 w1.heap.size 139 [.int .u8 L,.bool mb,.int .u64 (gv.v:Int)]:=by rw [←hw2];exact AQ.new w1 139 _
   have hg0:=hn2.q 0 rfl
   have hg1:=hn2.q 1 rfl
   have nX:w2.cell? ⟨w.heap.size,0,none⟩=some (.int .u8 (y.op.toNat:Int)):=(hb2.cell hwl).trans hx0
   have u_:w.heap.size<w2.heap.size:=Nat.lt_of_lt_of_le hwl hb2.size
   have Gn:=AA (HB.out.trans (hb2.mono HR.out.Fq))
   have Iu:=AA (HK.out.below hb2)
   have hl2:lo≤w2.heap.size:=Nat.le_trans HR.out.Fq hb2.size
   clear hw2 hb2 hn2
 iterate 2
  ·go_wp2_with fail
   refine(Bn 39 _).mono ?_
   rintro e w3 ⟨rfl,rfl⟩
   go_wp2_with fail
   rw [←nW.out]
   have H0:=AA (BX (e:=33) (TT (AX st)))
   have HB3:=Gn
   refine(IQ st.shape ly (st.shape.size-Dm.size) (by rfl) _ ⟨_,_,_,_,Iu.out⟩ (by omega) (by omega)).mono ?_
   rintro e w4 ⟨Le,⟨h1,rfl,hk4⟩ | ⟨h1,rfl,hc4⟩⟩
   all_goals have hb4:=BZ Le HK.out.low (Nat.le_trans hl2 (Nat.le_refl _))
   ·go_wp2_with fail
    go_end0
    exact .done HE.out (HB3.out.trans hb4) H0.out h1 (by rw [dH];exact hk4)
   ·have H1:=AA h1;clear h1
    go_wp2_with fail
    exact⟨rfl,.aI HE.out (HB3.out.trans hb4) H0.out H1.out hc4⟩
 iterate 2
  ·obtain rfl:=HM.out
   go_wp2_with fail
   refine(Bn 39 _).mono ?_
   rintro e w3 ⟨rfl,rfl⟩
   go_wp2_with fail
   rw [←nW.out]
   refine(Ia ly _ ⟨_,_,_,_,Iu.out⟩ hop2.out (by omega) htop (by omega) (by omega)).mono ?_
   rintro e w3 ⟨hkp3,⟨h0,rfl,hk3⟩ | ⟨h0,rfl,hc3⟩⟩
   all_goals have hb3:=BZ hkp3 HK.out.low hl2
   case inr=>
    have H0:=AA h0;clear h0
    go_wp2_with fail
    exact⟨rfl,.YX HE.out (Gn.out.trans hb3) H0.out hc3⟩
   have H0:=AA h0;clear h0
   have HB3:=AA (Gn.out.trans hb3)
   obtain⟨uS,uF,uO,us,hu⟩:=hk3
   have HU:=AA hu
   have hx3:w3.cell? ⟨w.heap.size,0,none⟩=some (.int .u8 (y.op.toNat:Int)):=(JL hkp3 u_ hgw).trans nX
   clear hu hkp3
   go_wp2_with fail
   go_end0
   exact .done HE.out HB3.out H0.out (BX (decide_eq_true (by show _+0≤256;omega))) (by rw [WT];exact⟨_,_,_,_,HU.out⟩)
 iterate 2
  ·obtain rfl:=HM.out
   go_wp2_with fail
   refine(DU 39 _).mono ?_
   rintro e w3 ⟨rfl,rfl⟩
   go_wp2_with fail
   exact⟨rfl,.fail hcl Gn.out HE.out (by decide) Iu.out.Ci⟩
theorem Ab.f33 {m:AP} {f:Bv} {AJ:List Int} {p:Nat} {st:Cn} {y:Ad} {w w':World} {lo g:Nat} {x:Fx} {po pu:ByteArray} (E:Eff m f st y po pu) (hb:Below lo w w') (h0:ends (AX st) po=false) (hc:Nn w' g x p):
 Ab m f AJ p st y w w' lo g x (.panicked (D6 33)):=by
 have:=Ab.YX (AJ:=AJ) (x:=x) (lo:=lo) E hb (by rw [CJ h0];decide) hc
 rw [CJ h0] at this
 exact this
theorem Ab.good {m:AP} {f:Bv} {AJ:List Int} {p:Nat} {st:Cn} {y:Ad} {w w':World} {lo g:Nat} {x:Fx} {po pu:ByteArray} (E:Eff m f st y po pu) (hb:Below lo w w') (h0:ends (AX st) po=true) (h1:st.shape.size-po.size+pu.size≤256)
 (hk:Wk w' lo g x {st with shape:=st.shape.extract 0 (st.shape.size-po.size)++pu} p):Ab m f AJ p st y w w' lo g x (.returned (.tuple #[])):=
 .done E hb (BX h0) (BX (decide_eq_true h1)) hk
theorem Td {s t:ByteArray} (h:s.size<t.size):ends s t=false:=by
 unfold ends
 rw [decide_eq_false (by omega)];rfl
theorem iD (s:ByteArray) (n:Nat) (h:n≤s.size):ends s (s.extract (s.size-n) s.size)=true:=by
 have hs:(s.extract (s.size-n) s.size).size=n:=by rw [ByteArray.size_extract];omega
 unfold ends
 rw [hs,decide_eq_true h]
 simp
theorem Uf (v:Value) (y:Ad) {lo g hi:Nat} {x:Fx} {st:Cn} {m:AP} {f:Bv} {AJ:List Int} {p:Nat} (w:World) (h:EG m f p st y lo hi g x w) (hop:y.op.toNat=16) (hdd:st.dead=false) (ha: ¬1≤(AX st).size):
 Calls prog 168 #[.pointer (some ⟨g,0,none⟩),.agg #[.int .u8 (y.op.toNat:Int),.int .i64 y.a,v]] w fun e w'=>Ab m f AJ p st y w w' lo g x e:=by
 have hcl:AZ y.op=false:=by unfold AZ;exact decide_eq_false (by omega)
 obtain⟨A0,c0,A1,c1,A2,c2,A5,c5,vS,vF,vO,bs,hb,h1,b2,e0,e1,e2,e5,r0,r1,r2,r5,hk,HR,HB,HC,HK,hsz⟩:=h.pre v
 obtain⟨o,rr,hop1,hrr⟩:=h.ne
 have HE:Hid (Eff m f st y wS Dm):=AA (by
  refine⟨hcl,?_,?_,?_,hdd⟩
  ·unfold Aw;exact decide_eq_false (by omega)
  ·unfold DF;exact decide_eq_false (by omega)
  ·have hrow:(Aq 16).map (·.plain)=some false:=by kernel_rfl
   obtain⟨RJ,hr1,hr2⟩:=Option.map_eq_some_iff.1 hrow
   unfold BI
   rw [hop,hr1]
   simp only [hr2,Bool.false_eq_true,if_false]
   rw [if_neg (by decide),if_neg (by decide),if_neg (by decide),if_neg (by decide),if_neg (by decide),if_pos trivial,if_pos (by omega)])
 have hab:AX st=st.shape.extract o.base.size st.shape.size:=by unfold AX BU;rw [hop1];rfl
 have has:(AX st).size=st.shape.size-o.base.size:=DR st▸(by unfold BU;rw [hop1];rfl)
 have Pw:Hid (ends (AX st) wS=false):=AA (by
  exact Td (by show _<1;omega))
 obtain⟨b,bs',A,c,rfl,_,_,hbk,hlb,_⟩:=hk.head hop1
 have HT:=AA (fun n=>Kn hk hop1 (by omega) n)
 have hc18:=hk.blk.q 18 rfl
 have hcb:=hbk.q 4 rfl
 have hx0:(w.alloc (.cells #[.int .u8 (y.op.toNat:Int),.int .i64 y.a,v] 122)).cell? ⟨w.heap.size,0,none⟩=some (.int .u8 16):=by have:=b2.cell 0;rw [this,hop];rfl
 have hlt:=hk.blk.lt
 have hf:=hk.blk.frozen 18
 have htop:o.base.size≤st.shape.size:=by have:=h.top;unfold BU at this;rw [hop1] at this;exact this
 have hop2:=AA hop1
 have hlo:=h.Fq
 have hem:(st.shape.extract o.base.size st.shape.size).toList.isEmpty=true:=by
  rw [ByteArray.toList_eq,←hab,List.isEmpty_iff_length_eq_zero]
  have:(AX st).data.toList.length=(AX st).size:=by simp
  omega
 clear h h1 hb b2 e0 e1 e2 e5 hop hk r0 r1 r2 r5 hop1 hdd hbk hab has ha
 go_enter func168,ntmps168
 go_upto_region 1 with fail
 generalize w.alloc (.cells #[.int .u8 (y.op.toNat:Int),.int .i64 y.a,v] 122)=w1 at*
 go_quiet ((go_at_call 134;exact HT.out _))
 go_wp2_with fail
 refine(DU 33 _).mono ?_
 rintro e w2 ⟨rfl,rfl⟩
 go_wp2_with fail
 exact⟨rfl,.f33 HE.out (HB.out.trans (below_drewN (Below.refl _ _) _)) Pw.out HC.out⟩
theorem Te (v:Value) (y:Ad) {lo g hi:Nat} {x:Fx} {st:Cn} {m:AP} {f:Bv} {AJ:List Int} {p:Nat} (w:World) (h:EG m f p st y lo hi g x w) (hop:y.op.toNat=16) (hdd:st.dead=false) (ha:1≤(AX st).size):
 Calls prog 168 #[.pointer (some ⟨g,0,none⟩),.agg #[.int .u8 (y.op.toNat:Int),.int .i64 y.a,v]] w fun e w'=>Ab m f AJ p st y w w' lo g x e:=by
 have hcl:AZ y.op=false:=by unfold AZ;exact decide_eq_false (by omega)
 obtain⟨A0,c0,A1,c1,A2,c2,A5,c5,vS,vF,vO,bs,hb,h1,b2,e0,e1,e2,e5,r0,r1,r2,r5,hk,HR,HB,HC,HK,hsz⟩:=h.pre v
 obtain⟨o,rr,hop1,hrr⟩:=h.ne
 have HE:Hid (Eff m f st y ((AX st).extract ((AX st).size-1) (AX st).size) Dm):=AA (by
  refine⟨hcl,?_,?_,?_,hdd⟩
  ·unfold Aw;exact decide_eq_false (by omega)
  ·unfold DF;exact decide_eq_false (by omega)
  ·have hrow:(Aq 16).map (·.plain)=some false:=by kernel_rfl
   obtain⟨RJ,hr1,hr2⟩:=Option.map_eq_some_iff.1 hrow
   unfold BI
   rw [hop,hr1]
   simp only [hr2,Bool.false_eq_true,if_false]
   rw [if_neg (by decide),if_neg (by decide),if_neg (by decide),if_neg (by decide),if_neg (by decide),if_pos trivial,if_neg (by omega)])
 have hab:AX st=st.shape.extract o.base.size st.shape.size:=by unfold AX BU;rw [hop1];rfl
 have has:(AX st).size=st.shape.size-o.base.size:=DR st▸(by unfold BU;rw [hop1];rfl)
 have Pw:Hid (ends (AX st) ((AX st).extract ((AX st).size-1) (AX st).size)=true∧((AX st).extract ((AX st).size-1) (AX st).size).size=1):=AA (by
  exact⟨iD _ 1 ha,by rw [ByteArray.size_extract];omega⟩)
 obtain⟨b,bs',A,c,rfl,_,_,hbk,hlb,_⟩:=hk.head hop1
 have HT:=AA (fun n=>Kn hk hop1 (by omega) n)
 have hc18:=hk.blk.q 18 rfl
 have hcb:=hbk.q 4 rfl
 have hx0:(w.alloc (.cells #[.int .u8 (y.op.toNat:Int),.int .i64 y.a,v] 122)).cell? ⟨w.heap.size,0,none⟩=some (.int .u8 16):=by have:=b2.cell 0;rw [this,hop];rfl
 have hlt:=hk.blk.lt
 have hf:=hk.blk.frozen 18
 have htop:o.base.size≤st.shape.size:=by have:=h.top;unfold BU at this;rw [hop1] at this;exact this
 have hop2:=AA hop1
 have hlo:=h.Fq
 have hem:(st.shape.extract o.base.size st.shape.size).toList.isEmpty=false:=by
  rw [ByteArray.toList_eq,←hab,List.isEmpty_eq_false_iff]
  intro e0
  have:(AX st).data.toList.length=(AX st).size:=by simp
  rw [e0] at this
  simp at this
  omega
 have hs1:1≤st.shape.size:=by omega
 have hle1:(0:Int)≤(st.shape.size:Int)-1:=by omega
 have hle2:((st.shape.size:Int)-1).toNat=st.shape.size-1:=by omega
 clear h h1 hb b2 e0 e1 e2 e5 hop hk r0 r1 r2 r5 hop1 hdd hbk hab has ha
 go_enter func168,ntmps168
 go_upto_region 1 with fail
 generalize w.alloc (.cells #[.int .u8 (y.op.toNat:Int),.int .i64 y.a,v] 122)=w1 at*
 go_quiet ((go_at_call 134;exact HT.out _))
 go_wp2_with fail
 refine(Bn 33 _).mono ?_
 rintro e w2 ⟨rfl,rfl⟩
 go_wp2_with fail
 go_region
 all_goals
  go_wp2_with fail
  refine bodyPost_ret (results_none rfl _ _ _) rfl ?_
  have h2:=(HK.out.drewN (nq+1)).shape (st.shape.extract 0 (st.shape.size-1))
  exact .good HE.out (HB.out.trans ((below_drewN (Below.refl _ _) (nq+1)).trans h2.1)) Pw.out.1 (by rw [Pw.out.2];show st.shape.size-1+0≤256;omega) (by rw [WT,Pw.out.2];exact⟨_,_,_,_,h2.2⟩)
theorem Ug (v:Value) (y:Ad) {lo g hi:Nat} {x:Fx} {st:Cn} {m:AP} {f:Bv} {AJ:List Int} {p:Nat} (w:World) (h:EG m f p st y lo hi g x w) (hop:y.op.toNat=17) (hdd:st.dead=false) (ha: ¬3≤(AX st).size):
 Calls prog 168 #[.pointer (some ⟨g,0,none⟩),.agg #[.int .u8 (y.op.toNat:Int),.int .i64 y.a,v]] w fun e w'=>Ab m f AJ p st y w w' lo g x e:=by
 have hcl:AZ y.op=false:=by unfold AZ;exact decide_eq_false (by omega)
 obtain⟨A0,c0,A1,c1,A2,c2,A5,c5,vS,vF,vO,bs,hb,h1,b2,e0,e1,e2,e5,r0,r1,r2,r5,hk,HR,HB,HC,HK,hsz⟩:=h.pre v
 obtain⟨o,rr,hop1,hrr⟩:=h.ne
 have HE:Hid (Eff m f st y ⟨#[119,119,119]⟩ wS):=AA (by
  refine⟨hcl,?_,?_,?_,hdd⟩
  ·unfold Aw;exact decide_eq_false (by omega)
  ·unfold DF;exact decide_eq_false (by omega)
  ·have hrow:(Aq 17).map (·.plain)=some false:=by kernel_rfl
   obtain⟨RJ,hr1,hr2⟩:=Option.map_eq_some_iff.1 hrow
   unfold BI
   rw [hop,hr1]
   simp only [hr2,Bool.false_eq_true,if_false]
   rw [if_neg (by decide),if_neg (by decide),if_neg (by decide),if_neg (by decide),if_neg (by decide),if_neg (by decide),if_pos trivial,if_pos (by omega)])
 have hab:AX st=st.shape.extract o.base.size st.shape.size:=by unfold AX BU;rw [hop1];rfl
 have has:(AX st).size=st.shape.size-o.base.size:=DR st▸(by unfold BU;rw [hop1];rfl)
 have Pw:Hid (ends (AX st) ⟨#[119,119,119]⟩=false):=AA (by
  exact Td (by show _<3;omega))
 obtain⟨b,bs',A,c,rfl,_,_,hbk,hlb,_⟩:=hk.head hop1
 have HT:=AA (fun n=>Kn hk hop1 (by omega) n)
 have hc18:=hk.blk.q 18 rfl
 have hcb:=hbk.q 4 rfl
 have hx0:(w.alloc (.cells #[.int .u8 (y.op.toNat:Int),.int .i64 y.a,v] 122)).cell? ⟨w.heap.size,0,none⟩=some (.int .u8 17):=by have:=b2.cell 0;rw [this,hop];rfl
 have hlt:=hk.blk.lt
 have hf:=hk.blk.frozen 18
 have htop:o.base.size≤st.shape.size:=by have:=h.top;unfold BU at this;rw [hop1] at this;exact this
 have hop2:=AA hop1
 have hlo:=h.Fq
 have q3:decide ((3:Int)≤((st.shape.size-o.base.size:Nat):Int))=false:=decide_eq_false (by omega)
 clear h h1 hb b2 e0 e1 e2 e5 hop hk r0 r1 r2 r5 hop1 hdd hbk hab has ha
 go_enter func168,ntmps168
 go_upto_region 1 with fail
 generalize w.alloc (.cells #[.int .u8 (y.op.toNat:Int),.int .i64 y.a,v] 122)=w1 at*
 go_quiet ((go_at_call 134;exact HT.out _))
 go_wp2_with fail
 refine(DU 33 _).mono ?_
 rintro e w2 ⟨rfl,rfl⟩
 go_wp2_with fail
 exact⟨rfl,.f33 HE.out (HB.out.trans (below_drewN (Below.refl _ _) _)) Pw.out HC.out⟩
theorem Tf (v:Value) (y:Ad) {lo g hi:Nat} {x:Fx} {st:Cn} {m:AP} {f:Bv} {AJ:List Int} {p:Nat} (w:World) (h:EG m f p st y lo hi g x w) (hop:y.op.toNat=17) (hdd:st.dead=false) (ha:3≤(AX st).size):
 Calls prog 168 #[.pointer (some ⟨g,0,none⟩),.agg #[.int .u8 (y.op.toNat:Int),.int .i64 y.a,v]] w fun e w'=>Ab m f AJ p st y w w' lo g x e:=by
 have hcl:AZ y.op=false:=by unfold AZ;exact decide_eq_false (by omega)
 obtain⟨A0,c0,A1,c1,A2,c2,A5,c5,vS,vF,vO,bs,hb,h1,b2,e0,e1,e2,e5,r0,r1,r2,r5,hk,HR,HB,HC,HK,hsz⟩:=h.pre v
 obtain⟨o,rr,hop1,hrr⟩:=h.ne
 have HE:Hid (Eff m f st y ((AX st).extract ((AX st).size-2) ((AX st).size-1)++(AX st).extract ((AX st).size-2) ((AX st).size-1)++wS) ((AX st).extract ((AX st).size-2) ((AX st).size-1))):=AA (by
  refine⟨hcl,?_,?_,?_,hdd⟩
  ·unfold Aw;exact decide_eq_false (by omega)
  ·unfold DF;exact decide_eq_false (by omega)
  ·have hrow:(Aq 17).map (·.plain)=some false:=by kernel_rfl
   obtain⟨RJ,hr1,hr2⟩:=Option.map_eq_some_iff.1 hrow
   unfold BI
   rw [hop,hr1]
   simp only [hr2,Bool.false_eq_true,if_false]
   rw [if_neg (by decide),if_neg (by decide),if_neg (by decide),if_neg (by decide),if_neg (by decide),if_neg (by decide),if_pos trivial,if_neg (by omega)])
 have hab:AX st=st.shape.extract o.base.size st.shape.size:=by unfold AX BU;rw [hop1];rfl
 have has:(AX st).size=st.shape.size-o.base.size:=DR st▸(by unfold BU;rw [hop1];rfl)
 have Pw:Hid (True):=AA (by
  trivial)
 obtain⟨b,bs',A,c,rfl,_,_,hbk,hlb,_⟩:=hk.head hop1
 have HT:=AA (fun n=>Kn hk hop1 (by omega) n)
 have hc18:=hk.blk.q 18 rfl
 have hcb:=hbk.q 4 rfl
 have hx0:(w.alloc (.cells #[.int .u8 (y.op.toNat:Int),.int .i64 y.a,v] 122)).cell? ⟨w.heap.size,0,none⟩=some (.int .u8 17):=by have:=b2.cell 0;rw [this,hop];rfl
 have hlt:=hk.blk.lt
 have hf:=hk.blk.frozen 18
 have htop:o.base.size≤st.shape.size:=by have:=h.top;unfold BU at this;rw [hop1] at this;exact this
 have hop2:=AA hop1
 have hlo:=h.Fq
 have q3:decide ((3:Int)≤((st.shape.size-o.base.size:Nat):Int))=true:=decide_eq_true (by omega)
 have HAB:=AA hab
 obtain⟨ab,vB⟩: ∃ab,ab=AX st:=⟨_,rfl⟩
 obtain⟨ly,PX⟩: ∃ly,ly=ab.extract (ab.size-2) (ab.size-1):=⟨_,rfl⟩
 obtain⟨po,hpo⟩: ∃po,po=ly++ly++wS:=⟨_,rfl⟩
 rw [←vB,←PX,←hpo] at HE
 rw [←vB] at HAB ha has
 have PE:ly.size=1:=by rw [PX,ByteArray.size_extract];omega
 have PY:po.size=3:=by rw [hpo,ByteArray.size_append,ByteArray.size_append,PE];rfl
 have hab3:=AA vB;have nW:=AA PX;have HPO:=AA hpo
 have hl1:ly.size≤1:=by omega
 have hp1:po.size≤3:=by omega
 have hle1:(0:Int)≤(ab.size:Int)-2:=by omega
 have hle2:((ab.size:Int)-2).toNat=ab.size-2:=by omega
 have hle3:((ab.size:Int)-1).toNat=ab.size-1:=by omega
 have vC:(0:Int)≤(ab.size:Int)-1:=by omega
 have hle5:(ab.size:Int)-2≤(ab.size:Int)-1:=by omega
 have hle6:(ab.size:Int)-1≤(ab.size:Int):=by omega
 have habz:ab.size≤256:=by omega
 clear h h1 hb b2 e0 e1 e2 e5 hop hk r0 r1 r2 r5 hop1 hdd hbk hab has ha vB PX hpo PE PY
 go_enter func168,ntmps168
 go_upto_region 1 with fail
 generalize w.alloc (.cells #[.int .u8 (y.op.toNat:Int),.int .i64 y.a,v] 122)=w1 at*
 go_quiet ((go_at_call 134;exact HT.out _))
 go_wp2_with fail
 rw [←HAB.out]
 refine(Bn 33 _).mono ?_
 rintro e w2 ⟨rfl,rfl⟩
 go_wp2_with fail
 rw [←nW.out,show ly++ly++ {data:= #[119]}=po from HPO.out.symm]
 have Gn:=AA (HB.out.trans (below_drewN (Below.refl _ _) nq))
 refine(Ia po _ ⟨_,_,_,_,HK.out.drewN _⟩ hop2.out (by omega) htop (by omega) (by omega)).mono ?_
 rintro e w3 ⟨hkp3,⟨h0,rfl,hk3⟩ | ⟨h0,rfl,hc3⟩⟩
 all_goals have hb3:=BZ hkp3 HK.out.low HR.out.Fq
 case inr=>
  have H0:=AA h0;clear h0
  go_wp2_with fail
  exact⟨rfl,.YX HE.out (Gn.out.trans hb3) H0.out hc3⟩
 have H0:=AA h0;clear h0
 have HB3:=AA (Gn.out.trans hb3)
 obtain⟨uS,uF,uO,us,hu⟩:=hk3
 have HU:=AA hu
 clear hu hkp3
 go_wp2_with fail
 refine(IQ (st.shape.extract 0 (st.shape.size-po.size)) ly (st.shape.size-po.size) (by rw [ByteArray.size_extract];omega) _ ⟨_,_,_,_,HU.out⟩ (by simp only [ByteArray.size_extract];omega) (by omega)).mono ?_
 rintro e w4 ⟨Le,⟨h1,rfl,hk4⟩ | ⟨h1,rfl,hc4⟩⟩
 all_goals have hb4:=BZ Le HK.out.low (Nat.le_trans HR.out.Fq hb3.size)
 ·go_wp2_with fail
  go_end0
  exact .done HE.out (HB3.out.trans hb4) H0.out h1 (by exact hk4)
 ·have H1:=AA h1;clear h1
  go_wp2_with fail
  exact⟨rfl,.aI HE.out (HB3.out.trans hb4) H0.out H1.out hc4⟩
end Go.Proofs.YtlagonfamllgjaaGreatDoor
