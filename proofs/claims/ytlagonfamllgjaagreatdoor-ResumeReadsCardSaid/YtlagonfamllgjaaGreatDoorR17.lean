/- Part 17 of the proof: VdD VdE VdG VdK -/
import Derived.WalkSpells
import Derived.Test.YtlagonfamllgjaaGreatDoorR16
namespace Go.Proofs.YtlagonfamllgjaaGreatDoor
set_option linter.unusedVariables false
set_option linter.unusedSimpArgs false
set_option maxRecDepth 100000
set_option maxHeartbeats 4000000
open Go.RowKit Tryz
structure zH (W:World) (hi:Nat) (x:Fx) (m:AP):Prop where
 rd:Db.R W 0 hi [x.m0,x.m1,x.m2,x.m3,x.m4,x.m5,x.m6,x.m7] m
theorem zH.below {W W':World} {hi lo:Nat} {x:Fx} {m:AP} (h:zH W hi x m) (hb:Below lo W W') (hlo:hi≤lo):zH W' hi x m:=⟨Rd.below h.rd hb hlo⟩
theorem zH.parts {W:World} {hi:Nat} {x:Fx} {m:AP} (h:zH W hi x m): ∃A0 c0 A1 c1 A2 c2 A5 c5,x.m0= .slice A0 m.types.length c0∧x.m1= .slice A1 m.hosts.length c1∧x.m2= .slice A2 m.globs.length c2∧x.m5= .slice A5 m.fns.length c5∧
 (Qk.sl false).R W 0 hi [.slice A0 m.types.length c0] m.types∧(Rd.i64.sl false).R W 0 hi [.slice A1 m.hosts.length c1] m.hosts∧(LZ.sl false).R W 0 hi [.slice A2 m.globs.length c2] m.globs∧(XA.sl false).R W 0 hi [.slice A5 m.fns.length c5] m.fns:=by
 obtain⟨v0,v1,v2,v3,v4,v5,e,h0,h1,h2,_,_,h5,_,_⟩:=Av.1 h.rd
 injection e with e0 e;injection e with e1 e;injection e with e2 e;injection e with e3 e;injection e with e4 e;injection e with e5 e
 obtain⟨A0,c0,rfl⟩:=AJ h0
 obtain⟨A1,c1,rfl⟩:=AJ h1
 obtain⟨A2,c2,rfl⟩:=AJ h2
 obtain⟨A5,c5,rfl⟩:=AJ h5
 exact⟨A0,c0,A1,c1,A2,c2,A5,c5,e0,e1,e2,e5,h0,h1,h2,h5⟩
theorem Kz (w:World) (y:Ad) (v:Value) {lo:Nat} (hlo:lo≤w.heap.size):Below lo w (w.alloc (.cells #[.int .u8 (y.op.toNat:Int),.int .i64 y.a,v] 122))∧AQ (w.alloc (.cells #[.int .u8 (y.op.toNat:Int),.int .i64 y.a,v] 122)) w.heap.size 122 [.int .u8 (y.op.toNat:Int),.int .i64 y.a,v]:=
 ⟨(Below.refl _ _).alloc hlo _,AQ.new w 122 _⟩
def Ag (m:AP) (f:Bt) (AB:List Int) (p:Nat) (st:Cm) (y:Ad) (w w':World) (lo g:Nat) (x:Fx) (e:Ending):Prop:=Below lo w w'∧match EA m f AB p st y with
 | .inl err=>e= .panicked (D6 err)∧MC w' g x p
 | .inr st'=>e= .returned (.tuple #[])∧ ∃s,Wk w' lo g x {st' with shape:=s} p∧(st'.dead=false→s=st'.shape)
structure Eff (m:AP) (f:Bt) (st:Cm) (y:Ad) (po pu:ByteArray):Prop where
 cl:Ah y.op=false
 op:BD y.op=false
 aw:DV y.op=false
 ef:BN m f st y=(po,pu,0)
 dd:st.dead=false
section
variable {m:AP} {f:Bt} {AB:List Int} {p:Nat} {st:Cm} {y:Ad} {w w':World} {lo g:Nat} {x:Fx} {po pu:ByteArray}
theorem Ag.fail {err:Int} (hcl:Ah y.op=false) (hb:Below lo w w') (he:(BN m f st y).2.2=err) (h0:err≠0) (hc:MC w' g x p):Ag m f AB p st y w w' lo g x (.panicked (D6 err)):=by
 refine⟨hb,?_⟩
 have:EA m f AB p st y= .inl err:=by unfold EA;rw [if_neg (by rw [hcl];decide),he,if_pos h0]
 rw [this]
 exact⟨rfl,hc⟩
theorem Ag.gD (E:Eff m f st y po pu) (hb:Below lo w w') (h0:Ab (ends (AV st) po) 33≠0) (hc:MC w' g x p):Ag m f AB p st y w w' lo g x (.panicked (D6 (Ab (ends (AV st) po) 33))):=by
 refine⟨hb,?_⟩
 have hf:ends (AV st) po=false:=by cases h:ends (AV st) po with | false=>rfl | true=>exact absurd (BQ h) h0
 have:EA m f AB p st y= .inl 33:=by unfold EA;rw [if_neg (by rw [E.cl];decide),E.ef];simp only [];rw [if_neg (by simp),if_pos hf]
 rw [this,Bw hf]
 exact⟨rfl,hc⟩
theorem Ag.gF (E:Eff m f st y po pu) (hb:Below lo w w') (h0:Ab (ends (AV st) po) 33=0) (h1:Ab (decide (st.shape.size-po.size+pu.size≤256)) 34≠0) (hc:MC w' g x p):
 Ag m f AB p st y w w' lo g x (.panicked (D6 (Ab (decide (st.shape.size-po.size+pu.size≤256)) 34))):=by
 refine⟨hb,?_⟩
 have ht:=BS (by decide) h0
 have hf:decide (st.shape.size-po.size+pu.size≤256)=false:=by
  cases h:decide (st.shape.size-po.size+pu.size≤256)with | false=>rfl | true=>exact absurd (BQ h) h1
 have hf':=of_decide_eq_false hf
 have:EA m f AB p st y= .inl 34:=by unfold EA;rw [if_neg (by rw [E.cl];decide),E.ef];simp only [];rw [if_neg (by simp),if_neg (by rw [ht];decide),if_pos (by omega)]
 rw [this,Bw hf]
 exact⟨rfl,hc⟩
theorem Ag.done (E:Eff m f st y po pu) (hb:Below lo w w') (h0:Ab (ends (AV st) po) 33=0) (h1:Ab (decide (st.shape.size-po.size+pu.size≤256)) 34=0)
 (hk:Wk w' lo g x {st with shape:=st.shape.extract 0 (st.shape.size-po.size)++pu} p):Ag m f AB p st y w w' lo g x (.returned (.tuple #[])):=by
 refine⟨hb,?_⟩
 have ht:=BS (by decide) h0
 have hf':=of_decide_eq_true (BS (by decide) h1)
 have:EA m f AB p st y= .inr {st with shape:=st.shape.extract 0 (st.shape.size-po.size)++pu}:=by
  unfold EA
  rw [if_neg (by rw [E.cl];decide),E.ef]
  simp only []
  rw [if_neg (by simp),if_neg (by rw [ht];decide),if_neg (by omega),E.op,E.aw]
  simp only [Bool.false_eq_true,if_false]
  rw [E.dd]
 rw [this]
 exact⟨rfl,_,hk,fun _=>rfl⟩
end
theorem JK (s0 s:ByteArray) (n:Nat) (hn:s0.size=n) {lo g:Nat} {x:Fx} {st:Cm} {pc:Int} (w:World) (h:Wk w lo g x {st with shape:=s0} pc) (hs:s0.size≤1000000) (hs2:s.size≤1000000):
 Calls prog 172 #[.pointer (some ⟨g,0,none⟩),.string s] w fun e w'=>ME w w' g x pc (Ab (decide (n+s.size≤256)) 34) e (Wk w' lo g x {st with shape:=s0++s} pc):=by
 subst hn
 exact fT s w h hs hs2
structure EM (m:AP) (f:Bt) (p:Nat) (st:Cm) (y:Ad) (lo hi g:Nat) (x:Fx) (w:World):Prop where
 wk:Wk w lo g x st p
 md:zH w hi x m
 hhi:hi≤lo
 LP:lo≤w.heap.size
 Yn:J7 m
 fok:XI m f
 ya: -9223372036854775808≤y.a∧y.a<9223372036854775808
 top:(Bg st).base.size≤st.shape.size
 ne: ∃o r,st.op=o::r∧r.length≤1000
 size:st.shape.size≤256
 loc:x.loc=C8 m f
 sr:x.sr=(CG m f.t).r
 fl:st.floors.length=p+1
 ops: ∀o∈st.op,o.base.size≤256∧o.s.p.size≤8∧o.s.r.size≤8
 ins:Aq y=0
theorem EM.boxed {m:AP} {f:Bt} {p:Nat} {st:Cm} {y:Ad} {lo hi g:Nat} {x:Fx} {w:World} (h:EM m f p st y lo hi g x w) (v:Value):
 Below lo w (w.alloc (.cells #[.int .u8 (y.op.toNat:Int),.int .i64 y.a,v] 122))∧EM m f p st y lo hi g x (w.alloc (.cells #[.int .u8 (y.op.toNat:Int),.int .i64 y.a,v] 122)):=by
 have hb:=(Kz w y v h.LP).1
 obtain⟨a,b,c,d,hk⟩:=h.wk
 exact⟨hb,⟨a,b,c,d,hk.below ((Below.refl _ _).alloc (Nat.le_refl _) _)⟩,h.md.below hb h.hhi,h.hhi,Nat.le_trans h.LP hb.size,h.Yn,h.fok,h.ya,h.top,h.ne,h.size,h.loc,h.sr,h.fl,h.ops,h.ins⟩
theorem EM.pre {m:AP} {f:Bt} {p:Nat} {st:Cm} {y:Ad} {lo hi g:Nat} {x:Fx} {w:World} (h:EM m f p st y lo hi g x w) (v:Value):∃A0 c0 A1 c1 A2 c2 A5 c5 vS vF vO bs,let W:=w.alloc (.cells #[.int .u8 (y.op.toNat:Int),.int .i64 y.a,v] 122);Below lo w W∧EM m f p st y lo hi g x W∧AQ W w.heap.size 122 [.int .u8 (y.op.toNat:Int),.int .i64 y.a,v]∧x.m0= .slice A0 m.types.length c0∧x.m1= .slice A1 m.hosts.length c1∧x.m2= .slice A2 m.globs.length c2∧x.m5= .slice A5 m.fns.length c5∧
 (Qk.sl false).R w 0 hi [.slice A0 m.types.length c0] m.types∧(Rd.i64.sl false).R w 0 hi [.slice A1 m.hosts.length c1] m.hosts∧(LZ.sl false).R w 0 hi [.slice A2 m.globs.length c2] m.globs∧(XA.sl false).R w 0 hi [.slice A5 m.fns.length c5] m.fns∧E5 W lo g x st p vS vF vO bs∧Hid (EM m f p st y lo hi g x W)∧Hid (Below lo w W)∧Hid (MC W g x p)∧Hid (E5 W lo g x st p vS vF vO bs)∧st.shape.size≤256:=by
 obtain⟨hb,h1⟩:=h.boxed v
 obtain⟨A0,c0,A1,c1,A2,c2,A5,c5,e0,e1,e2,e5,r0,r1,r2,r5⟩:=h.md.parts
 obtain⟨vS,vF,vO,bs,hk⟩:=h1.wk
 exact⟨A0,c0,A1,c1,A2,c2,A5,c5,vS,vF,vO,bs,hb,h1,(Kz w y v h.LP).2,e0,e1,e2,e5,r0,r1,r2,r5,hk,AA h1,AA hb,AA hk.Gu,AA hk,h.size⟩
theorem YC (v:Value) (y:Ad) {lo g hi:Nat} {x:Fx} {st:Cm} {m:AP} {f:Bt} {AB:List Int} {p:Nat} (w:World) (h:EM m f p st y lo hi g x w) (hi0:y.op.toNat=11∧Eo y.a m.fns.length=false∨y.op.toNat=12∧Eo y.a m.hosts.length=false) (he:(BN m f st y).2.2=30):
 Calls prog 167 #[.pointer (some ⟨g,0,none⟩),.agg #[.int .u8 (y.op.toNat:Int),.int .i64 y.a,v]] w fun e w'=>Ag m f AB p st y w w' lo g x e:=by
 have hcl:Ah y.op=false:=by unfold Ah;exact decide_eq_false (by omega)
 have HE:=AA he
 obtain⟨hb,h1⟩:=h.boxed v
 have b2:=(Kz w y v h.LP).2
 obtain⟨A0,c0,A1,c1,A2,c2,A5,c5,e0,e1,e2,e5,_,_,_,_⟩:=h.md.parts
 obtain⟨vS,vF,vO,bs,hk⟩:=h1.wk
 have hlen:m.fns.length≤1000000:=by have:=h.Yn.nf;omega
 have hlen':m.hosts.length≤1000000:=by have:=h.Yn.nh;omega
 have HR:=AA h1;have HB:=AA hb;have HC:=AA hk.Gu
 have hc5:(w.alloc (.cells #[.int .u8 (y.op.toNat:Int),.int .i64 y.a,v] 122)).cell? ⟨g,5,none⟩=some (.slice A5 m.fns.length c5):=by rw [←e5];exact hk.blk.cell 5
 have hc1:(w.alloc (.cells #[.int .u8 (y.op.toNat:Int),.int .i64 y.a,v] 122)).cell? ⟨g,1,none⟩=some (.slice A1 m.hosts.length c1):=by rw [←e1];exact hk.blk.cell 1
 have hx0:=b2.q 0 rfl
 have hx1:=b2.q 1 rfl
 rcases hi0 with⟨hop,hi0⟩ | ⟨hop,hi0⟩
 case' inl=>have g11:((y.op.toNat:Int)==11)=true:=by simp;omega
 case' inr=>have g11:((y.op.toNat:Int)==11)=false:=by simp;omega
 all_goals
  have hI:=AA hi0
  clear h h1 hb b2 e0 e1 e2 e5 hi0 hop hk he
  go_enter func167,ntmps167
  go_upto_region 1 with fail
  generalize w.alloc (.cells #[.int .u8 (y.op.toNat:Int),.int .i64 y.a,v] 122)=w1 at*
  first | (have _t:((y.op.toNat:Int)==11)=true:=g11;go_upto_region 3 with fail) | go_upto_region 4 with fail
  refine wp_region_held_drew (S:=fun W=>W.cell? ⟨g,5,none⟩=some (.slice A5 m.fns.length c5)∧W.cell? ⟨g,1,none⟩=some (.slice A1 m.hosts.length c1)∧W.cell? ⟨w.heap.size,1,none⟩=some (.int .i64 y.a)) (by kernel_rfl) ⟨hc5,hc1,hx1⟩ (fun hHeld=> ?_)
  refine AZ (i:=0) (v:= ?_) rfl (by kernel_rfl) (fun _ _ _ h=>h) rfl (by intro w hSw;(try dsimp only at hSw);go_simp;try with_reducible rfl) hHeld ?_
  refine AZ (i:=1) (v:= ?_) rfl (by kernel_rfl) (fun _ _ _ h=>h) rfl (by intro w hSw;(try dsimp only at hSw);go_simp;try with_reducible rfl) hHeld ?_
  refine AZ (i:=2) (v:= ?_) rfl (by kernel_rfl) (fun _ _ _ h=>h) rfl (by intro w hSw;(try dsimp only at hSw);go_simp;try with_reducible rfl) hHeld ?_
  refine AZ (i:=3) (v:= ?_) rfl (by kernel_rfl) (fun _ _ _ h=>h) rfl (by intro w hSw;(try dsimp only at hSw);go_simp;try with_reducible rfl) hHeld ?_
  refine AZ (i:=4) (v:= ?_) rfl (by kernel_rfl) (fun _ _ _ h=>h) rfl (by intro w hSw;(try dsimp only at hSw);go_simp;try with_reducible rfl) hHeld ?_
  refine AZ (i:=5) (v:= ?_) rfl (by kernel_rfl) (fun _ _ _ h=>h) rfl (by intro w hSw;(try dsimp only at hSw);go_simp;try with_reducible rfl) hHeld ?_
  refine AZ (i:=6) (v:= ?_) rfl (by kernel_rfl) (fun _ _ _ h=>h) rfl (by intro w hSw;(try dsimp only at hSw);go_simp;try with_reducible rfl) hHeld ?_
  refine AZ (i:=7) (v:= ?_) rfl (by kernel_rfl) (fun _ _ _ h=>h) rfl (by intro w hSw;(try dsimp only at hSw);go_simp;try with_reducible rfl) hHeld ?_
  refine AZ (i:=8) (v:= ?_) rfl (by kernel_rfl) (fun _ _ _ h=>h) rfl (by intro w hSw;(try dsimp only at hSw);go_simp;try with_reducible rfl) hHeld ?_
  refine AZ (i:=9) (v:= ?_) rfl (by kernel_rfl) (fun _ _ _ h=>h) rfl (by intro w hSw;(try dsimp only at hSw);go_simp;try with_reducible rfl) hHeld ?_
  refine AZ (i:=10) (v:= ?_) rfl (by kernel_rfl) (fun _ _ _ h=>h) rfl (by intro w hSw;(try dsimp only at hSw);go_simp;try with_reducible rfl) hHeld ?_
  refine AZ (i:=11) (v:= ?_) rfl (by kernel_rfl) (fun _ _ _ h=>h) rfl (by intro w hSw;(try dsimp only at hSw);go_simp;try with_reducible rfl) hHeld ?_
  refine AZ (i:=12) (v:= ?_) rfl (by kernel_rfl) (fun _ _ _ h=>h) rfl (by intro w hSw;(try dsimp only at hSw);go_simp;try with_reducible rfl) hHeld ?_
  refine wpAnyH_ready (rs:= [13]) (by kernel_rfl) (by simp) ?_
  refine AllReadyH.cons rfl (fun K hK=> ?_) AllReadyH.nil
  go_simp
  go_at_call 186
  refine(GR y.a _ HR.out.ya (by omega) _).mono ?_
  rintro e w2 ⟨rfl,⟨h0,rfl⟩ | ⟨h0,rfl⟩⟩
  ·rw [hI.out] at h0;cases h0
  go_wp2_with fail
  exact⟨rfl,.fail hcl (HB.out.trans (below_drewN (Below.refl _ _) 1)) HE.out (by decide) HC.out⟩
theorem WG (v:Value) (y:Ad) {lo g hi:Nat} {x:Fx} {st:Cm} {m:AP} {f:Bt} {AB:List Int} {p:Nat} (w:World) (h:EM m f p st y lo hi g x w) (hi0:y.op.toNat=11∧Eo y.a m.fns.length=true∨y.op.toNat=12∧Eo y.a m.hosts.length=true) (hdd:st.dead=false):
 Calls prog 167 #[.pointer (some ⟨g,0,none⟩),.agg #[.int .u8 (y.op.toNat:Int),.int .i64 y.a,v]] w fun e w'=>Ag m f AB p st y w w' lo g x e:=by
 obtain⟨hb,h1⟩:=h.boxed v
 have b2:=(Kz w y v h.LP).2
 obtain⟨A0,c0,A1,c1,A2,c2,A5,c5,e0,e1,e2,e5,r0,r1,r2,r5⟩:=h.md.parts
 obtain⟨o,rr,hop1,hrr⟩:=h.ne
 have key: ∃(k j L bf lS:Nat),y.a=k∧k<L∧L≤1000000∧Eo y.a L=true∧j<m.types.length∧Cn m y=some (CG m (j:Int))∧
  (((y.op.toNat:Int)==11)=true∧L=m.fns.length∧A5=some ⟨bf,lS,none⟩∧w.cell? ⟨bf,lS+k*3,none⟩=some (.int .i64 j)∨((y.op.toNat:Int)==11)=false∧L=m.hosts.length∧A1=some ⟨bf,lS,none⟩∧w.cell? ⟨bf,lS+k,none⟩=some (.int .i64 j)):=by
  rcases hi0 with⟨hop,hi0⟩ | ⟨hop,hi0⟩
  ·obtain⟨k,hya,hkl⟩:=Fw hi0
   obtain⟨fy,zI⟩: ∃fy,m.fns[k]?=some fy:=⟨_,List.getElem?_eq_getElem hkl⟩
   have hyt:=h.Yn.fns fy (List.mem_of_getElem? zI)
   obtain⟨bf,lS,Ac,cc,eA,_,hbf,hf0,_,_,_,_,_⟩:=FN r5 zI
   obtain⟨j,hj⟩:=Int.eq_ofNat_of_zero_le hyt.t0
   refine⟨k,j,_,bf,lS,hya,hkl,by have:=h.Yn.nf;omega,hi0,by have:=hyt.t1;omega,?_,.inl ⟨by simp;omega,rfl,eA,by rw [←hj];exact hf0⟩⟩
   unfold Cn
   rw [if_pos hop,if_pos hi0,hya,Nf zI,hj]
  ·obtain⟨k,hya,hkl⟩:=Fw hi0
   obtain⟨t,zI⟩: ∃t,m.hosts[k]?=some t:=⟨_,List.getElem?_eq_getElem hkl⟩
   have hyt:=h.Yn.host t (List.mem_of_getElem? zI)
   obtain⟨bf,lS,eA,_,hbf,cs,hcs,ecs,_⟩:=Dj r1 zI
   subst ecs
   obtain⟨j,hj⟩:=Int.eq_ofNat_of_zero_le hyt.1
   have hf0:w.cell? ⟨bf,lS+k*1+0,none⟩=some (.int .i64 j):=by rw [←hj];exact hcs 0 _ rfl
   rw [Nat.mul_one,Nat.add_zero] at hf0
   refine⟨k,j,_,bf,lS,hya,hkl,by have:=h.Yn.nh;omega,hi0,by have:=hyt.2;omega,?_,.inr ⟨by simp;omega,rfl,eA,hf0⟩⟩
   unfold Cn
   rw [if_neg (by omega),if_pos hop,if_pos hi0,hya,Int.toNat_natCast,zI,←hj]
   rfl
 obtain⟨k,j,L,bf,lS,hya,hkl,hlen,hiL,hjl,hty,KD⟩:=key
 obtain⟨ty,hjt⟩: ∃ty,m.types[j]?=some ty:=⟨_,List.getElem?_eq_getElem hjl⟩
 have JN:CG m (j:Int)=ty:=FI hjt
 rw [JN] at hty
 have htsz:=h.Yn.types ty (List.mem_of_getElem? hjt)
 have hE:Eff m f st y ty.p ty.r:=by
  refine⟨?_,?_,?_,?_,hdd⟩
  ·unfold Ah;exact decide_eq_false (by omega)
  ·unfold BD;exact decide_eq_false (by omega)
  ·unfold DV;exact decide_eq_false (by omega)
  ·have hrow:(Au y.op.toNat).map (·.plain)=some false:=by rcases hi0 with⟨hop,_⟩ | ⟨hop,_⟩<;>rw [hop]<;>kernel_rfl
   obtain⟨WH,hr1,hr2⟩:=Option.map_eq_some_iff.1 hrow
   unfold BN
   rw [hr1]
   rcases hi0 with⟨hop,_⟩ | ⟨hop,_⟩<;>(rw [hop];simp only [hr2,hty];rfl)
 have HE:=AA hE
 have hat:=fun(W:World) (hb:Below lo w W)=>DN (Rd.below r0 hb h.hhi) hjt
 obtain⟨bt,ot,X3,_,hbt,_,_,_,_⟩:=hat w (Below.refl _ _)
 subst X3
 have HAT:Hid (∀W,Below lo w W→W.cell? ⟨bt,ot+j*2,none⟩=some (.string ty.p)∧W.cell? ⟨bt,ot+j*2+1,none⟩=some (.string ty.r)):=AA (fun W hW=>by
  obtain⟨b',o',e',_,_,q0,q1,_,_⟩:=hat W hW
  injection e' with e';injection e' with eb eo _;subst eb eo
  exact⟨q0,q1⟩)
 obtain⟨vS,vF,vO,bs,hk⟩:=h1.wk
 have hc5:(w.alloc (.cells #[.int .u8 (y.op.toNat:Int),.int .i64 y.a,v] 122)).cell? ⟨g,5,none⟩=some (.slice A5 m.fns.length c5):=by rw [←e5];exact hk.blk.cell 5
 have hc1:(w.alloc (.cells #[.int .u8 (y.op.toNat:Int),.int .i64 y.a,v] 122)).cell? ⟨g,1,none⟩=some (.slice A1 m.hosts.length c1):=by rw [←e1];exact hk.blk.cell 1
 have hc0:(w.alloc (.cells #[.int .u8 (y.op.toNat:Int),.int .i64 y.a,v] 122)).cell? ⟨g,0,none⟩=some (.slice (some ⟨bt,ot,none⟩) m.types.length c0):=by rw [←e0];exact hk.blk.cell 0
 have hx0:=b2.q 0 rfl
 have hx1:(w.alloc (.cells #[.int .u8 (y.op.toNat:Int),.int .i64 y.a,v] 122)).cell? ⟨w.heap.size,1,none⟩=some (.int .i64 k):=by rw [←hya];exact b2.cell 1
 have hal: ∀b i u,w.cell? ⟨b,i,none⟩=some u→(w.alloc (.cells #[.int .u8 (y.op.toNat:Int),.int .i64 y.a,v] 122)).cell? ⟨b,i,none⟩=some u:=fun b i u hu=>by
  rw [←hu];exact World.cell?_alloc_some _ _ _ (by rw [hu];rfl)
 have ACq:=HAT.out _ hb
 have hq0:=ACq.1
 have hlt:m.types.length≤1000000:=by have:=h.Yn.nt;omega
 have Sj:=fun W=>GR (k:Int) L (by omega) (by omega) W
 have sG:Hid (∀W,Calls prog 186 #[.int .i64 k,.int .i64 L] W fun e w'=>W=w'∧e= .returned (.int .i64 k)):=AA (fun W=>(Sj W).mono fun e w' hh=>⟨hh.1,by
  rcases hh.2 with⟨_,he⟩ | ⟨h0,_⟩
  ·exact he
  ·rw [←hya,hiL] at h0;cases h0⟩)
 have HR:=AA h1;have HB:=AA hb;have HK:=AA hk
 have hkk:(0:Int)≤k:=by omega
 have zJ:(k:Int)<L:=by omega
 have hjj:(0:Int)≤j:=by omega
 have hjj2:(j:Int)<m.types.length:=by omega
 have hop2:=AA hop1
 have hsz:=h.size
 have htop:o.base.size≤st.shape.size:=by have:=h.top;unfold Bg at this;rw [hop1] at this;exact this
 clear h h1 hb b2 hi0 hk hE hat Sj r0 r1 r2 r5 hop1 hjt ACq hty JN hdd hya hiL hkl hjl
 rcases KD with⟨g11,rfl,rfl,hf0⟩ | ⟨g11,rfl,rfl,hf0⟩
 all_goals
  replace hf0:=hal _ _ _ hf0
  clear hal
  go_enter func167,ntmps167
  go_upto_region 1 with fail
  generalize w.alloc (.cells #[.int .u8 (y.op.toNat:Int),.int .i64 y.a,v] 122)=w1 at*
  first | (have _t:((y.op.toNat:Int)==11)=true:=g11;go_upto_region 3 with fail) | go_upto_region 4 with fail
  go_quiet ((go_at_call 186;first | exact Bj (sG.out _) | exact Bp (sG.out _)))
  go_wp2_with fail
  refine(Jc ty.p _ ⟨_,_,_,_,HK.out.drewN _⟩ hop2.out (by omega) htop (by omega) (by omega)).mono ?_
  rintro e w3 ⟨hkp3,⟨h0,rfl,hk3⟩ | ⟨h0,rfl,hc3⟩⟩
  all_goals have hb3:=Bu hkp3 HK.out.low (Nat.le_trans HR.out.LP (Nat.le_refl _))
  case inr=>
   have H0:=AA h0;clear h0
   go_wp2_with fail
   exact⟨rfl,.gD HE.out (HB.out.trans ((below_drewN (Below.refl _ _) _).trans hb3)) H0.out hc3⟩
  have H0:=AA h0
  have Zc:=HB.out.trans ((below_drewN (Below.refl _ _) _).trans hb3)
  have HB3:=AA Zc
  have ACr:=HAT.out _ Zc
  have hq3:=ACr.2
  obtain⟨uS,uF,uO,us,hu⟩:=hk3
  have hu0:w3.cell? ⟨g,0,none⟩=some (.slice (some ⟨bt,ot,none⟩) m.types.length c0):=by rw [←e0];exact hu.blk.cell 0
  have HU:=AA hu
  clear h0 Zc ACr hu
  go_wp2_with fail
  refine(JK (st.shape.extract 0 (st.shape.size-ty.p.size)) ty.r (st.shape.size-ty.p.size) (by rw [ByteArray.size_extract];omega) _ ⟨_,_,_,_,HU.out⟩ (by simp only [ByteArray.size_extract];omega) (by omega)).mono ?_
  rintro e w4 ⟨MI,⟨h1,rfl,hk4⟩ | ⟨h1,rfl,hc4⟩⟩
  all_goals have hb4:=Bu MI HU.out.low (Nat.le_trans HR.out.LP hb3.size)
  ·go_wp2_with fail
   go_end0
   exact .done HE.out (HB3.out.trans hb4) H0.out h1 hk4
  ·have H1:=AA h1;clear h1
   go_wp2_with fail
   exact⟨rfl,.gF HE.out (HB3.out.trans hb4) H0.out H1.out hc4⟩
theorem KU {w w':World} {g b i:Nat} (h:Keep (fun k=>k≠g) w w') (hb:b<w.heap.size) (hn:b≠g):w'.cell? ⟨b,i,none⟩=w.cell? ⟨b,i,none⟩:=by
 have:=h.block b hb hn
 simp [World.cell?,this]
theorem Sk (s:ByteArray):ends s Di=true:=by
 unfold ends Di
 simp
theorem bN (s:ByteArray):s.extract 0 (s.size-Di.size)=s:=by
 unfold Di
 simp
theorem WI (s:ByteArray):s++Di=s:=by
 unfold Di
 simp
theorem U0 {m:AP} {f:Bt} (h:XI m f):(C8 m f).size≤64:=by
 have:=h.loc
 unfold C8
 rw [ByteArray.size_append]
 omega
theorem WJ (v:Value) (y:Ad) {lo g hi:Nat} {x:Fx} {st:Cm} {m:AP} {f:Bt} {AB:List Int} {p:Nat} (w:World) (h:EM m f p st y lo hi g x w) (hop:y.op.toNat=18∨y.op.toNat=19∨y.op.toNat=20) (hi0:Eo y.a (C8 m f).size=false):
 Calls prog 169 #[.pointer (some ⟨g,0,none⟩),.agg #[.int .u8 (y.op.toNat:Int),.int .i64 y.a,v]] w fun e w'=>Ag m f AB p st y w w' lo g x e:=by
 have hcl:Ah y.op=false:=by unfold Ah;exact decide_eq_false (by omega)
 obtain⟨A0,c0,A1,c1,A2,c2,A5,c5,vS,vF,vO,bs,hb,h1,b2,e0,e1,e2,e5,r0,r1,r2,r5,hk,HR,HB,HC,HK,hsz⟩:=h.pre v
 have hI:=AA hi0
 have HE:Hid ((BN m f st y).2.2=30):=AA (by
  have hrow:(Au y.op.toNat).map (·.plain)=some false:=by rcases hop with hop | hop | hop<;>rw [hop]<;>kernel_rfl
  obtain⟨WH,hr1,hr2⟩:=Option.map_eq_some_iff.1 hrow
  unfold BN Bf
  rw [hr1]
  rcases hop with hop | hop | hop<;>simp [hop,hr2,hi0])
 have hlen:=U0 h.fok
 have ACs:(w.alloc (.cells #[.int .u8 (y.op.toNat:Int),.int .i64 y.a,v] 122)).cell? ⟨g,10,none⟩=some (.string (C8 m f)):=by rw [←h.loc];exact hk.blk.cell 10
 have hx0:=b2.q 0 rfl
 have hx1:=b2.q 1 rfl
 have g21:((y.op.toNat:Int)==21)=false:=by simp;omega
 have g22:((y.op.toNat:Int)==22)=false:=by simp;omega
 clear h h1 hb b2 e0 e1 e2 e5 hi0 hop hk r0 r1 r2 r5
 go_enter func169,ntmps169
 go_upto_region 1 with fail
 generalize w.alloc (.cells #[.int .u8 (y.op.toNat:Int),.int .i64 y.a,v] 122)=w1 at*
 go_upto_region 6 with fail
 refine wp_region_held_drew (S:=fun W=>W.cell? ⟨g,10,none⟩=some (.string (C8 m f))∧W.cell? ⟨w.heap.size,1,none⟩=some (.int .i64 y.a)) (by kernel_rfl) ⟨ACs,hx1⟩ (fun hHeld=> ?_)
 refine AZ (i:=0) (v:= ?_) rfl (by kernel_rfl) (fun _ _ _ h=>h) rfl (by intro w hSw;(try dsimp only at hSw);go_simp;try with_reducible rfl) hHeld ?_
 refine AZ (i:=1) (v:= ?_) rfl (by kernel_rfl) (fun _ _ _ h=>h) rfl (by intro w hSw;(try dsimp only at hSw);go_simp;try with_reducible rfl) hHeld ?_
 refine AZ (i:=2) (v:= ?_) rfl (by kernel_rfl) (fun _ _ _ h=>h) rfl (by intro w hSw;(try dsimp only at hSw);go_simp;try with_reducible rfl) hHeld ?_
 refine AZ (i:=3) (v:= ?_) rfl (by kernel_rfl) (fun _ _ _ h=>h) rfl (by intro w hSw;(try dsimp only at hSw);go_simp;try with_reducible rfl) hHeld ?_
 refine AZ (i:=4) (v:= ?_) rfl (by kernel_rfl) (fun _ _ _ h=>h) rfl (by intro w hSw;(try dsimp only at hSw);go_simp;try with_reducible rfl) hHeld ?_
 refine AZ (i:=5) (v:= ?_) rfl (by kernel_rfl) (fun _ _ _ h=>h) rfl (by intro w hSw;(try dsimp only at hSw);go_simp;try with_reducible rfl) hHeld ?_
 refine AZ (i:=6) (v:= ?_) rfl (by kernel_rfl) (fun _ _ _ h=>h) rfl (by intro w hSw;(try dsimp only at hSw);go_simp;try with_reducible rfl) hHeld ?_
 refine wpAnyH_ready (rs:= [7]) (by kernel_rfl) (by simp) ?_
 refine AllReadyH.cons rfl (fun K hK=> ?_) AllReadyH.nil
 go_simp
 go_at_call 186
 refine(GR y.a (C8 m f).size HR.out.ya (by omega) _).mono ?_
 rintro e w2 ⟨rfl,⟨h0,rfl⟩ | ⟨h0,rfl⟩⟩
 ·rw [hI.out] at h0;cases h0
 go_wp2_with fail
 exact⟨rfl,.fail hcl (HB.out.trans (below_drewN (Below.refl _ _) 1)) HE.out (by decide) HC.out⟩
theorem Tt (v:Value) (y:Ad) {lo g hi:Nat} {x:Fx} {st:Cm} {m:AP} {f:Bt} {AB:List Int} {p:Nat} (w:World) (h:EM m f p st y lo hi g x w) (hop:y.op.toNat=18∨y.op.toNat=19∨y.op.toNat=20) (hi0:Eo y.a (C8 m f).size=true) (hdd:st.dead=false):
 Calls prog 169 #[.pointer (some ⟨g,0,none⟩),.agg #[.int .u8 (y.op.toNat:Int),.int .i64 y.a,v]] w fun e w'=>Ag m f AB p st y w w' lo g x e:=by
 have hcl:Ah y.op=false:=by unfold Ah;exact decide_eq_false (by omega)
 obtain⟨A0,c0,A1,c1,A2,c2,A5,c5,vS,vF,vO,bs,hb,h1,b2,e0,e1,e2,e5,r0,r1,r2,r5,hk,HR,HB,HC,HK,hsz⟩:=h.pre v
 obtain⟨o,rr,hop1,hrr⟩:=h.ne
 obtain⟨k,hya,hkl⟩:=Fw hi0
 have hlen:=U0 h.fok
 obtain⟨ly,Zm⟩: ∃ly,ly=(C8 m f).extract k (k+1):=⟨_,rfl⟩
 have SL:ly.size≤1:=by rw [Zm,ByteArray.size_extract];omega
 obtain⟨po,pu,hpp⟩: ∃po pu,y.op.toNat=18∧Di=po∧ly=pu∨ly=po∧(y.op.toNat=19∧Di=pu∨y.op.toNat=20∧ly=pu):=by
  rcases hop with hop | hop | hop
  ·exact⟨_,_,.inl ⟨hop,rfl,rfl⟩⟩
  ·exact⟨_,_,.inr ⟨rfl,.inl ⟨hop,rfl⟩⟩⟩
  ·exact⟨_,_,.inr ⟨rfl,.inr ⟨hop,rfl⟩⟩⟩
 have Yl:=AA hpp
 have HE:Hid (Eff m f st y po pu):=AA (by
  refine⟨hcl,?_,?_,?_,hdd⟩
  ·unfold BD;exact decide_eq_false (by omega)
  ·unfold DV;exact decide_eq_false (by omega)
  ·have hrow:(Au y.op.toNat).map (·.plain)=some false:=by rcases hop with hop | hop | hop<;>rw [hop]<;>kernel_rfl
   obtain⟨WH,hr1,hr2⟩:=Option.map_eq_some_iff.1 hrow
   unfold BN Bf
   rw [hr1]
   rw [hya] at hi0
   rcases hpp with⟨hop,rfl,rfl⟩ | ⟨rfl,⟨hop,rfl⟩ | ⟨hop,rfl⟩⟩<;>simp [hop,hr2,hi0,Zm,hya])
 have Sj:=fun W=>GR (k:Int) (C8 m f).size (by omega) (by omega) W
 have sG:Hid (∀W,Calls prog 186 #[.int .i64 k,.int .i64 (C8 m f).size] W fun e w'=>W=w'∧e= .returned (.int .i64 k)):=AA (fun W=>(Sj W).mono fun e w' hh=>⟨hh.1,by
  rcases hh.2 with⟨_,he⟩ | ⟨h0,_⟩
  ·exact he
  ·rw [←hya,hi0] at h0;cases h0⟩)
 have ACs:(w.alloc (.cells #[.int .u8 (y.op.toNat:Int),.int .i64 y.a,v] 122)).cell? ⟨g,10,none⟩=some (.string (C8 m f)):=by rw [←h.loc];exact hk.blk.cell 10
 have hx0:=b2.q 0 rfl
 have hx1:(w.alloc (.cells #[.int .u8 (y.op.toNat:Int),.int .i64 y.a,v] 122)).cell? ⟨w.heap.size,1,none⟩=some (.int .i64 k):=by rw [←hya];exact b2.cell 1
 have hkk:(0:Int)≤k:=by omega
 have zJ:(k:Int)<(C8 m f).size:=by omega
 have hkk3:(k:Int)+1≤(C8 m f).size:=by omega
 have hop2:=AA hop1
 have htop:o.base.size≤st.shape.size:=by have:=h.top;unfold Bg at this;rw [hop1] at this;exact this
 have hbl:w.heap.size<lo∨lo≤w.heap.size:=by omega
 have zK:=AA Zm
 have hlo:=h.LP
 have zL:Hid (g<w.heap.size):=AA (by
  obtain⟨_,_,_,_,h9⟩:=h.wk
  exact h9.blk.lt)
 have g21:((y.op.toNat:Int)==21)=false:=by simp;omega
 have g22:((y.op.toNat:Int)==22)=false:=by simp;omega
 have n21:((y.op.toNat:Int) !=21)=true:=by simp;omega
 have n22:((y.op.toNat:Int) !=22)=true:=by simp;omega
 clear hpp h h1 hb b2 e0 e1 e2 e5 hi0 hop hk r0 r1 r2 r5 Sj hya hop1 hdd Zm
 go_enter func169,ntmps169
 go_upto_region 1 with fail
 generalize hw1:w.alloc (.cells #[.int .u8 (y.op.toNat:Int),.int .i64 y.a,v] 122)=w1 at*
 have hgw:w.heap.size≠g:=by have:=zL.out;omega
 have hwl:w.heap.size<w1.heap.size:=by rw [←hw1];simp
 clear hw1
 go_upto_region 6 with fail
 go_quiet ((go_at_call 186;first | exact Bj (sG.out _) | exact Bp (sG.out _)))
 have FQ:=AA (HB.out.trans (below_drewN (Below.refl _ _) nq))
 rcases Yl.out with⟨hT,rfl,rfl⟩ | ⟨rfl,hT⟩
 ·have g18:((y.op.toNat:Int) !=18)=false:=by simp;omega
  have g19:((y.op.toNat:Int) !=19)=true:=by simp;omega
  clear Yl hT
  go_wp2_with fail
  rw [←zK.out]
  have H0:=AA (BQ (e:=33) (Sk (AV st)))
  have HB3:=FQ
  refine(JK st.shape ly (st.shape.size-Di.size) (by rfl) _ ⟨_,_,_,_,HK.out.drewN _⟩ (by omega) (by omega)).mono ?_
  rintro e w4 ⟨MI,⟨h1,rfl,hk4⟩ | ⟨h1,rfl,hc4⟩⟩
  all_goals have hb4:=Bu MI HK.out.low (Nat.le_trans HR.out.LP (Nat.le_refl _))
  ·go_wp2_with fail
   go_end0
   exact .done HE.out (HB3.out.trans hb4) H0.out h1 (by rw [bN];exact hk4)
  ·have H1:=AA h1;clear h1
   go_wp2_with fail
   exact⟨rfl,.gF HE.out (HB3.out.trans hb4) H0.out H1.out hc4⟩
 have g18:((y.op.toNat:Int) !=18)=true:=by simp;omega
 have HTT:=AA hT
 clear hT Yl
 go_wp2_with fail
 rw [←zK.out]
 refine(Jc ly _ ⟨_,_,_,_,HK.out.drewN _⟩ hop2.out (by omega) htop (by omega) (by omega)).mono ?_
 rintro e w3 ⟨hkp3,⟨h0,rfl,hk3⟩ | ⟨h0,rfl,hc3⟩⟩
 all_goals have hb3:=Bu hkp3 HK.out.low HR.out.LP
 case inr=>
  have H0:=AA h0;clear h0
  go_wp2_with fail
  exact⟨rfl,.gD HE.out (FQ.out.trans hb3) H0.out hc3⟩
 have H0:=AA h0;clear h0
 have HB3:=AA (FQ.out.trans hb3)
 obtain⟨uS,uF,uO,us,hu⟩:=hk3
 have HU:=AA hu
 have hx3:w3.cell? ⟨w.heap.size,0,none⟩=some (.int .u8 (y.op.toNat:Int)):=(KU hkp3 hwl hgw).trans hx0
 clear hu hkp3
 rcases HTT.out with⟨hT,rfl⟩ | ⟨hT,rfl⟩
 ·have g19:((y.op.toNat:Int) !=19)=false:=by simp;omega
  clear HTT hT
  go_wp2_with fail
  go_end0
  exact .done HE.out HB3.out H0.out (BQ (decide_eq_true (by show _+0≤256;omega))) (by rw [WI];exact⟨_,_,_,_,HU.out⟩)
 have g19:((y.op.toNat:Int) !=19)=true:=by simp;omega
 clear HTT hT
 go_wp2_with fail
 refine(JK (st.shape.extract 0 (st.shape.size-ly.size)) ly (st.shape.size-ly.size) (by rw [ByteArray.size_extract];omega) _ ⟨_,_,_,_,HU.out⟩ (by simp only [ByteArray.size_extract];omega) (by omega)).mono ?_
 rintro e w4 ⟨MI,⟨h1,rfl,hk4⟩ | ⟨h1,rfl,hc4⟩⟩
 all_goals have hb4:=Bu MI HK.out.low (Nat.le_trans HR.out.LP hb3.size)
 ·go_wp2_with fail
  go_end0
  exact .done HE.out (HB3.out.trans hb4) H0.out h1 (by exact hk4)
 ·have H1:=AA h1;clear h1
  go_wp2_with fail
  exact⟨rfl,.gF HE.out (HB3.out.trans hb4) H0.out H1.out hc4⟩
theorem Ag.f33 {m:AP} {f:Bt} {AB:List Int} {p:Nat} {st:Cm} {y:Ad} {w w':World} {lo g:Nat} {x:Fx} {po pu:ByteArray} (E:Eff m f st y po pu) (hb:Below lo w w') (h0:ends (AV st) po=false) (hc:MC w' g x p):
 Ag m f AB p st y w w' lo g x (.panicked (D6 33)):=by
 have:=Ag.gD (AB:=AB) (x:=x) (lo:=lo) E hb (by rw [Bw h0];decide) hc
 rw [Bw h0] at this
 exact this
theorem Ag.good {m:AP} {f:Bt} {AB:List Int} {p:Nat} {st:Cm} {y:Ad} {w w':World} {lo g:Nat} {x:Fx} {po pu:ByteArray} (E:Eff m f st y po pu) (hb:Below lo w w') (h0:ends (AV st) po=true) (h1:st.shape.size-po.size+pu.size≤256)
 (hk:Wk w' lo g x {st with shape:=st.shape.extract 0 (st.shape.size-po.size)++pu} p):Ag m f AB p st y w w' lo g x (.returned (.tuple #[])):=
 .done E hb (BQ h0) (BQ (decide_eq_true h1)) hk
theorem Sl {s t:ByteArray} (h:s.size<t.size):ends s t=false:=by
 unfold ends
 rw [decide_eq_false (by omega)];rfl
theorem gG (s:ByteArray) (n:Nat) (h:n≤s.size):ends s (s.extract (s.size-n) s.size)=true:=by
 have hs:(s.extract (s.size-n) s.size).size=n:=by rw [ByteArray.size_extract];omega
 unfold ends
 rw [hs,decide_eq_true h]
 simp
theorem Tw (v:Value) (y:Ad) {lo g hi:Nat} {x:Fx} {st:Cm} {m:AP} {f:Bt} {AB:List Int} {p:Nat} (w:World) (h:EM m f p st y lo hi g x w) (hop:y.op.toNat=16) (hdd:st.dead=false) (ha: ¬1≤(AV st).size):
 Calls prog 168 #[.pointer (some ⟨g,0,none⟩),.agg #[.int .u8 (y.op.toNat:Int),.int .i64 y.a,v]] w fun e w'=>Ag m f AB p st y w w' lo g x e:=by
 have hcl:Ah y.op=false:=by unfold Ah;exact decide_eq_false (by omega)
 obtain⟨A0,c0,A1,c1,A2,c2,A5,c5,vS,vF,vO,bs,hb,h1,b2,e0,e1,e2,e5,r0,r1,r2,r5,hk,HR,HB,HC,HK,hsz⟩:=h.pre v
 obtain⟨o,rr,hop1,hrr⟩:=h.ne
 have HE:Hid (Eff m f st y wS Di):=AA (by
  refine⟨hcl,?_,?_,?_,hdd⟩
  ·unfold BD;exact decide_eq_false (by omega)
  ·unfold DV;exact decide_eq_false (by omega)
  ·have hrow:(Au 16).map (·.plain)=some false:=by kernel_rfl
   obtain⟨WH,hr1,hr2⟩:=Option.map_eq_some_iff.1 hrow
   unfold BN
   rw [hop,hr1]
   simp only [hr2,Bool.false_eq_true,if_false]
   rw [if_neg (by decide),if_neg (by decide),if_neg (by decide),if_neg (by decide),if_neg (by decide),if_pos trivial,if_pos (by omega)])
 have hab:AV st=st.shape.extract o.base.size st.shape.size:=by unfold AV Bg;rw [hop1];rfl
 have has:(AV st).size=st.shape.size-o.base.size:=C_ st▸(by unfold Bg;rw [hop1];rfl)
 have OA:Hid (ends (AV st) wS=false):=AA (by
  exact Sl (by show _<1;omega))
 obtain⟨b,bs',A,c,rfl,_,_,hbk,hlb,_⟩:=hk.head hop1
 have HT:=AA (fun n=>KO hk hop1 (by omega) n)
 have hc18:=hk.blk.q 18 rfl
 have hcb:=hbk.q 4 rfl
 have hx0:(w.alloc (.cells #[.int .u8 (y.op.toNat:Int),.int .i64 y.a,v] 122)).cell? ⟨w.heap.size,0,none⟩=some (.int .u8 16):=by have:=b2.cell 0;rw [this,hop];rfl
 have hlt:=hk.blk.lt
 have hf:=hk.blk.frozen 18
 have htop:o.base.size≤st.shape.size:=by have:=h.top;unfold Bg at this;rw [hop1] at this;exact this
 have hop2:=AA hop1
 have hlo:=h.LP
 have hem:(st.shape.extract o.base.size st.shape.size).toList.isEmpty=true:=by
  rw [ByteArray.toList_eq,←hab,List.isEmpty_iff_length_eq_zero]
  have:(AV st).data.toList.length=(AV st).size:=by simp
  omega
 clear h h1 hb b2 e0 e1 e2 e5 hop hk r0 r1 r2 r5 hop1 hdd hbk hab has ha
 go_enter func168,ntmps168
 go_upto_region 1 with fail
 generalize w.alloc (.cells #[.int .u8 (y.op.toNat:Int),.int .i64 y.a,v] 122)=w1 at*
 go_quiet ((go_at_call 134;exact HT.out _))
 go_wp2_with fail
 refine(DI 33 _).mono ?_
 rintro e w2 ⟨rfl,rfl⟩
 go_wp2_with fail
 exact⟨rfl,.f33 HE.out (HB.out.trans (below_drewN (Below.refl _ _) _)) OA.out HC.out⟩
theorem Sm (v:Value) (y:Ad) {lo g hi:Nat} {x:Fx} {st:Cm} {m:AP} {f:Bt} {AB:List Int} {p:Nat} (w:World) (h:EM m f p st y lo hi g x w) (hop:y.op.toNat=16) (hdd:st.dead=false) (ha:1≤(AV st).size):
 Calls prog 168 #[.pointer (some ⟨g,0,none⟩),.agg #[.int .u8 (y.op.toNat:Int),.int .i64 y.a,v]] w fun e w'=>Ag m f AB p st y w w' lo g x e:=by
 have hcl:Ah y.op=false:=by unfold Ah;exact decide_eq_false (by omega)
 obtain⟨A0,c0,A1,c1,A2,c2,A5,c5,vS,vF,vO,bs,hb,h1,b2,e0,e1,e2,e5,r0,r1,r2,r5,hk,HR,HB,HC,HK,hsz⟩:=h.pre v
 obtain⟨o,rr,hop1,hrr⟩:=h.ne
 have HE:Hid (Eff m f st y ((AV st).extract ((AV st).size-1) (AV st).size) Di):=AA (by
  refine⟨hcl,?_,?_,?_,hdd⟩
  ·unfold BD;exact decide_eq_false (by omega)
  ·unfold DV;exact decide_eq_false (by omega)
  ·have hrow:(Au 16).map (·.plain)=some false:=by kernel_rfl
   obtain⟨WH,hr1,hr2⟩:=Option.map_eq_some_iff.1 hrow
   unfold BN
   rw [hop,hr1]
   simp only [hr2,Bool.false_eq_true,if_false]
   rw [if_neg (by decide),if_neg (by decide),if_neg (by decide),if_neg (by decide),if_neg (by decide),if_pos trivial,if_neg (by omega)])
 have hab:AV st=st.shape.extract o.base.size st.shape.size:=by unfold AV Bg;rw [hop1];rfl
 have has:(AV st).size=st.shape.size-o.base.size:=C_ st▸(by unfold Bg;rw [hop1];rfl)
 have OA:Hid (ends (AV st) ((AV st).extract ((AV st).size-1) (AV st).size)=true∧((AV st).extract ((AV st).size-1) (AV st).size).size=1):=AA (by
  exact⟨gG _ 1 ha,by rw [ByteArray.size_extract];omega⟩)
 obtain⟨b,bs',A,c,rfl,_,_,hbk,hlb,_⟩:=hk.head hop1
 have HT:=AA (fun n=>KO hk hop1 (by omega) n)
 have hc18:=hk.blk.q 18 rfl
 have hcb:=hbk.q 4 rfl
 have hx0:(w.alloc (.cells #[.int .u8 (y.op.toNat:Int),.int .i64 y.a,v] 122)).cell? ⟨w.heap.size,0,none⟩=some (.int .u8 16):=by have:=b2.cell 0;rw [this,hop];rfl
 have hlt:=hk.blk.lt
 have hf:=hk.blk.frozen 18
 have htop:o.base.size≤st.shape.size:=by have:=h.top;unfold Bg at this;rw [hop1] at this;exact this
 have hop2:=AA hop1
 have hlo:=h.LP
 have hem:(st.shape.extract o.base.size st.shape.size).toList.isEmpty=false:=by
  rw [ByteArray.toList_eq,←hab,List.isEmpty_eq_false_iff]
  intro e0
  have:(AV st).data.toList.length=(AV st).size:=by simp
  rw [e0] at this
  simp at this
  omega
 have hs1:1≤st.shape.size:=by omega
 have hle1:(0:Int)≤(st.shape.size:Int)-1:=by omega
 have hle2:((st.shape.size:Int)-1).toNat=st.shape.size-1:=by omega
 clear h h1 hb b2 e0 e1 e2 e5 hop hk r0 r1 r2 r5 hop1 hdd hbk hab has ha
 go_enter func168,ntmps168
 go_upto_region 1 with fail
 generalize w.alloc (.cells #[.int .u8 (y.op.toNat:Int),.int .i64 y.a,v] 122)=w1 at*
 go_quiet ((go_at_call 134;exact HT.out _))
 go_wp2_with fail
 refine(BX 33 _).mono ?_
 rintro e w2 ⟨rfl,rfl⟩
 go_wp2_with fail
 go_region
 all_goals
  go_wp2_with fail
  refine bodyPost_ret (results_none rfl _ _ _) rfl ?_
  have h2:=(HK.out.drewN (nq+1)).shape (st.shape.extract 0 (st.shape.size-1))
  exact .good HE.out (HB.out.trans ((below_drewN (Below.refl _ _) (nq+1)).trans h2.1)) OA.out.1 (by rw [OA.out.2];show st.shape.size-1+0≤256;omega) (by rw [WI,OA.out.2];exact⟨_,_,_,_,h2.2⟩)
theorem Tx (v:Value) (y:Ad) {lo g hi:Nat} {x:Fx} {st:Cm} {m:AP} {f:Bt} {AB:List Int} {p:Nat} (w:World) (h:EM m f p st y lo hi g x w) (hop:y.op.toNat=17) (hdd:st.dead=false) (ha: ¬3≤(AV st).size):
 Calls prog 168 #[.pointer (some ⟨g,0,none⟩),.agg #[.int .u8 (y.op.toNat:Int),.int .i64 y.a,v]] w fun e w'=>Ag m f AB p st y w w' lo g x e:=by
 have hcl:Ah y.op=false:=by unfold Ah;exact decide_eq_false (by omega)
 obtain⟨A0,c0,A1,c1,A2,c2,A5,c5,vS,vF,vO,bs,hb,h1,b2,e0,e1,e2,e5,r0,r1,r2,r5,hk,HR,HB,HC,HK,hsz⟩:=h.pre v
 obtain⟨o,rr,hop1,hrr⟩:=h.ne
 have HE:Hid (Eff m f st y ⟨#[119,119,119]⟩ wS):=AA (by
  refine⟨hcl,?_,?_,?_,hdd⟩
  ·unfold BD;exact decide_eq_false (by omega)
  ·unfold DV;exact decide_eq_false (by omega)
  ·have hrow:(Au 17).map (·.plain)=some false:=by kernel_rfl
   obtain⟨WH,hr1,hr2⟩:=Option.map_eq_some_iff.1 hrow
   unfold BN
   rw [hop,hr1]
   simp only [hr2,Bool.false_eq_true,if_false]
   rw [if_neg (by decide),if_neg (by decide),if_neg (by decide),if_neg (by decide),if_neg (by decide),if_neg (by decide),if_pos trivial,if_pos (by omega)])
 have hab:AV st=st.shape.extract o.base.size st.shape.size:=by unfold AV Bg;rw [hop1];rfl
 have has:(AV st).size=st.shape.size-o.base.size:=C_ st▸(by unfold Bg;rw [hop1];rfl)
 have OA:Hid (ends (AV st) ⟨#[119,119,119]⟩=false):=AA (by
  exact Sl (by show _<3;omega))
 obtain⟨b,bs',A,c,rfl,_,_,hbk,hlb,_⟩:=hk.head hop1
 have HT:=AA (fun n=>KO hk hop1 (by omega) n)
 have hc18:=hk.blk.q 18 rfl
 have hcb:=hbk.q 4 rfl
 have hx0:(w.alloc (.cells #[.int .u8 (y.op.toNat:Int),.int .i64 y.a,v] 122)).cell? ⟨w.heap.size,0,none⟩=some (.int .u8 17):=by have:=b2.cell 0;rw [this,hop];rfl
 have hlt:=hk.blk.lt
 have hf:=hk.blk.frozen 18
 have htop:o.base.size≤st.shape.size:=by have:=h.top;unfold Bg at this;rw [hop1] at this;exact this
 have hop2:=AA hop1
 have hlo:=h.LP
 have q3:decide ((3:Int)≤((st.shape.size-o.base.size:Nat):Int))=false:=decide_eq_false (by omega)
 clear h h1 hb b2 e0 e1 e2 e5 hop hk r0 r1 r2 r5 hop1 hdd hbk hab has ha
 go_enter func168,ntmps168
 go_upto_region 1 with fail
 generalize w.alloc (.cells #[.int .u8 (y.op.toNat:Int),.int .i64 y.a,v] 122)=w1 at*
 go_quiet ((go_at_call 134;exact HT.out _))
 go_wp2_with fail
 refine(DI 33 _).mono ?_
 rintro e w2 ⟨rfl,rfl⟩
 go_wp2_with fail
 exact⟨rfl,.f33 HE.out (HB.out.trans (below_drewN (Below.refl _ _) _)) OA.out HC.out⟩
theorem Sn (v:Value) (y:Ad) {lo g hi:Nat} {x:Fx} {st:Cm} {m:AP} {f:Bt} {AB:List Int} {p:Nat} (w:World) (h:EM m f p st y lo hi g x w) (hop:y.op.toNat=17) (hdd:st.dead=false) (ha:3≤(AV st).size):
 Calls prog 168 #[.pointer (some ⟨g,0,none⟩),.agg #[.int .u8 (y.op.toNat:Int),.int .i64 y.a,v]] w fun e w'=>Ag m f AB p st y w w' lo g x e:=by
 have hcl:Ah y.op=false:=by unfold Ah;exact decide_eq_false (by omega)
 obtain⟨A0,c0,A1,c1,A2,c2,A5,c5,vS,vF,vO,bs,hb,h1,b2,e0,e1,e2,e5,r0,r1,r2,r5,hk,HR,HB,HC,HK,hsz⟩:=h.pre v
 obtain⟨o,rr,hop1,hrr⟩:=h.ne
 have HE:Hid (Eff m f st y ((AV st).extract ((AV st).size-2) ((AV st).size-1)++(AV st).extract ((AV st).size-2) ((AV st).size-1)++wS) ((AV st).extract ((AV st).size-2) ((AV st).size-1))):=AA (by
  refine⟨hcl,?_,?_,?_,hdd⟩
  ·unfold BD;exact decide_eq_false (by omega)
  ·unfold DV;exact decide_eq_false (by omega)
  ·have hrow:(Au 17).map (·.plain)=some false:=by kernel_rfl
   obtain⟨WH,hr1,hr2⟩:=Option.map_eq_some_iff.1 hrow
   unfold BN
   rw [hop,hr1]
   simp only [hr2,Bool.false_eq_true,if_false]
   rw [if_neg (by decide),if_neg (by decide),if_neg (by decide),if_neg (by decide),if_neg (by decide),if_neg (by decide),if_pos trivial,if_neg (by omega)])
 have hab:AV st=st.shape.extract o.base.size st.shape.size:=by unfold AV Bg;rw [hop1];rfl
 have has:(AV st).size=st.shape.size-o.base.size:=C_ st▸(by unfold Bg;rw [hop1];rfl)
 have OA:Hid (True):=AA (by
  trivial)
 obtain⟨b,bs',A,c,rfl,_,_,hbk,hlb,_⟩:=hk.head hop1
 have HT:=AA (fun n=>KO hk hop1 (by omega) n)
 have hc18:=hk.blk.q 18 rfl
 have hcb:=hbk.q 4 rfl
 have hx0:(w.alloc (.cells #[.int .u8 (y.op.toNat:Int),.int .i64 y.a,v] 122)).cell? ⟨w.heap.size,0,none⟩=some (.int .u8 17):=by have:=b2.cell 0;rw [this,hop];rfl
 have hlt:=hk.blk.lt
 have hf:=hk.blk.frozen 18
 have htop:o.base.size≤st.shape.size:=by have:=h.top;unfold Bg at this;rw [hop1] at this;exact this
 have hop2:=AA hop1
 have hlo:=h.LP
 have q3:decide ((3:Int)≤((st.shape.size-o.base.size:Nat):Int))=true:=decide_eq_true (by omega)
 have HAB:=AA hab
 obtain⟨ab,sH⟩: ∃ab,ab=AV st:=⟨_,rfl⟩
 obtain⟨ly,Zm⟩: ∃ly,ly=ab.extract (ab.size-2) (ab.size-1):=⟨_,rfl⟩
 obtain⟨po,hpo⟩: ∃po,po=ly++ly++wS:=⟨_,rfl⟩
 rw [←sH,←Zm,←hpo] at HE
 rw [←sH] at HAB ha has
 have SL:ly.size=1:=by rw [Zm,ByteArray.size_extract];omega
 have Ol:po.size=3:=by rw [hpo,ByteArray.size_append,ByteArray.size_append,SL];rfl
 have hab3:=AA sH;have zK:=AA Zm;have HPO:=AA hpo
 have hl1:ly.size≤1:=by omega
 have hp1:po.size≤3:=by omega
 have hle1:(0:Int)≤(ab.size:Int)-2:=by omega
 have hle2:((ab.size:Int)-2).toNat=ab.size-2:=by omega
 have hle3:((ab.size:Int)-1).toNat=ab.size-1:=by omega
 have YD:(0:Int)≤(ab.size:Int)-1:=by omega
 have hle5:(ab.size:Int)-2≤(ab.size:Int)-1:=by omega
 have hle6:(ab.size:Int)-1≤(ab.size:Int):=by omega
 have habz:ab.size≤256:=by omega
 clear h h1 hb b2 e0 e1 e2 e5 hop hk r0 r1 r2 r5 hop1 hdd hbk hab has ha sH Zm hpo SL Ol
 go_enter func168,ntmps168
 go_upto_region 1 with fail
 generalize w.alloc (.cells #[.int .u8 (y.op.toNat:Int),.int .i64 y.a,v] 122)=w1 at*
 go_quiet ((go_at_call 134;exact HT.out _))
 go_wp2_with fail
 rw [←HAB.out]
 refine(BX 33 _).mono ?_
 rintro e w2 ⟨rfl,rfl⟩
 go_wp2_with fail
 rw [←zK.out,show ly++ly++ {data:= #[119]}=po from HPO.out.symm]
 have FQ:=AA (HB.out.trans (below_drewN (Below.refl _ _) nq))
 refine(Jc po _ ⟨_,_,_,_,HK.out.drewN _⟩ hop2.out (by omega) htop (by omega) (by omega)).mono ?_
 rintro e w3 ⟨hkp3,⟨h0,rfl,hk3⟩ | ⟨h0,rfl,hc3⟩⟩
 all_goals have hb3:=Bu hkp3 HK.out.low HR.out.LP
 case inr=>
  have H0:=AA h0;clear h0
  go_wp2_with fail
  exact⟨rfl,.gD HE.out (FQ.out.trans hb3) H0.out hc3⟩
 have H0:=AA h0;clear h0
 have HB3:=AA (FQ.out.trans hb3)
 obtain⟨uS,uF,uO,us,hu⟩:=hk3
 have HU:=AA hu
 clear hu hkp3
 go_wp2_with fail
 refine(JK (st.shape.extract 0 (st.shape.size-po.size)) ly (st.shape.size-po.size) (by rw [ByteArray.size_extract];omega) _ ⟨_,_,_,_,HU.out⟩ (by simp only [ByteArray.size_extract];omega) (by omega)).mono ?_
 rintro e w4 ⟨MI,⟨h1,rfl,hk4⟩ | ⟨h1,rfl,hc4⟩⟩
 all_goals have hb4:=Bu MI HK.out.low (Nat.le_trans HR.out.LP hb3.size)
 ·go_wp2_with fail
  go_end0
  exact .done HE.out (HB3.out.trans hb4) H0.out h1 (by exact hk4)
 ·have H1:=AA h1;clear h1
  go_wp2_with fail
  exact⟨rfl,.gF HE.out (HB3.out.trans hb4) H0.out H1.out hc4⟩
section
variable {m:AP} {f:Bt} {AB:List Int} {p:Nat} {st:Cm} {y:Ad} {w w':World} {lo g:Nat} {x:Fx} {o:Bo} {r:List Bo}
theorem Ag.c33 (hcl:Ah y.op=true) (hop:st.op=o::r) (hb:Below lo w w') (h0:Ab (decide (st.shape=o.base++o.s.r)) 33≠0) (hc:MC w' g x p):
 Ag m f AB p st y w w' lo g x (.panicked (D6 (Ab (decide (st.shape=o.base++o.s.r)) 33))):=by
 refine⟨hb,?_⟩
 have ht:Bg st=o:=by unfold Bg;rw [hop];rfl
 have hf:st.shape≠o.base++o.s.r:=fun e=>h0 (BQ (decide_eq_true e))
 have:EA m f AB p st y= .inl 33:=by unfold EA;rw [if_pos hcl,ht,if_pos hf]
 rw [this,Bw (decide_eq_false hf)]
 exact⟨rfl,hc⟩
theorem Ag.c5 (hcl:Ah y.op=true) (hop:st.op=o::r) (h5:y.op.toNat=5) (hb:Below lo w w') (h0:st.shape=o.base++o.s.r) (hk:Wk w' lo g x {st with shape:=o.base++o.s.p,dead:=false} p):
 Ag m f AB p st y w w' lo g x (.returned (.tuple #[])):=by
 refine⟨hb,?_⟩
 have ht:Bg st=o:=by unfold Bg;rw [hop];rfl
 have:EA m f AB p st y= .inr {st with shape:=o.base++o.s.p,dead:=false}:=by unfold EA;rw [if_pos hcl,ht,if_neg (fun h=>h h0),if_pos h5]
 rw [this]
 exact⟨rfl,_,hk,fun _=>rfl⟩
theorem Ag.c37 (hcl:Ah y.op=true) (hop:st.op=o::r) (h5:y.op.toNat≠5) (hb:Below lo w w') (h0:st.shape=o.base++o.s.r) (h4:o.o.toNat=4) (he:AB.getD o.pc.toNat (-1)<0) (hpr:o.s.p≠o.s.r) (hc:MC w' g x p):
 Ag m f AB p st y w w' lo g x (.panicked (D6 37)):=by
 refine⟨hb,?_⟩
 have ht:Bg st=o:=by unfold Bg;rw [hop];rfl
 have:EA m f AB p st y= .inl 37:=by unfold EA;rw [if_pos hcl,ht,if_neg (fun h=>h h0),if_neg h5,if_pos ⟨h4,he,hpr⟩]
 rw [this]
 exact⟨rfl,hc⟩
theorem Ag.c6 (hcl:Ah y.op=true) (hop:st.op=o::r) (h5:y.op.toNat≠5) (hb:Below lo w w') (h0:st.shape=o.base++o.s.r) (hno: ¬(o.o.toNat=4∧AB.getD o.pc.toNat (-1)<0∧o.s.p≠o.s.r)) (hk:Wk w' lo g x {st with op:=r,dead:=false} p):
 Ag m f AB p st y w w' lo g x (.returned (.tuple #[])):=by
 refine⟨hb,?_⟩
 have ht:Bg st=o:=by unfold Bg;rw [hop];rfl
 have:EA m f AB p st y= .inr {st with op:=r,dead:=false}:=by unfold EA;rw [if_pos hcl,ht,if_neg (fun h=>h h0),if_neg h5,if_neg hno,hop];rfl
 rw [this]
 exact⟨rfl,_,hk,fun _=>rfl⟩
end
theorem sJ (a b:ByteArray):(a.toList==b.toList)=decide (a=b):=Vy a b
def Sq (w:World) (lo:Nat) (x:Fx) (AB:List Int):Prop:= ∃bE,x.AB= .slice (some ⟨bE,0,none⟩) AB.length AB.length∧AQ w bE 3 (AB.map iv)∧bE<lo
theorem Sq.below {w w':World} {lo:Nat} {x:Fx} {AB:List Int} (h:Sq w lo x AB) (hb:Below lo w w'):Sq w' lo x AB:=by
 obtain⟨bE,h1,h2,h3⟩:=h
 exact⟨bE,h1,h2.below hb h3,h3⟩
theorem lu (s:ByteArray) {lo g:Nat} {x:Fx} {st:Cm} {pc:Int} {b:Nat} {o:Bo} (w:World) (h:Wk w lo g x st pc) (hb:AQ w b 175 (Tn o)) (hs1:o.base.size≤1000000) (hs2:s.size≤1000000) (hd:st.dead=true→st.shape=o.base++s):
 Calls prog 187 #[.pointer (some ⟨g,0,none⟩),.pointer (some ⟨b,0,none⟩),.string s] w fun e w'=>
  ME w w' g x pc (Ab (decide (st.shape=o.base++s)) 33) e (Wk w' lo g x {st with shape:=o.base++s} pc):=by
 refine(qy s w h hb hs1 hs2).mono fun e w' hh=> ?_
 cases hdd:st.dead with
 | false=>rw [hdd] at hh;exact hh
 | true=>
  rw [decide_eq_true (hd hdd)]
  rw [hdd,Bool.true_or] at hh
  exact hh
theorem sK (v:Value) (y:Ad) {lo g hi:Nat} {x:Fx} {st:Cm} {m:AP} {f:Bt} {AB:List Int} {p:Nat} (w:World) (h:EM m f p st y lo hi g x w) (hcl:Ah y.op=true) (hE:Sq w lo x AB) (hel:AB.length≤1000000)
 (hd:st.dead=true→st.shape=(Bg st).base++(Bg st).s.r) (hq: ∀o∈st.op,o.o.toNat=4→ ∃q:Nat,o.pc=q∧q<AB.length):
 Calls prog 165 #[.pointer (some ⟨g,0,none⟩),.agg #[.int .u8 (y.op.toNat:Int),.int .i64 y.a,v]] w fun e w'=>Ag m f AB p st y w w' lo g x e:=by
 obtain⟨hb,h1⟩:=h.boxed v
 have b2:=(Kz w y v h.LP).2
 obtain⟨vS,vF,vO,bs,hk⟩:=h1.wk
 have HR:=AA h1;have HB:=AA hb;have HC:=AA hk.Gu;have HK:=AA hk
 have hsz:=h.size
 obtain⟨o,rr,hop1,hrr⟩:=h.ne
 have hop2:=AA hop1
 have ht:Bg st=o:=by unfold Bg;rw [hop1];rfl
 rw [ht] at hd
 have hmem:o∈st.op:=by rw [hop1];exact List.mem_cons_self ..
 have hos:=h.ops o hmem
 have HQ:=AA (hq o hmem)
 obtain⟨b,bs',A,c,rfl,evO,hcA,hbk,hlb,_⟩:=hk.head hop1
 have HT:=AA (ZW _ hk hop1 (by omega))
 have Wy:=AA hbk
 have hx0:=b2.q 0 rfl
 have hcb1:=hbk.q 1 rfl
 have HE:=AA (hE.below hb)
 have zL:Hid (g<w.heap.size):=AA (by
  obtain⟨_,_,_,_,h9⟩:=h.wk
  exact h9.blk.lt)
 have HD:=AA hd
 clear h h1 hb b2 hop1 hk ht hmem hq hbk hE hd hcA
 go_enter func165,ntmps165
 go_upto_region 1 with fail
 generalize hw1:w.alloc (.cells #[.int .u8 (y.op.toNat:Int),.int .i64 y.a,v] 122)=w1 at*
 have hgw:w.heap.size≠g:=by have:=zL.out;omega
 have hwl:w.heap.size<w1.heap.size:=by rw [←hw1];simp
 clear hw1
 go_wp2_with fail
 refine HT.out.mono ?_
 rintro e w2 ⟨rfl,⟨q0,rfl⟩⟩
 go_wp2_with fail
 refine(lu o.s.r _ ⟨_,_,_,_,HK.out.drewN q0⟩ Wy.out.drewN' (by omega) (by omega) HD.out).mono ?_
 rintro e w3 ⟨hkp3,⟨h0,rfl,hk3⟩ | ⟨h0,rfl,hc3⟩⟩
 all_goals have hb3:=Bu hkp3 HK.out.low HR.out.LP
 case inr=>
  have H0:=AA h0;clear h0
  go_wp2_with fail
  exact⟨rfl,.c33 hcl hop2.out (HB.out.trans ((below_drewN (Below.refl _ _) q0).trans hb3)) H0.out hc3⟩
 have heq:=of_decide_eq_true (BS (by decide) h0)
 have iX:=AA heq
 have HB3:=AA (HB.out.trans ((below_drewN (Below.refl _ _) q0).trans hb3))
 rw [←heq] at hk3
 have hk3:Wk w3 lo g x st p:=hk3
 obtain⟨uS,uF,uO,us,hu⟩:=hk3
 obtain⟨b',us',A',c',rfl,evO',hcA',_,_,_⟩:=hu.head hop2.out
 subst evO'
 have hcap:rr.length+1≤c':=by
  have h9:=hu.op
  rw [hop2.out] at h9
  exact Row.few h9
 have hbg:b≠g:=FR Wy.out HK.out.blk (by decide)
 have HBK3:=AA (Wy.out.drewN' (n:=q0) |>.keep hkp3 hbg)
 have AC0:w3.cell? ⟨w.heap.size,0,none⟩=some (.int .u8 (y.op.toNat:Int)):=(KU hkp3 hwl hgw).trans hx0
 have hx19:=hu.blk.q 19 rfl
 have hg3:=hu.blk.lt
 have hf3:=hu.blk.frozen 19
 have HU:=AA hu
 have l6:=AA (HE.out.below ((below_drewN (Below.refl _ _) q0).trans hb3))
 have hwl3:w.heap.size<w3.heap.size:=Nat.lt_of_lt_of_le hwl (by have:=hkp3.size;exact this)
 clear hu hkp3 heq h0 hb3 hcA' hx0 hcb1
 go_upto_region 4 with fail
 generalize hw4:w3.setCell ⟨g,19,none⟩ (.bool false)=w4
 have bP:Hid (Below lo w3 w4∧E5 w4 lo g x {st with dead:=false} p uS uF (.slice (some ⟨A',0,none⟩) (rr.length+1) c') (b'::us')):=AA (by rw [←hw4];exact HU.out.dead false)
 have MI:Keep (fun k=>k≠g) w3 w4:=by rw [←hw4];exact(Keep.refl _ _).setCell (by simp) _
 have hN4:=HBK3.out.keep MI hbg
 have hx04:w4.cell? ⟨w.heap.size,0,none⟩=some (.int .u8 (y.op.toNat:Int)):=(KU MI hwl3 hgw).trans AC0
 have hn0:=hN4.q 0 rfl
 have hn1:=hN4.q 1 rfl
 have hn2:=hN4.q 2 rfl
 have Us:=hN4.q 3 rfl
 have oI:=hN4.q 4 rfl
 have hg4:=bP.out.2.blk.lt
 have kX:=AA (l6.out.below bP.out.1)
 have Ct:=AA (HB3.out.trans bP.out.1)
 clear hw4 MI hN4 AC0 hx19 hf3
 have AC1:=of_decide_eq_true hcl
 by_cases h5:y.op.toNat=5
 ·have g5:((y.op.toNat:Int)==5)=true:=by simp;omega
  have H5:=AA h5
  have hs1:o.base.size≤1000000:=by omega
  have hs2:o.s.p.size≤1000000:=by omega
  have hc18:=bP.out.2.blk.q 18 rfl
  have zP:=bP.out.2.blk.frozen 18
  clear h5 AC1
  go_wp2_with fail
  go_region
  all_goals
   go_wp2_with fail
   refine bodyPost_ret (results_none rfl _ _ _) rfl ?_
   have h2:=bP.out.2.shape (o.base++o.s.p)
   exact .c5 hcl hop2.out H5.out (Ct.out.trans (below_drewN h2.1 1)) iX.out ⟨_,_,_,_,h2.2.drewN 1⟩
 ·have h6:y.op.toNat=6:=by omega
  have g5:((y.op.toNat:Int)==5)=false:=by simp;omega
  have H5:=AA h5
  have hc17:=bP.out.2.blk.q 17 rfl
  have hf17:=bP.out.2.blk.frozen 17
  have gJ:=AA (fun n=>(show Below lo w4 ((w4.drewN n).setCell ⟨g,17,none⟩ (.slice (some ⟨A',0,none⟩) rr.length c'))∧E5 ((w4.drewN n).setCell ⟨g,17,none⟩ (.slice (some ⟨A',0,none⟩) rr.length c')) lo g x {({st with dead:=false}:Cm)with op:=rr} p uS uF (.slice (some ⟨A',0,none⟩) rr.length c') us' from⟨(below_drewN (Below.refl _ _) n).trans ((bP.out.2.drewN n).cut (o:=o) (r:=rr) hop2.out rfl).1,((bP.out.2.drewN n).cut (o:=o) (r:=rr) hop2.out rfl).2⟩))
  clear h5 h6 AC1
  by_cases h4:o.o.toNat=4
  ·have g4:((o.o.toNat:Int)==4)=true:=by simp;omega
   obtain⟨q,hqp,hql⟩:=HQ.out h4
   obtain⟨bE,eE,hbE,hlE⟩:=kX.out
   have hc14:w4.cell? ⟨g,14,none⟩=some (.slice (some ⟨bE,0,none⟩) AB.length AB.length):=by rw [←eE];exact bP.out.2.blk.cell 14
   obtain⟨ev,hev⟩: ∃ev,AB[q]?=some ev:=⟨_,List.getElem?_eq_getElem hql⟩
   have hcE:w4.cell? ⟨bE,q,none⟩=some (.int .i64 ev):=by rw [hbE.cell q,List.getElem?_map,hev];rfl
   have HEV:Hid (AB.getD o.pc.toNat (-1)=ev):=AA (by rw [hqp,Int.toNat_natCast,List.getD_eq_getElem?_getD,hev];rfl)
   rw [hqp] at hn2
   have hq0:(0:Int)≤q:=by omega
   have hqlt:(q:Int)<AB.length:=by omega
   have H4:=AA h4
   clear h4 hqp hbE eE hev
   by_cases hneg:ev<0
   ·have gn:decide (ev<0)=true:=decide_eq_true hneg
    have zQ:=AA hneg
    clear hneg
    by_cases hpr:o.s.p=o.s.r
    ·have rz:=AA hpr
     rw [hpr] at hn0
     clear hpr
     go_wp2_with fail
     go_quiet (fail)
     go_wp2_with fail
     go_quiet ((go_at_call 133;first | exact Bj (BX 37 _) | exact Bp (BX 37 _)))
     go_wp2_with fail
     go_region
     all_goals
      go_end0
      exact .c6 hcl hop2.out H5.out (Ct.out.trans (gJ.out _).1) iX.out (fun h=>h.2.2 rz.out) ⟨_,_,_,_,(gJ.out _).2⟩
    ·have rz:=AA hpr
     have hq2:(o.s.p.toList==o.s.r.toList)=false:=by rw [sJ];exact decide_eq_false hpr
     clear hpr
     go_wp2_with fail
     go_quiet (fail)
     go_wp2_with fail
     have hm0:(w4.drewN nq).cell? ⟨b,0,none⟩=some (.string o.s.p):=hn0
     have hm1:(w4.drewN nq).cell? ⟨b,1,none⟩=some (.string o.s.r):=hn1
     have HKQ:Hid (Below lo w4 (w4.drewN nq)∧MC (w4.drewN nq) g x p):=AA ⟨below_drewN (Below.refl _ _) _,(bP.out.2.drewN nq).Gu⟩
     generalize w4.drewN nq=w5 at*
     go_still_tail 11,(by kernel_rfl)
     change wpList _ _ _ _ _ w5.drew
     go_wp2_with fail
     refine(DI 37 _).mono ?_
     rintro e w6 ⟨rfl,rfl⟩
     go_wp2_with fail
     exact⟨rfl,.c37 hcl hop2.out H5.out (Ct.out.trans (below_drewN HKQ.out.1 1)) iX.out H4.out (by rw [HEV.out];exact zQ.out) rz.out HKQ.out.2⟩
   ·have gn:decide (ev<0)=false:=decide_eq_false hneg
    have zQ:=AA hneg
    clear hneg
    go_wp2_with fail
    go_quiet (fail)
    go_wp2_with fail
    go_region
    all_goals
     go_end0
     exact .c6 hcl hop2.out H5.out (Ct.out.trans (gJ.out _).1) iX.out (fun h=>by have h1:=h.2.1;rw [HEV.out] at h1;have h2:=zQ.out;omega) ⟨_,_,_,_,(gJ.out _).2⟩
  ·have g4:((o.o.toNat:Int)==4)=false:=by simp;omega
   have H4:=AA h4
   clear h4
   go_wp2_with fail
   go_quiet (fail)
   go_wp2_with fail
   go_region
   all_goals
    go_end0
    exact .c6 hcl hop2.out H5.out (Ct.out.trans (gJ.out _).1) iX.out (fun h=>H4.out h.1) ⟨_,_,_,_,(gJ.out _).2⟩
end Go.Proofs.YtlagonfamllgjaaGreatDoor
