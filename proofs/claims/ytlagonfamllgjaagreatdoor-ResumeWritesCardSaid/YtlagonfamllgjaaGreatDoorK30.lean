/- Part 30 of the proof: VdD VdE -/
import Derived.OrdersHeld
import Derived.WalkSpells
import Derived.Test.YtlagonfamllgjaaGreatDoorK21
namespace Go.Proofs.YtlagonfamllgjaaGreatDoor
set_option linter.unusedVariables false
set_option linter.unusedSimpArgs false
set_option maxRecDepth 100000
set_option maxHeartbeats 4000000
open Go.RowKit Tryz
theorem Jm {P:Program} {ops:Array Oper} {Q:Exit→Act→World→Prop} {md:Region.Mode} {S:World→Prop} {i:Nat} {oi:Oper} {v:Value} {fuel:Nat} {listed:Array Bool} {a:Act} {w:World} (hi:ops[i]?=some oi) (hq:(Region.noSelect ops&&Region.free md ops listed i&&(Region.ready md ops listed).contains i)=true) (hQ: ∀c a w,Q (.panic c) (a.put oi.dst v) w→Q (.panic c) a w) (hw:Region.wanted oi (yielded ops a.tmps)=true) (hy: ∀w,S w→(execOp a.eval oi).run P w= .ok (.value v) w) (hS:S w)
 (h:wpAnyH P md ops Q S fuel (listed.setIfInBounds i true) (a.put oi.dst v) w):wpAnyH P md ops Q S (fuel+1) listed a w:=by
 simp only [Bool.and_eq_true] at hq
 exact wpAnyH_take hi hq.1.1 hq.1.2 hq.2 hQ (.inl ⟨hw,hy⟩) hS h
structure b_ (W:World) (hi:Nat) (x:Fx) (m:AP):Prop where
 rd:DJ.R W 0 hi [x.m0,x.m1,x.m2,x.m3,x.m4,x.m5,x.m6,x.m7] m
theorem b_.below {W W':World} {hi lo:Nat} {x:Fx} {m:AP} (h:b_ W hi x m) (hb:Below lo W W') (hlo:hi≤lo):b_ W' hi x m:=⟨Rd.below h.rd hb hlo⟩
theorem b_.parts {W:World} {hi:Nat} {x:Fx} {m:AP} (h:b_ W hi x m): ∃A0 c0 A1 c1 A2 c2 A5 c5,x.m0= .slice A0 m.types.length c0∧x.m1= .slice A1 m.hosts.length c1∧x.m2= .slice A2 m.globs.length c2∧x.m5= .slice A5 m.fns.length c5∧
 (Py.sl false).R W 0 hi [.slice A0 m.types.length c0] m.types∧(Rd.i64.sl false).R W 0 hi [.slice A1 m.hosts.length c1] m.hosts∧(Lm.sl false).R W 0 hi [.slice A2 m.globs.length c2] m.globs∧(Qe.sl false).R W 0 hi [.slice A5 m.fns.length c5] m.fns:=by
 obtain⟨v0,v1,v2,v3,v4,v5,e,h0,h1,h2,_,_,h5,_,_⟩:=Am.1 h.rd
 injection e with e0 e;injection e with e1 e;injection e with e2 e;injection e with e3 e;injection e with e4 e;injection e with e5 e
 obtain⟨A0,c0,rfl⟩:=AB h0
 obtain⟨A1,c1,rfl⟩:=AB h1
 obtain⟨A2,c2,rfl⟩:=AB h2
 obtain⟨A5,c5,rfl⟩:=AB h5
 exact⟨A0,c0,A1,c1,A2,c2,A5,c5,e0,e1,e2,e5,h0,h1,h2,h5⟩
theorem CW (w:World) (y:Ad) (v:Value) {lo:Nat} (hlo:lo≤w.heap.size):Below lo w (w.alloc (.cells #[.int .u8 (y.op.toNat:Int),.int .i64 y.a,v] 122))∧AQ (w.alloc (.cells #[.int .u8 (y.op.toNat:Int),.int .i64 y.a,v] 122)) w.heap.size 122 [.int .u8 (y.op.toNat:Int),.int .i64 y.a,v]:=
 ⟨(Below.refl _ _).alloc hlo _,AQ.new w 122 _⟩
def Ab (m:AP) (f:Bv) (AJ:List Int) (p:Nat) (st:Cn) (y:Ad) (w w':World) (lo g:Nat) (x:Fx) (e:Ending):Prop:=Below lo w w'∧match D_ m f AJ p st y with
 | .inl err=>e= .panicked (D6 err)∧Nn w' g x p
 | .inr st'=>e= .returned (.tuple #[])∧ ∃s,Wk w' lo g x {st' with shape:=s} p∧(st'.dead=false→s=st'.shape)
structure Eff (m:AP) (f:Bv) (st:Cn) (y:Ad) (po pu:ByteArray):Prop where
 cl:AZ y.op=false
 op:Aw y.op=false
 aw:DF y.op=false
 ef:BI m f st y=(po,pu,0)
 dd:st.dead=false
section
variable {m:AP} {f:Bv} {AJ:List Int} {p:Nat} {st:Cn} {y:Ad} {w w':World} {lo g:Nat} {x:Fx} {po pu:ByteArray}
theorem Ab.fail {err:Int} (hcl:AZ y.op=false) (hb:Below lo w w') (he:(BI m f st y).2.2=err) (h0:err≠0) (hc:Nn w' g x p):Ab m f AJ p st y w w' lo g x (.panicked (D6 err)):=by
 refine⟨hb,?_⟩
 have:D_ m f AJ p st y= .inl err:=by unfold D_;rw [if_neg (by rw [hcl];decide),he,if_pos h0]
 rw [this]
 exact⟨rfl,hc⟩
theorem Ab.YX (E:Eff m f st y po pu) (hb:Below lo w w') (h0:Ae (ends (AX st) po) 33≠0) (hc:Nn w' g x p):Ab m f AJ p st y w w' lo g x (.panicked (D6 (Ae (ends (AX st) po) 33))):=by
 refine⟨hb,?_⟩
 have hf:ends (AX st) po=false:=by cases h:ends (AX st) po with | false=>rfl | true=>exact absurd (BX h) h0
 have:D_ m f AJ p st y= .inl 33:=by unfold D_;rw [if_neg (by rw [E.cl];decide),E.ef];simp only [];rw [if_neg (by simp),if_pos hf]
 rw [this,CJ hf]
 exact⟨rfl,hc⟩
theorem Ab.aI (E:Eff m f st y po pu) (hb:Below lo w w') (h0:Ae (ends (AX st) po) 33=0) (h1:Ae (decide (st.shape.size-po.size+pu.size≤256)) 34≠0) (hc:Nn w' g x p):
 Ab m f AJ p st y w w' lo g x (.panicked (D6 (Ae (decide (st.shape.size-po.size+pu.size≤256)) 34))):=by
 refine⟨hb,?_⟩
 have ht:=Bh (by decide) h0
 have hf:decide (st.shape.size-po.size+pu.size≤256)=false:=by
  cases h:decide (st.shape.size-po.size+pu.size≤256)with | false=>rfl | true=>exact absurd (BX h) h1
 have hf':=of_decide_eq_false hf
 have:D_ m f AJ p st y= .inl 34:=by unfold D_;rw [if_neg (by rw [E.cl];decide),E.ef];simp only [];rw [if_neg (by simp),if_neg (by rw [ht];decide),if_pos (by omega)]
 rw [this,CJ hf]
 exact⟨rfl,hc⟩
theorem Ab.done (E:Eff m f st y po pu) (hb:Below lo w w') (h0:Ae (ends (AX st) po) 33=0) (h1:Ae (decide (st.shape.size-po.size+pu.size≤256)) 34=0)
 (hk:Wk w' lo g x {st with shape:=st.shape.extract 0 (st.shape.size-po.size)++pu} p):Ab m f AJ p st y w w' lo g x (.returned (.tuple #[])):=by
 refine⟨hb,?_⟩
 have ht:=Bh (by decide) h0
 have hf':=of_decide_eq_true (Bh (by decide) h1)
 have:D_ m f AJ p st y= .inr {st with shape:=st.shape.extract 0 (st.shape.size-po.size)++pu}:=by
  unfold D_
  rw [if_neg (by rw [E.cl];decide),E.ef]
  simp only []
  rw [if_neg (by simp),if_neg (by rw [ht];decide),if_neg (by omega),E.op,E.aw]
  simp only [Bool.false_eq_true,if_false]
  rw [E.dd]
 rw [this]
 exact⟨rfl,_,hk,fun _=>rfl⟩
end
theorem IQ (s0 s:ByteArray) (n:Nat) (hn:s0.size=n) {lo g:Nat} {x:Fx} {st:Cn} {pc:Int} (w:World) (h:Wk w lo g x {st with shape:=s0} pc) (hs:s0.size≤1000000) (hs2:s.size≤1000000):
 Calls prog 172 #[.pointer (some ⟨g,0,none⟩),.string s] w fun e w'=>Mj w w' g x pc (Ae (decide (n+s.size≤256)) 34) e (Wk w' lo g x {st with shape:=s0++s} pc):=by
 subst hn
 exact gY s w h hs hs2
structure EG (m:AP) (f:Bv) (p:Nat) (st:Cn) (y:Ad) (lo hi g:Nat) (x:Fx) (w:World):Prop where
 wk:Wk w lo g x st p
 md:b_ w hi x m
 hhi:hi≤lo
 Fq:lo≤w.heap.size
 VL:Kc m
 fok:XV m f
 ya: -9223372036854775808≤y.a∧y.a<9223372036854775808
 top:(BU st).base.size≤st.shape.size
 ne: ∃o r,st.op=o::r∧r.length≤1000
 size:st.shape.size≤256
 loc:x.loc=CS m f
 sr:x.sr=(B_ m f.t).r
 fl:st.floors.length=p+1
 ops: ∀o∈st.op,o.base.size≤256∧o.s.p.size≤8∧o.s.r.size≤8
 ins:Ar y=0
theorem EG.boxed {m:AP} {f:Bv} {p:Nat} {st:Cn} {y:Ad} {lo hi g:Nat} {x:Fx} {w:World} (h:EG m f p st y lo hi g x w) (v:Value):
 Below lo w (w.alloc (.cells #[.int .u8 (y.op.toNat:Int),.int .i64 y.a,v] 122))∧EG m f p st y lo hi g x (w.alloc (.cells #[.int .u8 (y.op.toNat:Int),.int .i64 y.a,v] 122)):=by
 have hb:=(CW w y v h.Fq).1
 obtain⟨a,b,c,d,hk⟩:=h.wk
 exact⟨hb,⟨a,b,c,d,hk.below ((Below.refl _ _).alloc (Nat.le_refl _) _)⟩,h.md.below hb h.hhi,h.hhi,Nat.le_trans h.Fq hb.size,h.VL,h.fok,h.ya,h.top,h.ne,h.size,h.loc,h.sr,h.fl,h.ops,h.ins⟩
theorem EG.pre {m:AP} {f:Bv} {p:Nat} {st:Cn} {y:Ad} {lo hi g:Nat} {x:Fx} {w:World} (h:EG m f p st y lo hi g x w) (v:Value):∃A0 c0 A1 c1 A2 c2 A5 c5 vS vF vO bs,let W:=w.alloc (.cells #[.int .u8 (y.op.toNat:Int),.int .i64 y.a,v] 122);Below lo w W∧EG m f p st y lo hi g x W∧AQ W w.heap.size 122 [.int .u8 (y.op.toNat:Int),.int .i64 y.a,v]∧x.m0= .slice A0 m.types.length c0∧x.m1= .slice A1 m.hosts.length c1∧x.m2= .slice A2 m.globs.length c2∧x.m5= .slice A5 m.fns.length c5∧
 (Py.sl false).R w 0 hi [.slice A0 m.types.length c0] m.types∧(Rd.i64.sl false).R w 0 hi [.slice A1 m.hosts.length c1] m.hosts∧(Lm.sl false).R w 0 hi [.slice A2 m.globs.length c2] m.globs∧(Qe.sl false).R w 0 hi [.slice A5 m.fns.length c5] m.fns∧Fg W lo g x st p vS vF vO bs∧Hid (EG m f p st y lo hi g x W)∧Hid (Below lo w W)∧Hid (Nn W g x p)∧Hid (Fg W lo g x st p vS vF vO bs)∧st.shape.size≤256:=by
 obtain⟨hb,h1⟩:=h.boxed v
 obtain⟨A0,c0,A1,c1,A2,c2,A5,c5,e0,e1,e2,e5,r0,r1,r2,r5⟩:=h.md.parts
 obtain⟨vS,vF,vO,bs,hk⟩:=h1.wk
 exact⟨A0,c0,A1,c1,A2,c2,A5,c5,vS,vF,vO,bs,hb,h1,(CW w y v h.Fq).2,e0,e1,e2,e5,r0,r1,r2,r5,hk,AA h1,AA hb,AA hk.Ci,AA hk,h.size⟩
theorem TV (v:Value) (y:Ad) {lo g hi:Nat} {x:Fx} {st:Cn} {m:AP} {f:Bv} {AJ:List Int} {p:Nat} (w:World) (h:EG m f p st y lo hi g x w) (hi0:y.op.toNat=11∧FE y.a m.fns.length=false∨y.op.toNat=12∧FE y.a m.hosts.length=false) (he:(BI m f st y).2.2=30):
 Calls prog 167 #[.pointer (some ⟨g,0,none⟩),.agg #[.int .u8 (y.op.toNat:Int),.int .i64 y.a,v]] w fun e w'=>Ab m f AJ p st y w w' lo g x e:=by
 have hcl:AZ y.op=false:=by unfold AZ;exact decide_eq_false (by omega)
 have HE:=AA he
 obtain⟨hb,h1⟩:=h.boxed v
 have b2:=(CW w y v h.Fq).2
 obtain⟨A0,c0,A1,c1,A2,c2,A5,c5,e0,e1,e2,e5,_,_,_,_⟩:=h.md.parts
 obtain⟨vS,vF,vO,bs,hk⟩:=h1.wk
 have hlen:m.fns.length≤1000000:=by have:=h.VL.nf;omega
 have hlen':m.hosts.length≤1000000:=by have:=h.VL.nh;omega
 have HR:=AA h1;have HB:=AA hb;have HC:=AA hk.Ci
 have xq:(w.alloc (.cells #[.int .u8 (y.op.toNat:Int),.int .i64 y.a,v] 122)).cell? ⟨g,5,none⟩=some (.slice A5 m.fns.length c5):=by rw [←e5];exact hk.blk.cell 5
 have hc1:(w.alloc (.cells #[.int .u8 (y.op.toNat:Int),.int .i64 y.a,v] 122)).cell? ⟨g,1,none⟩=some (.slice A1 m.hosts.length c1):=by rw [←e1];exact hk.blk.cell 1
 have hx0:=b2.q 0 rfl
 have hx1:=b2.q 1 rfl
 rcases hi0 with⟨hop,hi0⟩ | ⟨hop,hi0⟩
 case' inl=>have g11:((y.op.toNat:Int)==11)=true:=by simp;omega
 case' inr=>have g11:((y.op.toNat:Int)==11)=false:=by simp;omega
 all_goals
  have hI:=AA hi0
  clear h h1 hb b2 e0 e1 e2 e5 hi0 hop hk he
  go_enter func167,ntmps167
  go_upto_region 1 with fail
  generalize w.alloc (.cells #[.int .u8 (y.op.toNat:Int),.int .i64 y.a,v] 122)=w1 at*
  first | (have _t:((y.op.toNat:Int)==11)=true:=g11;go_upto_region 3 with fail) | go_upto_region 4 with fail
  refine wp_region_held_drew (S:=fun W=>W.cell? ⟨g,5,none⟩=some (.slice A5 m.fns.length c5)∧W.cell? ⟨g,1,none⟩=some (.slice A1 m.hosts.length c1)∧W.cell? ⟨w.heap.size,1,none⟩=some (.int .i64 y.a)) (by kernel_rfl) ⟨xq,hc1,hx1⟩ (fun hHeld=> ?_)
  refine Jm (i:=0) (v:= ?_) rfl (by kernel_rfl) (fun _ _ _ h=>h) rfl (by intro w hSw;(try dsimp only at hSw);go_simp;try with_reducible rfl) hHeld ?_
  refine Jm (i:=1) (v:= ?_) rfl (by kernel_rfl) (fun _ _ _ h=>h) rfl (by intro w hSw;(try dsimp only at hSw);go_simp;try with_reducible rfl) hHeld ?_
  refine Jm (i:=2) (v:= ?_) rfl (by kernel_rfl) (fun _ _ _ h=>h) rfl (by intro w hSw;(try dsimp only at hSw);go_simp;try with_reducible rfl) hHeld ?_
  refine Jm (i:=3) (v:= ?_) rfl (by kernel_rfl) (fun _ _ _ h=>h) rfl (by intro w hSw;(try dsimp only at hSw);go_simp;try with_reducible rfl) hHeld ?_
  refine Jm (i:=4) (v:= ?_) rfl (by kernel_rfl) (fun _ _ _ h=>h) rfl (by intro w hSw;(try dsimp only at hSw);go_simp;try with_reducible rfl) hHeld ?_
  refine Jm (i:=5) (v:= ?_) rfl (by kernel_rfl) (fun _ _ _ h=>h) rfl (by intro w hSw;(try dsimp only at hSw);go_simp;try with_reducible rfl) hHeld ?_
  refine Jm (i:=6) (v:= ?_) rfl (by kernel_rfl) (fun _ _ _ h=>h) rfl (by intro w hSw;(try dsimp only at hSw);go_simp;try with_reducible rfl) hHeld ?_
  refine Jm (i:=7) (v:= ?_) rfl (by kernel_rfl) (fun _ _ _ h=>h) rfl (by intro w hSw;(try dsimp only at hSw);go_simp;try with_reducible rfl) hHeld ?_
  refine Jm (i:=8) (v:= ?_) rfl (by kernel_rfl) (fun _ _ _ h=>h) rfl (by intro w hSw;(try dsimp only at hSw);go_simp;try with_reducible rfl) hHeld ?_
  refine Jm (i:=9) (v:= ?_) rfl (by kernel_rfl) (fun _ _ _ h=>h) rfl (by intro w hSw;(try dsimp only at hSw);go_simp;try with_reducible rfl) hHeld ?_
  refine Jm (i:=10) (v:= ?_) rfl (by kernel_rfl) (fun _ _ _ h=>h) rfl (by intro w hSw;(try dsimp only at hSw);go_simp;try with_reducible rfl) hHeld ?_
  refine Jm (i:=11) (v:= ?_) rfl (by kernel_rfl) (fun _ _ _ h=>h) rfl (by intro w hSw;(try dsimp only at hSw);go_simp;try with_reducible rfl) hHeld ?_
  refine Jm (i:=12) (v:= ?_) rfl (by kernel_rfl) (fun _ _ _ h=>h) rfl (by intro w hSw;(try dsimp only at hSw);go_simp;try with_reducible rfl) hHeld ?_
  refine wpAnyH_ready (rs:= [13]) (by kernel_rfl) (by simp) ?_
  refine AllReadyH.cons rfl (fun K hK=> ?_) AllReadyH.nil
  go_simp
  go_at_call 186
  refine(Dq y.a _ HR.out.ya (by omega) _).mono ?_
  rintro e w2 ⟨rfl,⟨h0,rfl⟩ | ⟨h0,rfl⟩⟩
  ·rw [hI.out] at h0;cases h0
  go_wp2_with fail
  exact⟨rfl,.fail hcl (HB.out.trans (below_drewN (Below.refl _ _) 1)) HE.out (by decide) HC.out⟩
theorem TU (v:Value) (y:Ad) {lo g hi:Nat} {x:Fx} {st:Cn} {m:AP} {f:Bv} {AJ:List Int} {p:Nat} (w:World) (h:EG m f p st y lo hi g x w) (hi0:y.op.toNat=11∧FE y.a m.fns.length=true∨y.op.toNat=12∧FE y.a m.hosts.length=true) (hdd:st.dead=false):
 Calls prog 167 #[.pointer (some ⟨g,0,none⟩),.agg #[.int .u8 (y.op.toNat:Int),.int .i64 y.a,v]] w fun e w'=>Ab m f AJ p st y w w' lo g x e:=by
 obtain⟨hb,h1⟩:=h.boxed v
 have b2:=(CW w y v h.Fq).2
 obtain⟨A0,c0,A1,c1,A2,c2,A5,c5,e0,e1,e2,e5,r0,r1,r2,r5⟩:=h.md.parts
 obtain⟨o,rr,hop1,hrr⟩:=h.ne
 have key: ∃(k j L bf TW:Nat),y.a=k∧k<L∧L≤1000000∧FE y.a L=true∧j<m.types.length∧CO m y=some (B_ m (j:Int))∧
  (((y.op.toNat:Int)==11)=true∧L=m.fns.length∧A5=some ⟨bf,TW,none⟩∧w.cell? ⟨bf,TW+k*3,none⟩=some (.int .i64 j)∨((y.op.toNat:Int)==11)=false∧L=m.hosts.length∧A1=some ⟨bf,TW,none⟩∧w.cell? ⟨bf,TW+k,none⟩=some (.int .i64 j)):=by
  rcases hi0 with⟨hop,hi0⟩ | ⟨hop,hi0⟩
  ·obtain⟨k,hya,hkl⟩:=Ed hi0
   obtain⟨fy,uz⟩: ∃fy,m.fns[k]?=some fy:=⟨_,List.getElem?_eq_getElem hkl⟩
   have hyt:=h.VL.fns fy (List.mem_of_getElem? uz)
   obtain⟨bf,TW,Ac,cc,eA,_,hbf,hf0,_,_,_,_,_⟩:=Eu r5 uz
   obtain⟨j,hj⟩:=Int.eq_ofNat_of_zero_le hyt.t0
   refine⟨k,j,_,bf,TW,hya,hkl,by have:=h.VL.nf;omega,hi0,by have:=hyt.t1;omega,?_,.inl ⟨by simp;omega,rfl,eA,by rw [←hj];exact hf0⟩⟩
   unfold CO
   rw [if_pos hop,if_pos hi0,hya,OG uz,hj]
  ·obtain⟨k,hya,hkl⟩:=Ed hi0
   obtain⟨t,uz⟩: ∃t,m.hosts[k]?=some t:=⟨_,List.getElem?_eq_getElem hkl⟩
   have hyt:=h.VL.host t (List.mem_of_getElem? uz)
   obtain⟨bf,TW,eA,_,hbf,cs,hcs,ecs,_⟩:=DC r1 uz
   subst ecs
   obtain⟨j,hj⟩:=Int.eq_ofNat_of_zero_le hyt.1
   have hf0:w.cell? ⟨bf,TW+k*1+0,none⟩=some (.int .i64 j):=by rw [←hj];exact hcs 0 _ rfl
   rw [Nat.mul_one,Nat.add_zero] at hf0
   refine⟨k,j,_,bf,TW,hya,hkl,by have:=h.VL.nh;omega,hi0,by have:=hyt.2;omega,?_,.inr ⟨by simp;omega,rfl,eA,hf0⟩⟩
   unfold CO
   rw [if_neg (by omega),if_pos hop,if_pos hi0,hya,Int.toNat_natCast,uz,←hj]
   rfl
 obtain⟨k,j,L,bf,TW,hya,hkl,hlen,hiL,hjl,hty,KD⟩:=key
 obtain⟨ty,hjt⟩: ∃ty,m.types[j]?=some ty:=⟨_,List.getElem?_eq_getElem hjl⟩
 have Ho:B_ m (j:Int)=ty:=FC hjt
 rw [Ho] at hty
 have ADs:=h.VL.types ty (List.mem_of_getElem? hjt)
 have hE:Eff m f st y ty.p ty.r:=by
  refine⟨?_,?_,?_,?_,hdd⟩
  ·unfold AZ;exact decide_eq_false (by omega)
  ·unfold Aw;exact decide_eq_false (by omega)
  ·unfold DF;exact decide_eq_false (by omega)
  ·have hrow:(Aq y.op.toNat).map (·.plain)=some false:=by rcases hi0 with⟨hop,_⟩ | ⟨hop,_⟩<;>rw [hop]<;>kernel_rfl
   obtain⟨RJ,hr1,hr2⟩:=Option.map_eq_some_iff.1 hrow
   unfold BI
   rw [hr1]
   rcases hi0 with⟨hop,_⟩ | ⟨hop,_⟩<;>(rw [hop];simp only [hr2,hty];rfl)
 have HE:=AA hE
 have hat:=fun(W:World) (hb:Below lo w W)=>CZ (Rd.below r0 hb h.hhi) hjt
 obtain⟨bt,ot,S_,_,hbt,_,_,_,_⟩:=hat w (Below.refl _ _)
 subst S_
 have HAT:Hid (∀W,Below lo w W→W.cell? ⟨bt,ot+j*2,none⟩=some (.string ty.p)∧W.cell? ⟨bt,ot+j*2+1,none⟩=some (.string ty.r)):=AA (fun W hW=>by
  obtain⟨b',o',e',_,_,q0,q1,_,_⟩:=hat W hW
  injection e' with e';injection e' with eb eo _;subst eb eo
  exact⟨q0,q1⟩)
 obtain⟨vS,vF,vO,bs,hk⟩:=h1.wk
 have xq:(w.alloc (.cells #[.int .u8 (y.op.toNat:Int),.int .i64 y.a,v] 122)).cell? ⟨g,5,none⟩=some (.slice A5 m.fns.length c5):=by rw [←e5];exact hk.blk.cell 5
 have hc1:(w.alloc (.cells #[.int .u8 (y.op.toNat:Int),.int .i64 y.a,v] 122)).cell? ⟨g,1,none⟩=some (.slice A1 m.hosts.length c1):=by rw [←e1];exact hk.blk.cell 1
 have hc0:(w.alloc (.cells #[.int .u8 (y.op.toNat:Int),.int .i64 y.a,v] 122)).cell? ⟨g,0,none⟩=some (.slice (some ⟨bt,ot,none⟩) m.types.length c0):=by rw [←e0];exact hk.blk.cell 0
 have hx0:=b2.q 0 rfl
 have hx1:(w.alloc (.cells #[.int .u8 (y.op.toNat:Int),.int .i64 y.a,v] 122)).cell? ⟨w.heap.size,1,none⟩=some (.int .i64 k):=by rw [←hya];exact b2.cell 1
 have hal: ∀b i u,w.cell? ⟨b,i,none⟩=some u→(w.alloc (.cells #[.int .u8 (y.op.toNat:Int),.int .i64 y.a,v] 122)).cell? ⟨b,i,none⟩=some u:=fun b i u hu=>by
  rw [←hu];exact World.cell?_alloc_some _ _ _ (by rw [hu];rfl)
 have nU:=HAT.out _ hb
 have hq0:=nU.1
 have hlt:m.types.length≤1000000:=by have:=h.VL.nt;omega
 have Ik:=fun W=>Dq (k:Int) L (by omega) (by omega) W
 have UD:Hid (∀W,Calls prog 186 #[.int .i64 k,.int .i64 L] W fun e w'=>W=w'∧e= .returned (.int .i64 k)):=AA (fun W=>(Ik W).mono fun e w' hh=>⟨hh.1,by
  rcases hh.2 with⟨_,he⟩ | ⟨h0,_⟩
  ·exact he
  ·rw [←hya,hiL] at h0;cases h0⟩)
 have HR:=AA h1;have HB:=AA hb;have HK:=AA hk
 have hkk:(0:Int)≤k:=by omega
 have YZ:(k:Int)<L:=by omega
 have hjj:(0:Int)≤j:=by omega
 have hjj2:(j:Int)<m.types.length:=by omega
 have hop2:=AA hop1
 have hsz:=h.size
 have htop:o.base.size≤st.shape.size:=by have:=h.top;unfold BU at this;rw [hop1] at this;exact this
 clear h h1 hb b2 hi0 hk hE hat Ik r0 r1 r2 r5 hop1 hjt nU hty Ho hdd hya hiL hkl hjl
 rcases KD with⟨g11,rfl,rfl,hf0⟩ | ⟨g11,rfl,rfl,hf0⟩
 all_goals
  replace hf0:=hal _ _ _ hf0
  clear hal
  go_enter func167,ntmps167
  go_upto_region 1 with fail
  generalize w.alloc (.cells #[.int .u8 (y.op.toNat:Int),.int .i64 y.a,v] 122)=w1 at*
  first | (have _t:((y.op.toNat:Int)==11)=true:=g11;go_upto_region 3 with fail) | go_upto_region 4 with fail
  go_quiet ((go_at_call 186;first | exact BF (UD.out _) | exact BA (UD.out _)))
  go_wp2_with fail
  refine(Ia ty.p _ ⟨_,_,_,_,HK.out.drewN _⟩ hop2.out (by omega) htop (by omega) (by omega)).mono ?_
  rintro e w3 ⟨hkp3,⟨h0,rfl,hk3⟩ | ⟨h0,rfl,hc3⟩⟩
  all_goals have hb3:=BZ hkp3 HK.out.low (Nat.le_trans HR.out.Fq (Nat.le_refl _))
  case inr=>
   have H0:=AA h0;clear h0
   go_wp2_with fail
   exact⟨rfl,.YX HE.out (HB.out.trans ((below_drewN (Below.refl _ _) _).trans hb3)) H0.out hc3⟩
  have H0:=AA h0
  have Ml:=HB.out.trans ((below_drewN (Below.refl _ _) _).trans hb3)
  have HB3:=AA Ml
  have nV:=HAT.out _ Ml
  have hq3:=nV.2
  obtain⟨uS,uF,uO,us,hu⟩:=hk3
  have hu0:w3.cell? ⟨g,0,none⟩=some (.slice (some ⟨bt,ot,none⟩) m.types.length c0):=by rw [←e0];exact hu.blk.cell 0
  have HU:=AA hu
  clear h0 Ml nV hu
  go_wp2_with fail
  refine(IQ (st.shape.extract 0 (st.shape.size-ty.p.size)) ty.r (st.shape.size-ty.p.size) (by rw [ByteArray.size_extract];omega) _ ⟨_,_,_,_,HU.out⟩ (by simp only [ByteArray.size_extract];omega) (by omega)).mono ?_
  rintro e w4 ⟨Le,⟨h1,rfl,hk4⟩ | ⟨h1,rfl,hc4⟩⟩
  all_goals have hb4:=BZ Le HU.out.low (Nat.le_trans HR.out.Fq hb3.size)
  ·go_wp2_with fail
   go_end0
   exact .done HE.out (HB3.out.trans hb4) H0.out h1 hk4
  ·have H1:=AA h1;clear h1
   go_wp2_with fail
   exact⟨rfl,.aI HE.out (HB3.out.trans hb4) H0.out H1.out hc4⟩
theorem JL {w w':World} {g b i:Nat} (h:Keep (fun k=>k≠g) w w') (hb:b<w.heap.size) (hn:b≠g):w'.cell? ⟨b,i,none⟩=w.cell? ⟨b,i,none⟩:=by
 have:=h.block b hb hn
 simp [World.cell?,this]
theorem TT (s:ByteArray):ends s Dm=true:=by
 unfold ends Dm
 simp
theorem dH (s:ByteArray):s.extract 0 (s.size-Dm.size)=s:=by
 unfold Dm
 simp
theorem WT (s:ByteArray):s++Dm=s:=by
 unfold Dm
 simp
theorem NV {m:AP} {f:Bv} (h:XV m f):(CS m f).size≤64:=by
 have:=h.loc
 unfold CS
 rw [ByteArray.size_append]
 omega
theorem WU (v:Value) (y:Ad) {lo g hi:Nat} {x:Fx} {st:Cn} {m:AP} {f:Bv} {AJ:List Int} {p:Nat} (w:World) (h:EG m f p st y lo hi g x w) (hop:y.op.toNat=18∨y.op.toNat=19∨y.op.toNat=20) (hi0:FE y.a (CS m f).size=false):
 Calls prog 169 #[.pointer (some ⟨g,0,none⟩),.agg #[.int .u8 (y.op.toNat:Int),.int .i64 y.a,v]] w fun e w'=>Ab m f AJ p st y w w' lo g x e:=by
 have hcl:AZ y.op=false:=by unfold AZ;exact decide_eq_false (by omega)
 obtain⟨A0,c0,A1,c1,A2,c2,A5,c5,vS,vF,vO,bs,hb,h1,b2,e0,e1,e2,e5,r0,r1,r2,r5,hk,HR,HB,HC,HK,hsz⟩:=h.pre v
 have hI:=AA hi0
 have HE:Hid ((BI m f st y).2.2=30):=AA (by
  have hrow:(Aq y.op.toNat).map (·.plain)=some false:=by rcases hop with hop | hop | hop<;>rw [hop]<;>kernel_rfl
  obtain⟨RJ,hr1,hr2⟩:=Option.map_eq_some_iff.1 hrow
  unfold BI BR
  rw [hr1]
  rcases hop with hop | hop | hop<;>simp [hop,hr2,hi0])
 have hlen:=NV h.fok
 have u6:(w.alloc (.cells #[.int .u8 (y.op.toNat:Int),.int .i64 y.a,v] 122)).cell? ⟨g,10,none⟩=some (.string (CS m f)):=by rw [←h.loc];exact hk.blk.cell 10
 have hx0:=b2.q 0 rfl
 have hx1:=b2.q 1 rfl
 have g21:((y.op.toNat:Int)==21)=false:=by simp;omega
 have g22:((y.op.toNat:Int)==22)=false:=by simp;omega
 clear h h1 hb b2 e0 e1 e2 e5 hi0 hop hk r0 r1 r2 r5
 go_enter func169,ntmps169
 go_upto_region 1 with fail
 generalize w.alloc (.cells #[.int .u8 (y.op.toNat:Int),.int .i64 y.a,v] 122)=w1 at*
 go_upto_region 6 with fail
 refine wp_region_held_drew (S:=fun W=>W.cell? ⟨g,10,none⟩=some (.string (CS m f))∧W.cell? ⟨w.heap.size,1,none⟩=some (.int .i64 y.a)) (by kernel_rfl) ⟨u6,hx1⟩ (fun hHeld=> ?_)
 refine Jm (i:=0) (v:= ?_) rfl (by kernel_rfl) (fun _ _ _ h=>h) rfl (by intro w hSw;(try dsimp only at hSw);go_simp;try with_reducible rfl) hHeld ?_
 refine Jm (i:=1) (v:= ?_) rfl (by kernel_rfl) (fun _ _ _ h=>h) rfl (by intro w hSw;(try dsimp only at hSw);go_simp;try with_reducible rfl) hHeld ?_
 refine Jm (i:=2) (v:= ?_) rfl (by kernel_rfl) (fun _ _ _ h=>h) rfl (by intro w hSw;(try dsimp only at hSw);go_simp;try with_reducible rfl) hHeld ?_
 refine Jm (i:=3) (v:= ?_) rfl (by kernel_rfl) (fun _ _ _ h=>h) rfl (by intro w hSw;(try dsimp only at hSw);go_simp;try with_reducible rfl) hHeld ?_
 refine Jm (i:=4) (v:= ?_) rfl (by kernel_rfl) (fun _ _ _ h=>h) rfl (by intro w hSw;(try dsimp only at hSw);go_simp;try with_reducible rfl) hHeld ?_
 refine Jm (i:=5) (v:= ?_) rfl (by kernel_rfl) (fun _ _ _ h=>h) rfl (by intro w hSw;(try dsimp only at hSw);go_simp;try with_reducible rfl) hHeld ?_
 refine Jm (i:=6) (v:= ?_) rfl (by kernel_rfl) (fun _ _ _ h=>h) rfl (by intro w hSw;(try dsimp only at hSw);go_simp;try with_reducible rfl) hHeld ?_
 refine wpAnyH_ready (rs:= [7]) (by kernel_rfl) (by simp) ?_
 refine AllReadyH.cons rfl (fun K hK=> ?_) AllReadyH.nil
 go_simp
 go_at_call 186
 refine(Dq y.a (CS m f).size HR.out.ya (by omega) _).mono ?_
 rintro e w2 ⟨rfl,⟨h0,rfl⟩ | ⟨h0,rfl⟩⟩
 ·rw [hI.out] at h0;cases h0
 go_wp2_with fail
 exact⟨rfl,.fail hcl (HB.out.trans (below_drewN (Below.refl _ _) 1)) HE.out (by decide) HC.out⟩
theorem TS (v:Value) (y:Ad) {lo g hi:Nat} {x:Fx} {st:Cn} {m:AP} {f:Bv} {AJ:List Int} {p:Nat} (w:World) (h:EG m f p st y lo hi g x w) (hop:y.op.toNat=18∨y.op.toNat=19∨y.op.toNat=20) (hi0:FE y.a (CS m f).size=true) (hdd:st.dead=false):
 Calls prog 169 #[.pointer (some ⟨g,0,none⟩),.agg #[.int .u8 (y.op.toNat:Int),.int .i64 y.a,v]] w fun e w'=>Ab m f AJ p st y w w' lo g x e:=by
 have hcl:AZ y.op=false:=by unfold AZ;exact decide_eq_false (by omega)
 obtain⟨A0,c0,A1,c1,A2,c2,A5,c5,vS,vF,vO,bs,hb,h1,b2,e0,e1,e2,e5,r0,r1,r2,r5,hk,HR,HB,HC,HK,hsz⟩:=h.pre v
 obtain⟨o,rr,hop1,hrr⟩:=h.ne
 obtain⟨k,hya,hkl⟩:=Ed hi0
 have hlen:=NV h.fok
 obtain⟨ly,PX⟩: ∃ly,ly=(CS m f).extract k (k+1):=⟨_,rfl⟩
 have PE:ly.size≤1:=by rw [PX,ByteArray.size_extract];omega
 obtain⟨po,pu,hpp⟩: ∃po pu,y.op.toNat=18∧Dm=po∧ly=pu∨ly=po∧(y.op.toNat=19∧Dm=pu∨y.op.toNat=20∧ly=pu):=by
  rcases hop with hop | hop | hop
  ·exact⟨_,_,.inl ⟨hop,rfl,rfl⟩⟩
  ·exact⟨_,_,.inr ⟨rfl,.inl ⟨hop,rfl⟩⟩⟩
  ·exact⟨_,_,.inr ⟨rfl,.inr ⟨hop,rfl⟩⟩⟩
 have jY:=AA hpp
 have HE:Hid (Eff m f st y po pu):=AA (by
  refine⟨hcl,?_,?_,?_,hdd⟩
  ·unfold Aw;exact decide_eq_false (by omega)
  ·unfold DF;exact decide_eq_false (by omega)
  ·have hrow:(Aq y.op.toNat).map (·.plain)=some false:=by rcases hop with hop | hop | hop<;>rw [hop]<;>kernel_rfl
   obtain⟨RJ,hr1,hr2⟩:=Option.map_eq_some_iff.1 hrow
   unfold BI BR
   rw [hr1]
   rw [hya] at hi0
   rcases hpp with⟨hop,rfl,rfl⟩ | ⟨rfl,⟨hop,rfl⟩ | ⟨hop,rfl⟩⟩<;>simp [hop,hr2,hi0,PX,hya])
 have Ik:=fun W=>Dq (k:Int) (CS m f).size (by omega) (by omega) W
 have UD:Hid (∀W,Calls prog 186 #[.int .i64 k,.int .i64 (CS m f).size] W fun e w'=>W=w'∧e= .returned (.int .i64 k)):=AA (fun W=>(Ik W).mono fun e w' hh=>⟨hh.1,by
  rcases hh.2 with⟨_,he⟩ | ⟨h0,_⟩
  ·exact he
  ·rw [←hya,hi0] at h0;cases h0⟩)
 have u6:(w.alloc (.cells #[.int .u8 (y.op.toNat:Int),.int .i64 y.a,v] 122)).cell? ⟨g,10,none⟩=some (.string (CS m f)):=by rw [←h.loc];exact hk.blk.cell 10
 have hx0:=b2.q 0 rfl
 have hx1:(w.alloc (.cells #[.int .u8 (y.op.toNat:Int),.int .i64 y.a,v] 122)).cell? ⟨w.heap.size,1,none⟩=some (.int .i64 k):=by rw [←hya];exact b2.cell 1
 have hkk:(0:Int)≤k:=by omega
 have YZ:(k:Int)<(CS m f).size:=by omega
 have ADt:(k:Int)+1≤(CS m f).size:=by omega
 have hop2:=AA hop1
 have htop:o.base.size≤st.shape.size:=by have:=h.top;unfold BU at this;rw [hop1] at this;exact this
 have hbl:w.heap.size<lo∨lo≤w.heap.size:=by omega
 have nW:=AA PX
 have hlo:=h.Fq
 have aJ:Hid (g<w.heap.size):=AA (by
  obtain⟨_,_,_,_,h9⟩:=h.wk
  exact h9.blk.lt)
 have g21:((y.op.toNat:Int)==21)=false:=by simp;omega
 have g22:((y.op.toNat:Int)==22)=false:=by simp;omega
 have n21:((y.op.toNat:Int) !=21)=true:=by simp;omega
 have n22:((y.op.toNat:Int) !=22)=true:=by simp;omega
 clear hpp h h1 hb b2 e0 e1 e2 e5 hi0 hop hk r0 r1 r2 r5 Ik hya hop1 hdd PX
 go_enter func169,ntmps169
 go_upto_region 1 with fail
 generalize hw1:w.alloc (.cells #[.int .u8 (y.op.toNat:Int),.int .i64 y.a,v] 122)=w1 at*
 have hgw:w.heap.size≠g:=by have:=aJ.out;omega
 have hwl:w.heap.size<w1.heap.size:=by rw [←hw1];simp
 clear hw1
 go_upto_region 6 with fail
 go_quiet ((go_at_call 186;first | exact BF (UD.out _) | exact BA (UD.out _)))
 have Gn:=AA (HB.out.trans (below_drewN (Below.refl _ _) nq))
 rcases jY.out with⟨hT,rfl,rfl⟩ | ⟨rfl,hT⟩
 ·have g18:((y.op.toNat:Int) !=18)=false:=by simp;omega
  have g19:((y.op.toNat:Int) !=19)=true:=by simp;omega
  clear jY hT
  go_wp2_with fail
  rw [←nW.out]
  have H0:=AA (BX (e:=33) (TT (AX st)))
  have HB3:=Gn
  refine(IQ st.shape ly (st.shape.size-Dm.size) (by rfl) _ ⟨_,_,_,_,HK.out.drewN _⟩ (by omega) (by omega)).mono ?_
  rintro e w4 ⟨Le,⟨h1,rfl,hk4⟩ | ⟨h1,rfl,hc4⟩⟩
  all_goals have hb4:=BZ Le HK.out.low (Nat.le_trans HR.out.Fq (Nat.le_refl _))
  ·go_wp2_with fail
   go_end0
   exact .done HE.out (HB3.out.trans hb4) H0.out h1 (by rw [dH];exact hk4)
  ·have H1:=AA h1;clear h1
   go_wp2_with fail
   exact⟨rfl,.aI HE.out (HB3.out.trans hb4) H0.out H1.out hc4⟩
 have g18:((y.op.toNat:Int) !=18)=true:=by simp;omega
 have HTT:=AA hT
 clear hT jY
 go_wp2_with fail
 rw [←nW.out]
 refine(Ia ly _ ⟨_,_,_,_,HK.out.drewN _⟩ hop2.out (by omega) htop (by omega) (by omega)).mono ?_
 rintro e w3 ⟨hkp3,⟨h0,rfl,hk3⟩ | ⟨h0,rfl,hc3⟩⟩
 all_goals have hb3:=BZ hkp3 HK.out.low HR.out.Fq
 case inr=>
  have H0:=AA h0;clear h0
  go_wp2_with fail
  exact⟨rfl,.YX HE.out (Gn.out.trans hb3) H0.out hc3⟩
 have H0:=AA h0;clear h0
 have HB3:=AA (Gn.out.trans hb3)
 obtain⟨uS,uF,uO,us,hu⟩:=hk3
 have HU:=AA hu
 have hx3:w3.cell? ⟨w.heap.size,0,none⟩=some (.int .u8 (y.op.toNat:Int)):=(JL hkp3 hwl hgw).trans hx0
 clear hu hkp3
 rcases HTT.out with⟨hT,rfl⟩ | ⟨hT,rfl⟩
 ·have g19:((y.op.toNat:Int) !=19)=false:=by simp;omega
  clear HTT hT
  go_wp2_with fail
  go_end0
  exact .done HE.out HB3.out H0.out (BX (decide_eq_true (by show _+0≤256;omega))) (by rw [WT];exact⟨_,_,_,_,HU.out⟩)
 have g19:((y.op.toNat:Int) !=19)=true:=by simp;omega
 clear HTT hT
 go_wp2_with fail
 refine(IQ (st.shape.extract 0 (st.shape.size-ly.size)) ly (st.shape.size-ly.size) (by rw [ByteArray.size_extract];omega) _ ⟨_,_,_,_,HU.out⟩ (by simp only [ByteArray.size_extract];omega) (by omega)).mono ?_
 rintro e w4 ⟨Le,⟨h1,rfl,hk4⟩ | ⟨h1,rfl,hc4⟩⟩
 all_goals have hb4:=BZ Le HK.out.low (Nat.le_trans HR.out.Fq hb3.size)
 ·go_wp2_with fail
  go_end0
  exact .done HE.out (HB3.out.trans hb4) H0.out h1 (by exact hk4)
 ·have H1:=AA h1;clear h1
  go_wp2_with fail
  exact⟨rfl,.aI HE.out (HB3.out.trans hb4) H0.out H1.out hc4⟩
end Go.Proofs.YtlagonfamllgjaaGreatDoor
