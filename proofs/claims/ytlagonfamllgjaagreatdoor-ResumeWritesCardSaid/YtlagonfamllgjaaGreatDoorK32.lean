/- Part 32 of the proof: VdH VdI -/
import Derived.Test.YtlagonfamllgjaaGreatDoorK31
namespace Go.Proofs.YtlagonfamllgjaaGreatDoor
set_option linter.unusedVariables false
set_option linter.unusedSimpArgs false
set_option maxRecDepth 100000
set_option maxHeartbeats 4000000
open Go.RowKit Tryz
theorem iE:(prog.info? 173).map (fun i=>(i.zero,i.size,i.bytes))=some (some (.pointer none),1,8):=by kernel_rfl
theorem PZ {w:World} {b1 b2 s1 s2 n1 n2:Nat} {e1 e2:TypeId} {v1 v2:Value} {x1 x2:List Value} (h:w.ownsRow b1 e1 s1 v1 n1 x1) (h':w.ownsRow b2 e2 s2 v2 n2 x2) (hne:e1≠e2): ∀k,v1.ownBlock=some k→v2.ownBlock≠some k:=by
 intro k hk hk'
 rcases h.2 with⟨hv,_⟩ | ⟨g,cap,cur,hv,_,hg,_⟩
 ·rw [hv] at hk;cases hk
 ·rcases h'.2 with⟨hv',_⟩ | ⟨g',cap',cur',hv',_,hg',_⟩
  ·rw [hv'] at hk';cases hk'
  ·rw [hv] at hk;rw [hv'] at hk'
   injection hk with hk;injection hk' with hk'
   have hk:g=k:=hk
   have hk':g'=k:=hk'
   subst hk hk'
   rw [hg] at hg'
   injection hg' with hg'
   injection hg' with _ h2
   exact hne h2
section
variable {W W':World} {lo g:Nat} {x:Fx} {st:Cn} {pc:Int} {vS vF vO:Value} {bs:List Nat}
theorem Fg.floor (h:Fg W lo g x st pc vS vF vO bs) {bF c n:Nat} (hv:vF= .slice (some ⟨bF,0,none⟩) n c) (hn:n=st.floors.length) (p:Nat) (v:Int):
 Below lo W (W.setCell ⟨bF,p,none⟩ (.int .i64 v))∧Fg (W.setCell ⟨bF,p,none⟩ (.int .i64 v)) lo g x {st with floors:=st.floors.set p v} pc vS vF vO bs:=by
 subst hn
 have hf:=h.fl
 rw [hv] at hf
 have hs:=hf.stored p (.int .i64 v)
 have hlo:=(hf.lt bF rfl).1
 refine⟨(Below.refl _ _).setCell hlo _,?_,?_,?_,?_,h.bl,fun k o b h1 h2=>⟨(h.each k o b h1 h2).1,(h.each k o b h1 h2).2.far (p:=⟨bF,p,none⟩) ?_ _⟩,h.low,h.et,fun q hq=>⟨(h.ex q hq).1.far (p:=⟨bF,p,none⟩) (fun e=>(h.ex q hq).2 (by rw [hv,show q.1=bF from e];rfl)) _,(h.ex q hq).2⟩⟩
 ·exact h.blk.far (p:=⟨bF,p,none⟩) (fun e=>Ay hf h.blk (by decide) (by rw [e];rfl)) _
 ·exact BD h.sh (p:=⟨bF,p,none⟩) (fun e=>PZ h.sh hf (by decide) _ e rfl) _
 ·rw [hv,List.map_set,List.length_set];exact hs.1
 ·exact BD h.op (p:=⟨bF,p,none⟩) (fun e=>PZ h.op hf (by decide) _ e rfl) _
 ·exact fun e=>Ay hf (h.each k o b h1 h2).2 (by decide) (by rw [e];rfl)
theorem Fg.push (h:Fg W lo g x st pc vS vF vO bs) {o:Bt} {b:Nat} (hb:AQ W b 175 (Ua o)) (hlb:lo≤b) {A:Option Addr} {c n:Nat} (hn:n=st.op.length) (hg:W.grownBy W' vO.ownBlock)
 (ho:W'.ownsRow lo 173 1 (.slice A (n+1) c) (n+1) (bs.reverse.map mg++ [mg b])):
 Below lo W (W'.setCell ⟨g,17,none⟩ (.slice A (n+1) c))∧Fg (W'.setCell ⟨g,17,none⟩ (.slice A (n+1) c)) lo g x {st with op:=o::st.op} pc vS vF (.slice A (n+1) c) (b::bs):=by
 subst hn
 have kept: ∀ {e:TypeId} {v:Value} {m:Nat} {xs:List Value},W.ownsRow lo e 1 v m xs→e≠173→W'.ownsRow lo e 1 v m xs:=fun {e v m xs} hr hne=>by
  refine hr.kept hg ?_
  cases hv:v.ownBlock with
  | none=>exact .inl rfl
  | some k=>exact .inr fun e'=>PZ hr h.op hne k hv e'.symm
 have blk: ∀ {k:Nat} {t:TypeId} {xs:List Value},AQ W k t xs→t≠173→AQ W' k t xs:=fun {k t xs} hk hne=>Av hg hk (fun e=>Ay h.op hk (Ne.symm hne) e)
 have hw:=blk h.blk (by decide)
 have hob:Below lo W W':=BK h.op hg (by have:=(hb.lt);omega)
 refine⟨hob.setCell h.low _,?_,?_,?_,?_,by simp [h.bl],fun k o' b' h1 h2=> ?_,h.low,h.et,fun q hq=>⟨(blk (h.ex q hq).1 (h.et q hq).2.2.1).far (p:=⟨g,17,none⟩) (Fv (blk (h.ex q hq).1 (h.et q hq).2.2.1) hw (h.et q hq).1) _,(h.ex q hq).2⟩⟩
 ·exact hw.set 17 _
 ·exact BD (kept h.sh (by decide)) (p:=⟨g,17,none⟩) (Ay (kept h.sh (by decide)) hw (by decide)) _
 ·exact BD (kept h.fl (by decide)) (p:=⟨g,17,none⟩) (Ay (kept h.fl (by decide)) hw (by decide)) _
 ·have:=BD ho (p:=⟨g,17,none⟩) (Ay ho hw (by decide)) (.slice A (st.op.length+1) c)
  rw [List.reverse_cons,List.map_append]
  exact this
 ·have key: ∀(q:Bt) (k:Nat),lo≤k→AQ W k 175 (Ua q)→lo≤k∧AQ (W'.setCell ⟨g,17,none⟩ (.slice A (st.op.length+1) c)) k 175 (Ua q):=fun q k hk hq=>
   ⟨hk,(blk hq (by decide)).far (p:=⟨g,17,none⟩) (Fv (blk hq (by decide)) hw (by decide)) _⟩
  cases k with
  | zero=>
   simp only [List.getElem?_cons_zero,Option.some.injEq] at h1 h2
   subst h1 h2
   exact key _ _ hlb hb
  | succ k=>
   simp only [List.getElem?_cons_succ] at h1 h2
   exact key _ _ (h.each k o' b' h1 h2).1 (h.each k o' b' h1 h2).2
end
theorem Qz (s0 s:ByteArray) (n:Nat) (hn:s0.size=n) {lo g:Nat} {x:Fx} {st:Cn} {pc:Int} {vS vF vO:Value} {bs:List Nat} (w:World) (h:Fg w lo g x {st with shape:=s0} pc vS vF vO bs) (hs:s0.size≤1000000) (hs2:s.size≤1000000):
 Calls prog 172 #[.pointer (some ⟨g,0,none⟩),.string s] w fun e w'=>Mj w w' g x pc (Ae (decide (n+s.size≤256)) 34) e (Fg w' lo g x {st with shape:=s0++s} pc vS vF vO bs):=by
 subst hn
 exact Sy s w h hs hs2
theorem Fg.other {W:World} {lo g:Nat} {x:Fx} {st:Cn} {pc:Int} {vS vF vO:Value} {bs:List Nat} (h:Fg W lo g x st pc vS vF vO bs) {b i:Nat} {u:Value} {xs:List Value} (hb:AQ W b 175 xs) (hn:b ∉ bs):Fg (W.setCell ⟨b,i,none⟩ u) lo g x st pc vS vF vO bs:=
 ⟨h.blk.far (p:=⟨b,i,none⟩) (Fv h.blk hb (by decide)) _,BD h.sh (p:=⟨b,i,none⟩) (Ay h.sh hb (by decide)) _,BD h.fl (p:=⟨b,i,none⟩) (Ay h.fl hb (by decide)) _,BD h.op (p:=⟨b,i,none⟩) (Ay h.op hb (by decide)) _,h.bl,
  fun k o b' h1 h2=>⟨(h.each k o b' h1 h2).1,(h.each k o b' h1 h2).2.far (p:=⟨b,i,none⟩) (fun e=>hn (by rw [←show b'=b from e];exact List.mem_of_getElem? h2)) _⟩,h.low,h.et,fun q hq=>⟨(h.ex q hq).1.far (p:=⟨b,i,none⟩) (Fv (h.ex q hq).1 hb (h.et q hq).2.2.2) _,(h.ex q hq).2⟩⟩
theorem Fg.old {W:World} {lo g:Nat} {x:Fx} {st:Cn} {pc:Int} {vS vF vO:Value} {bs:List Nat} (h:Fg W lo g x st pc vS vF vO bs): ∀b∈bs,b<W.heap.size:=by
 intro b hb
 obtain⟨k,hk⟩:=List.getElem?_of_mem hb
 have hl:=(List.getElem?_eq_some_iff.1 hk).1
 have hbl:=h.bl
 obtain⟨o,ho⟩: ∃o,st.op[k]?=some o:=⟨_,List.getElem?_eq_getElem (by omega)⟩
 exact(h.each k o b ho hk).2.lt
section
variable {m:AP} {f:Bv} {AJ:List Int} {p:Nat} {st:Cn} {y:Ad} {w w':World} {lo g:Nat} {x:Fx} {po pu:ByteArray}
theorem Ab.o33 (hcl:AZ y.op=false) (he:BI m f st y=(po,pu,0)) (hb:Below lo w w') (h0:Ae (ends (AX st) po) 33≠0) (hc:Nn w' g x p):Ab m f AJ p st y w w' lo g x (.panicked (D6 (Ae (ends (AX st) po) 33))):=by
 refine⟨hb,?_⟩
 have hf:ends (AX st) po=false:=by cases h:ends (AX st) po with | false=>rfl | true=>exact absurd (BX h) h0
 have:D_ m f AJ p st y= .inl 33:=by unfold D_;rw [if_neg (by rw [hcl];decide),he];simp only [];rw [if_neg (by simp),if_pos hf]
 rw [this,CJ hf]
 exact⟨rfl,hc⟩
theorem Ab.o34 (hcl:AZ y.op=false) (he:BI m f st y=(po,pu,0)) (hb:Below lo w w') (h0:Ae (ends (AX st) po) 33=0) (h1:Ae (decide (st.shape.size-po.size+pu.size≤256)) 34≠0) (hc:Nn w' g x p):
 Ab m f AJ p st y w w' lo g x (.panicked (D6 (Ae (decide (st.shape.size-po.size+pu.size≤256)) 34))):=by
 refine⟨hb,?_⟩
 have ht:=Bh (by decide) h0
 have hf:decide (st.shape.size-po.size+pu.size≤256)=false:=by
  cases h:decide (st.shape.size-po.size+pu.size≤256)with | false=>rfl | true=>exact absurd (BX h) h1
 have hf':=of_decide_eq_false hf
 have:D_ m f AJ p st y= .inl 34:=by unfold D_;rw [if_neg (by rw [hcl];decide),he];simp only [];rw [if_neg (by simp),if_neg (by rw [ht];decide),if_pos (by omega)]
 rw [this,CJ hf]
 exact⟨rfl,hc⟩
theorem Ab.ADv (hcl:AZ y.op=false) (ho:Aw y.op=true) (hdd:st.dead=false) (he:BI m f st y=(po,pu,0)) (hb:Below lo w w') (h0:Ae (ends (AX st) po) 33=0) (h1:Ae (decide (st.shape.size-po.size+pu.size≤256)) 34=0)
 (hk:Wk w' lo g x {st with shape:=st.shape.extract 0 (st.shape.size-po.size)++pu,op:=⟨B_ m y.a,p,y.op,st.shape.extract 0 (st.shape.size-po.size)⟩::st.op,floors:=st.floors.set p ((st.shape.size-po.size:Nat):Int)} p):Ab m f AJ p st y w w' lo g x (.returned (.tuple #[])):=by
 refine⟨hb,?_⟩
 have ht:=Bh (by decide) h0
 have hf':=of_decide_eq_true (Bh (by decide) h1)
 have ha:DF y.op=false:=by unfold Aw at ho;unfold DF;have:=of_decide_eq_true ho;exact decide_eq_false (by omega)
 have:D_ m f AJ p st y= .inr {st with shape:=st.shape.extract 0 (st.shape.size-po.size)++pu,op:=⟨B_ m y.a,p,y.op,st.shape.extract 0 (st.shape.size-po.size)⟩::st.op,floors:=st.floors.set p ((st.shape.size-po.size:Nat):Int)}:=by
  unfold D_
  rw [if_neg (by rw [hcl];decide),he]
  simp only []
  rw [if_neg (by simp),if_neg (by rw [ht];decide),if_neg (by omega),ho,ha]
  simp only [if_true]
  rw [hdd]
 rw [this]
 exact⟨rfl,_,hk,fun _=>rfl⟩
end
theorem Ya (v:Value) (y:Ad) {lo g hi:Nat} {x:Fx} {st:Cn} {m:AP} {f:Bv} {AJ:List Int} {p:Nat} (w:World) (h:EG m f p st y lo hi g x w) (hop:y.op.toNat=2∨y.op.toNat=3∨y.op.toNat=4) (hi0:FE y.a m.types.length=false):
 Calls prog 164 #[.pointer (some ⟨g,0,none⟩),.agg #[.int .u8 (y.op.toNat:Int),.int .i64 y.a,v]] w fun e w'=>Ab m f AJ p st y w w' lo g x e:=by
 have hcl:AZ y.op=false:=by unfold AZ;exact decide_eq_false (by omega)
 obtain⟨A0,c0,A1,c1,A2,c2,A5,c5,vS,vF,vO,bs,hb,h1,b2,e0,e1,e2,e5,r0,r1,r2,r5,hk,HR,HB,HC,HK,hsz⟩:=h.pre v
 have hI:=AA hi0
 have HE:Hid ((BI m f st y).2.2=30):=AA (by
  have hrow:(Aq y.op.toNat).map (·.plain)=some false:=by rcases hop with hop | hop | hop<;>rw [hop]<;>kernel_rfl
  obtain⟨RJ,hr1,hr2⟩:=Option.map_eq_some_iff.1 hrow
  unfold BI CO
  rw [hr1]
  rcases hop with hop | hop | hop<;>simp [hop,hr2,hi0])
 have hlen:m.types.length≤1000000:=by have:=h.VL.nt;omega
 have hc0:(w.alloc (.cells #[.int .u8 (y.op.toNat:Int),.int .i64 y.a,v] 122)).cell? ⟨g,0,none⟩=some (.slice A0 m.types.length c0):=by rw [←e0];exact hk.blk.cell 0
 have nY:(w.alloc (.cells #[.int .u8 (y.op.toNat:Int),.int .i64 y.a,v] 122)).cell? ⟨g,20,none⟩=some (.int .i64 p):=hk.Ci.1
 have hx0:=b2.q 0 rfl
 have hx1:=b2.q 1 rfl
 clear h h1 hb b2 e0 e1 e2 e5 hi0 hop hk r0 r1 r2 r5
 go_enter func164,ntmps164
 go_upto_region 1 with fail
 generalize w.alloc (.cells #[.int .u8 (y.op.toNat:Int),.int .i64 y.a,v] 122)=w1 at*
 refine wp_region_held_drew (S:=fun W=>W.cell? ⟨g,0,none⟩=some (.slice A0 m.types.length c0)∧W.cell? ⟨w.heap.size,1,none⟩=some (.int .i64 y.a)∧W.cell? ⟨g,20,none⟩=some (.int .i64 p)∧W.cell? ⟨w.heap.size,0,none⟩=some (.int .u8 (y.op.toNat:Int))) (by kernel_rfl) ⟨hc0,hx1,nY,hx0⟩ (fun hHeld=> ?_)
 refine Jm (i:=0) (v:= ?_) rfl (by kernel_rfl) (fun _ _ _ h=>h) rfl (by intro w hSw;(try dsimp only at hSw);go_simp;try with_reducible rfl) hHeld ?_
 refine Jm (i:=1) (v:= ?_) rfl (by kernel_rfl) (fun _ _ _ h=>h) rfl (by intro w hSw;(try dsimp only at hSw);go_simp;try with_reducible rfl) hHeld ?_
 refine Jm (i:=2) (v:= ?_) rfl (by kernel_rfl) (fun _ _ _ h=>h) rfl (by intro w hSw;(try dsimp only at hSw);go_simp;try with_reducible rfl) hHeld ?_
 refine Jm (i:=3) (v:= ?_) rfl (by kernel_rfl) (fun _ _ _ h=>h) rfl (by intro w hSw;(try dsimp only at hSw);go_simp;try with_reducible rfl) hHeld ?_
 refine Jm (i:=4) (v:= ?_) rfl (by kernel_rfl) (fun _ _ _ h=>h) rfl (by intro w hSw;(try dsimp only at hSw);go_simp;try with_reducible rfl) hHeld ?_
 refine Jm (i:=5) (v:= ?_) rfl (by kernel_rfl) (fun _ _ _ h=>h) rfl (by intro w hSw;(try dsimp only at hSw);go_simp;try with_reducible rfl) hHeld ?_
 refine Jm (i:=6) (v:= ?_) rfl (by kernel_rfl) (fun _ _ _ h=>h) rfl (by intro w hSw;(try dsimp only at hSw);go_simp;try with_reducible rfl) hHeld ?_
 refine Jm (i:=7) (v:= ?_) rfl (by kernel_rfl) (fun _ _ _ h=>h) rfl (by intro w hSw;(try dsimp only at hSw);go_simp;try with_reducible rfl) hHeld ?_
 refine Jm (i:=8) (v:= ?_) rfl (by kernel_rfl) (fun _ _ _ h=>h) rfl (by intro w hSw;(try dsimp only at hSw);go_simp;try with_reducible rfl) hHeld ?_
 refine Jm (i:=9) (v:= ?_) rfl (by kernel_rfl) (fun _ _ _ h=>h) rfl (by intro w hSw;(try dsimp only at hSw);go_simp;try with_reducible rfl) hHeld ?_
 refine Jm (i:=10) (v:= ?_) rfl (by kernel_rfl) (fun _ _ _ h=>h) rfl (by intro w hSw;(try dsimp only at hSw);go_simp;try with_reducible rfl) hHeld ?_
 refine Jm (i:=11) (v:= ?_) rfl (by kernel_rfl) (fun _ _ _ h=>h) rfl (by intro w hSw;(try dsimp only at hSw);go_simp;try with_reducible rfl) hHeld ?_
 refine Jm (i:=12) (v:= ?_) rfl (by kernel_rfl) (fun _ _ _ h=>h) rfl (by intro w hSw;(try dsimp only at hSw);go_simp;try with_reducible rfl) hHeld ?_
 refine Jm (i:=16) (v:= ?_) rfl (by kernel_rfl) (fun _ _ _ h=>h) rfl (by intro w hSw;(try dsimp only at hSw);go_simp;try with_reducible rfl) hHeld ?_
 refine Jm (i:=17) (v:= ?_) rfl (by kernel_rfl) (fun _ _ _ h=>h) rfl (by intro w hSw;(try dsimp only at hSw);go_simp;try with_reducible rfl) hHeld ?_
 refine Jm (i:=18) (v:= ?_) rfl (by kernel_rfl) (fun _ _ _ h=>h) rfl (by intro w hSw;(try dsimp only at hSw);go_simp;try with_reducible rfl) hHeld ?_
 refine Jm (i:=19) (v:= ?_) rfl (by kernel_rfl) (fun _ _ _ h=>h) rfl (by intro w hSw;(try dsimp only at hSw);go_simp;try with_reducible rfl) hHeld ?_
 refine Jm (i:=20) (v:= ?_) rfl (by kernel_rfl) (fun _ _ _ h=>h) rfl (by intro w hSw;(try dsimp only at hSw);go_simp;try with_reducible rfl) hHeld ?_
 refine Jm (i:=21) (v:= ?_) rfl (by kernel_rfl) (fun _ _ _ h=>h) rfl (by intro w hSw;(try dsimp only at hSw);go_simp;try with_reducible rfl) hHeld ?_
 refine wpAnyH_ready (rs:= [13]) (by kernel_rfl) (by simp) ?_
 refine AllReadyH.cons rfl (fun K hK=> ?_) AllReadyH.nil
 go_simp
 go_at_call 186
 refine(Dq y.a m.types.length HR.out.ya (by omega) _).mono ?_
 rintro e w2 ⟨rfl,⟨h0,rfl⟩ | ⟨h0,rfl⟩⟩
 ·rw [hI.out] at h0;cases h0
 go_wp2_with fail
 exact⟨rfl,.fail hcl (HB.out.trans (below_drewN (Below.refl _ _) 1)) HE.out (by decide) HC.out⟩
theorem WW (v:Value) (y:Ad) {lo g hi:Nat} {x:Fx} {st:Cn} {m:AP} {f:Bv} {AJ:List Int} {p:Nat} (w:World) (h:EG m f p st y lo hi g x w) (hop:y.op.toNat=2∨y.op.toNat=3∨y.op.toNat=4) (k:Nat) (ty:Cg) (hya:y.a=k) (hty:m.types[k]?=some ty) (hdd:st.dead=false):
 Calls prog 164 #[.pointer (some ⟨g,0,none⟩),.agg #[.int .u8 (y.op.toNat:Int),.int .i64 y.a,v]] w fun e w'=>Ab m f AJ p st y w w' lo g x e:=by
 have hcl:AZ y.op=false:=by unfold AZ;exact decide_eq_false (by omega)
 obtain⟨A0,c0,A1,c1,A2,c2,A5,c5,vS,vF,vO,bs,hb,h1,b2,e0,e1,e2,e5,r0,r1,r2,r5,hk,HR,HB,HC,HK,hsz⟩:=h.pre v
 obtain⟨AO,cO,rfl⟩:=Ck hk.op
 obtain⟨i0,Ms,Mt,Mv,Il⟩:=info_parts iE
 have HI0:=AA Ms;have HZ0:=AA Mt;have h_:=AA Mv;have AAc:=AA Il
 clear Ms Mt Mv Il
 obtain⟨o,rr,hop1,hrr⟩:=h.ne
 have hkl:=(List.getElem?_eq_some_iff.1 hty).1
 have hi0:FE y.a m.types.length=true:=by unfold FE;exact decide_eq_true (by omega)
 have hlen:m.types.length≤1000000:=by have:=h.VL.nt;omega
 have ADs:=(h.VL.types ty (List.mem_of_getElem? hty)).1
 have Ho:B_ m y.a=ty:=by rw [hya];exact FC hty
 have ho:Aw y.op=true:=by unfold Aw;exact decide_eq_true (by omega)
 obtain⟨po,hpo⟩: ∃po,po=if y.op.toNat=4 then ty.p++wS else ty.p:=⟨_,rfl⟩
 have PY:po.size≤9:=by
  rw [hpo];split
  ·rw [ByteArray.size_append,show wS.size=1 from rfl];omega
  ·omega
 have H4:Hid ((((y.op.toNat:Int)==4)=true∧ty.p++ {data:= #[119]}=po)∨(((y.op.toNat:Int)==4)=false∧ty.p=po)):=AA (by
  by_cases h4:y.op.toNat=4
  ·exact .inl ⟨by simp;omega,by rw [hpo,if_pos h4];rfl⟩
  ·exact .inr ⟨by simp;omega,by rw [hpo,if_neg h4]⟩)
 have HE:Hid (BI m f st y=(po,ty.p,0)):=AA (by
  have hrow:(Aq y.op.toNat).map (·.plain)=some false:=by rcases hop with hop | hop | hop<;>rw [hop]<;>kernel_rfl
  obtain⟨RJ,hr1,hr2⟩:=Option.map_eq_some_iff.1 hrow
  rw [R6 (by rw [hr1];rfl) ho hi0,Ho,hpo])
 have Ik:=fun W=>Dq (k:Int) m.types.length (by omega) (by omega) W
 have UD:Hid (∀W,Calls prog 186 #[.int .i64 k,.int .i64 m.types.length] W fun e w'=>e= .returned (.int .i64 k)∧w'=W):=AA (fun W=>(Ik W).mono fun e w' hh=>⟨(by
  rcases hh.2 with⟨_,he⟩ | ⟨h0,_⟩
  ·exact he
  ·rw [←hya,hi0] at h0;cases h0),hh.1.symm⟩)
 obtain⟨bt,ot,S_,_,hbt,hq0,hq1,_,_⟩:=CZ (Rd.below r0 hb h.hhi) hty
 subst S_
 have hc0:(w.alloc (.cells #[.int .u8 (y.op.toNat:Int),.int .i64 y.a,v] 122)).cell? ⟨g,0,none⟩=some (.slice (some ⟨bt,ot,none⟩) m.types.length c0):=by rw [←e0];exact hk.blk.cell 0
 have nY:(w.alloc (.cells #[.int .u8 (y.op.toNat:Int),.int .i64 y.a,v] 122)).cell? ⟨g,20,none⟩=some (.int .i64 p):=hk.Ci.1
 have hx0:=b2.q 0 rfl
 have hx1:(w.alloc (.cells #[.int .u8 (y.op.toNat:Int),.int .i64 y.a,v] 122)).cell? ⟨w.heap.size,1,none⟩=some (.int .i64 k):=by rw [←hya];exact b2.cell 1
 have hkk:(0:Int)≤k:=by omega
 have YZ:(k:Int)<m.types.length:=by omega
 have hop2:=AA hop1;have HPO:=AA hpo;have TD:=AA Ho;have HO:=AA ho;have HDD:=AA hdd
 have htop:o.base.size≤st.shape.size:=by have:=h.top;unfold BU at this;rw [hop1] at this;exact this
 have hlo:=h.Fq
 have aJ:Hid (g<w.heap.size):=AA (by
  obtain⟨_,_,_,_,h9⟩:=h.wk
  exact h9.blk.lt)
 clear h h1 hb b2 e0 e1 e2 e5 hi0 hop hk r0 r1 r2 r5 Ik hya hop1 hty hpo Ho ho hdd
 go_enter func164,ntmps164
 go_upto_region 1 with fail
 generalize hw1:w.alloc (.cells #[.int .u8 (y.op.toNat:Int),.int .i64 y.a,v] 122)=w1 at*
 have hgw:w.heap.size≠g:=by have:=aJ.out;omega
 have hwl:w.heap.size<w1.heap.size:=by rw [←hw1];simp
 clear hw1
 go_still_tail 23,(by kernel_rfl)
 still_call (UD.out _)
 repeat still_step
 refine wpStill_nil ?_
 change wpList _ _ _ _ _ w1.drew
 go_upto_region 2 with fail
 generalize hw2:(w1.alloc (.cells #[.string ty.p,.string ty.r,.int .i64 p,.int .u8 (y.op.toNat:Int),.string {data:= #[]}] 175)).drew=w2 at*
 have hb2:Below w1.heap.size w1 w2:=by rw [←hw2];exact below_drewN ((Below.refl _ _).alloc (Nat.le_refl _) _) 1
 have hn2:AQ w2 w1.heap.size 175 [.string ty.p,.string ty.r,.int .i64 p,.int .u8 (y.op.toNat:Int),.string {data:= #[]}]:=by rw [←hw2];exact AQ.new w1 175 _
 have hn0:=hn2.q 0 rfl
 have nX:w2.cell? ⟨w.heap.size,0,none⟩=some (.int .u8 (y.op.toNat:Int)):=(hb2.cell hwl).trans hx0
 have u_:w.heap.size<w2.heap.size:=Nat.lt_of_lt_of_le hwl hb2.size
 have hnl2:w1.heap.size<w2.heap.size:=hn2.lt
 have Gn:=AA (HB.out.trans (hb2.mono HR.out.Fq))
 have Iu:=AA (HK.out.below hb2)
 have HN2:=AA hn2
 have hl2:lo≤w2.heap.size:=Nat.le_trans HR.out.Fq hb2.size
 have hbg:w1.heap.size≠g:=by have:=HK.out.blk.lt;omega
 have HOLD:Hid (w1.heap.size ∉ bs):=AA (fun hm=>by have:=HK.out.old _ hm;omega)
 clear hw2 hb2 hn2 hc0 nY hx0 hx1 hq0 hq1
 rcases H4.out with⟨g4,h4⟩ | ⟨g4,h4⟩
 all_goals
  go_wp2_with fail
  try rw [h4]
  clear g4 h4
  refine(S9 po _ Iu.out hop2.out (by omega) htop (by omega) (by omega)).mono ?_
  rintro e w3 ⟨hkp3,⟨h0,rfl,hk3⟩ | ⟨h0,rfl,hc3⟩⟩
  all_goals have hb3:=BZ hkp3 HK.out.low hl2
  case inr=>
   have H0:=AA h0;clear h0
   go_wp2_with fail
   exact⟨rfl,.o33 hcl HE.out (Gn.out.trans hb3) H0.out hc3⟩
  have H0:=AA h0;clear h0
  have HB3:=AA (Gn.out.trans hb3)
  have hN3:=HN2.out.keep hkp3 hbg
  have jc:=AA hN3;have HU:=AA hk3
  have ADx:=hk3.blk.q 18 rfl
  have hn34:w3.cell? ⟨w1.heap.size,4,none⟩=some (.string {data:= #[]}):=hN3.cell 4
  have hf34:=hN3.frozen 4
  have hl3:lo≤w3.heap.size:=Nat.le_trans hl2 hb3.size
  have hnl3:w1.heap.size<w3.heap.size:=hN3.lt
  clear hk3 hN3 hkp3 hb3
  go_upto_region 7 with fail
  obtain⟨left,hleft⟩: ∃left,left=st.shape.extract 0 (st.shape.size-po.size):=⟨_,rfl⟩
  have PE:left.size=st.shape.size-po.size:=by rw [hleft,ByteArray.size_extract];omega
  rw [←hleft]
  rw [←hleft] at HU
  have nZ:=AA hleft
  clear hleft ADx
  generalize hw4:w3.setCell ⟨w1.heap.size,4,none⟩ (.string left)=w4
  have uN:Hid (AQ w4 w1.heap.size 175 [.string ty.p,.string ty.r,.int .i64 p,.int .u8 (y.op.toNat:Int),.string left]):=AA (by rw [←hw4];exact jc.out.set 4 _)
  have dI:=AA (by have:=HU.out.other (i:=4) (u:= .string left) jc.out HOLD.out;rw [hw4] at this;exact this)
  have hl4:lo≤w4.heap.size:=by rw [←hw4];simpa using hl3
  have C9:Hid (Below lo w w4):=AA (by rw [←hw4];exact HB3.out.setCell (Nat.le_trans HR.out.Fq (Nat.le_refl _)) _)
  have hn40:=uN.out.q 0 rfl
  have hnl4:w1.heap.size<w4.heap.size:=uN.out.lt
  have AAd:=AA PE
  clear hw4 hn34 hf34 hn0 nX jc HU PE
  go_wp2_with fail
  refine(Qz left ty.p (st.shape.size-po.size) AAd.out _ dI.out (by have:=AAd.out;omega) (by omega)).mono ?_
  rintro e w5 ⟨ni,⟨h1,rfl,hk5⟩ | ⟨h1,rfl,xq⟩⟩
  all_goals have hb5:=BZ ni HK.out.low hl4
  case inr=>
   have H1:=AA h1;clear h1
   go_wp2_with fail
   exact⟨rfl,.o34 hcl HE.out (C9.out.trans hb5) H0.out H1.out xq⟩
  have H1:=AA h1;clear h1
  have D8:=AA (C9.out.trans hb5)
  have hN5:=uN.out.keep ni hbg
  have HN5:=AA hN5;have HU5:=AA hk5
  have hn54:=hN5.q 4 rfl
  have hnl5:w1.heap.size<w5.heap.size:=hN5.lt
  have hl5:lo≤w5.heap.size:=Nat.le_trans hl4 hb5.size
  have hfl:=HR.out.fl
  obtain⟨bF,cF,eF,WJ,hlF,_⟩:=Fe (n:=st.floors.length) hk5.fl (by omega)
  subst eF
  have hu15:=hk5.blk.q 15 rfl
  have hu20:=hk5.blk.q 20 rfl
  have hfF:=hk5.fl.frozenAt p
  obtain⟨u5,hcF⟩: ∃u,w5.cell? ⟨bF,p,none⟩=some u:=⟨_,by rw [hk5.fl.cellAt p (by omega),List.getElem?_eq_getElem (by simp;omega)]⟩
  have hp0:(0:Int)≤p:=by omega
  have hpF:(p:Int)<st.floors.length:=by omega
  have hpF2:p<st.floors.length:=by omega
  clear hk5 hN5 ni hb5 hfl hn40
  go_wp2_with fail
  go_region
  all_goals
   generalize YJ:(w5.setCell ⟨bF,p,none⟩ (.int .i64 (left.size:Int))).drew=w6
   have hK6:Fg w6 lo g x {st with shape:=left++ty.p,floors:=st.floors.set p (left.size:Int)} p vS (.slice (some ⟨bF,0,none⟩) st.floors.length cF) (.slice AO st.op.length cO) bs:=by
    rw [←YJ];exact(HU5.out.floor rfl rfl p (left.size:Int)).2.drewN 1
   have FQ:Hid (Below lo w w6):=AA (by rw [←YJ];exact below_drewN (D8.out.setCell WJ _) 1)
   have hN6:AQ w6 w1.heap.size 175 [.string ty.p,.string ty.r,.int .i64 p,.int .u8 (y.op.toNat:Int),.string left]:=by
    rw [←YJ];exact(HN5.out.far (p:=⟨bF,p,none⟩) (fun e=>Ay HU5.out.fl HN5.out (by decide) (by rw [e];rfl)) _).drewN 1
   have hc17:=hK6.blk.q 17 rfl
   have hg6:=hK6.blk.lt
   have hf6:=hK6.blk.frozen 17
   have Em:=AA (hK6.below ((Below.refl _ _).alloc (Nat.le_refl _) (.cells #[.pointer (some ⟨w1.heap.size,0,none⟩)] 173)))
   have HNA:=AA (hN6.alloc (.cells #[.pointer (some ⟨w1.heap.size,0,none⟩)] 173))
   have HOA:=AA (row_one w6 (.pointer (some ⟨w1.heap.size,0,none⟩)) 173)
   have hl6:lo≤w6.heap.size:=Nat.le_trans HR.out.Fq (by have:=FQ.out.size;have:=hN6.lt;omega)
   have nk:st.op.length≤1001:=by rw [hop2.out];simp;omega
   clear YJ hK6 hN6 hcF hfF hu15 hu20 hn54
   go_wp2_with (at_builtin;refine D9 _ rfl (.tmp 76) (.tmp 78) 170 rfl lo 173 i0 _ 8 underlying170 HI0.out HZ0.out h_.out AAc.out rfl _ st.op.length (bs.reverse.map mg) rfl (by exact Em.out.op) (w6.heap.size+1) _ 1 1 [.pointer (some ⟨w1.heap.size,0,none⟩)] rfl rfl (by exact HOA.out) (by intro u hu;simp at hu;subst hu;rfl) (by unfold maxLen;omega) (by omega) (by simp;omega) ?_;intro A7 c7 w7 h2 h3 h4;have H2:=AA h2;have H3:=AA h3;have Mf:=Av h3 Em.out.blk (fun e=>Ay Em.out.op Em.out.blk (by decide) e);have hc7:=Mf.cell 17;have hf7:=Mf.frozen 17;have hl7:=Mf.lt;clear h2 h3 h4 Mf)
   go_end0
   have hp:=Em.out.push (o:=⟨ty,p,y.op,left⟩) (b:=w1.heap.size) (by unfold Ua;exact HNA.out) (Nat.le_trans HR.out.Fq (Nat.le_refl _)) rfl H3.out H2.out
   refine .ADv hcl HO.out HDD.out HE.out (FQ.out.trans (((Below.refl _ _).alloc hl6 _).trans hp.1)) H0.out H1.out ?_
   rw [TD.out,←nZ.out,←AAd.out]
   exact⟨_,_,_,_,hp.2⟩
section
variable {m:AP} {f:Bv} {AJ:List Int} {p:Nat} {st:Cn} {y:Ad} {w w':World} {lo g:Nat} {x:Fx} {po pu:ByteArray}
theorem Ab.dJ (hcl:AZ y.op=false) (ho:Aw y.op=false) (ha:DF y.op=true) (he:BI m f st y=(po,pu,0)) (hb:Below lo w w') (h0:ends (AX st) po=true) (h1:st.shape.size-po.size+pu.size≤256) {s:ByteArray}
 (hk:Wk w' lo g x {st with shape:=s,dead:=true} p):Ab m f AJ p st y w w' lo g x (.returned (.tuple #[])):=by
 refine⟨hb,?_⟩
 have:D_ m f AJ p st y= .inr {st with shape:=st.shape.extract 0 (st.shape.size-po.size)++pu,dead:=true}:=by
  unfold D_
  rw [if_neg (by rw [hcl];decide),he]
  simp only []
  rw [if_neg (by simp),if_neg (by rw [h0];decide),if_neg (by omega),ho,ha]
  simp only [Bool.false_eq_true,if_false]
 rw [this]
 exact⟨rfl,s,hk,fun h=>by cases h⟩
theorem Ab.d33 (hcl:AZ y.op=false) (he:BI m f st y=(po,pu,0)) (hb:Below lo w w') (h0:Ae (ends (AX st) po) 33≠0) (hc:Nn w' g x p):Ab m f AJ p st y w w' lo g x (.panicked (D6 (Ae (ends (AX st) po) 33))):=by
 refine⟨hb,?_⟩
 have hf:ends (AX st) po=false:=by cases h:ends (AX st) po with | false=>rfl | true=>exact absurd (BX h) h0
 have:D_ m f AJ p st y= .inl 33:=by unfold D_;rw [if_neg (by rw [hcl];decide),he];simp only [];rw [if_neg (by simp),if_pos hf]
 rw [this,CJ hf]
 exact⟨rfl,hc⟩
end
theorem Mw {o:Bt} (h:o.s.p.size≤8∧o.s.r.size≤8):(Bo o).size≤8:=by
 unfold Bo
 split<;>omega
theorem Rl {l:List Bt} {n:Int} {o:Bt} (h:BL l n=some o):Gl l n=Bo o:=by unfold Gl;rw [h]
theorem WX (v:Value) (y:Ad) {lo g hi:Nat} {x:Fx} {st:Cn} {m:AP} {f:Bv} {AJ:List Int} {p:Nat} (w:World) (h:EG m f p st y lo hi g x w) (hop:y.op.toNat=0) (hdd:st.dead=false):
 Calls prog 166 #[.pointer (some ⟨g,0,none⟩),.agg #[.int .u8 (y.op.toNat:Int),.int .i64 y.a,v]] w fun e w'=>Ab m f AJ p st y w w' lo g x e:=by
 have hcl:AZ y.op=false:=by unfold AZ;exact decide_eq_false (by omega)
 obtain⟨A0,c0,A1,c1,A2,c2,A5,c5,vS,vF,vO,bs,hb,h1,b2,e0,e1,e2,e5,r0,r1,r2,r5,hk,HR,HB,HC,HK,hsz⟩:=h.pre v
 have hx0:(w.alloc (.cells #[.int .u8 (y.op.toNat:Int),.int .i64 y.a,v] 122)).cell? ⟨w.heap.size,0,none⟩=some (.int .u8 0):=by have:=b2.cell 0;rw [this,hop];rfl
 have hx1:=b2.q 1 rfl
 obtain⟨o,rr,hop1,hrr⟩:=h.ne
 have hop2:=AA hop1
 have htop:o.base.size≤st.shape.size:=by have:=h.top;unfold BU at this;rw [hop1] at this;exact this
 have nk:st.op.length≤1001:=by rw [hop1];simp;omega
 have hc19:=hk.blk.q 19 rfl
 have hg1:=hk.blk.lt
 have vD:=hk.blk.frozen 19
 have ho:Aw y.op=false:=by unfold Aw;exact decide_eq_false (by omega)
 have ha:DF y.op=true:=by unfold DF;exact decide_eq_true (by omega)
 have HE:Hid (BI m f st y=(Dm,Dm,0)):=AA (by
  have hrow:(Aq 0).map (·.plain)=some false:=by kernel_rfl
  obtain⟨RJ,hr1,hr2⟩:=Option.map_eq_some_iff.1 hrow
  unfold BI
  rw [hop,hr1]
  simp [hr2])
 clear h h1 hb b2 e0 e1 e2 e5 hop hk r0 r1 r2 r5 hop1
 go_enter func166,ntmps166
 go_upto_region 1 with fail
 generalize w.alloc (.cells #[.int .u8 (y.op.toNat:Int),.int .i64 y.a,v] 122)=w1 at*
 go_wp2_with fail
 go_end0
 have h2:=HK.out.dead true
 exact .dJ hcl ho ha HE.out (HB.out.trans h2.1) (TT _) (by show st.shape.size-0+0≤256;omega) (s:=st.shape) ⟨_,_,_,_,h2.2⟩
theorem Uh (v:Value) (y:Ad) {lo g hi:Nat} {x:Fx} {st:Cn} {m:AP} {f:Bv} {AJ:List Int} {p:Nat} (w:World) (h:EG m f p st y lo hi g x w) (hop:y.op.toNat=10) (hdd:st.dead=false):
 Calls prog 166 #[.pointer (some ⟨g,0,none⟩),.agg #[.int .u8 (y.op.toNat:Int),.int .i64 y.a,v]] w fun e w'=>Ab m f AJ p st y w w' lo g x e:=by
 have hcl:AZ y.op=false:=by unfold AZ;exact decide_eq_false (by omega)
 obtain⟨A0,c0,A1,c1,A2,c2,A5,c5,vS,vF,vO,bs,hb,h1,b2,e0,e1,e2,e5,r0,r1,r2,r5,hk,HR,HB,HC,HK,hsz⟩:=h.pre v
 have hx0:(w.alloc (.cells #[.int .u8 (y.op.toNat:Int),.int .i64 y.a,v] 122)).cell? ⟨w.heap.size,0,none⟩=some (.int .u8 10):=by have:=b2.cell 0;rw [this,hop];rfl
 have hx1:=b2.q 1 rfl
 obtain⟨o,rr,hop1,hrr⟩:=h.ne
 have hop2:=AA hop1
 have htop:o.base.size≤st.shape.size:=by have:=h.top;unfold BU at this;rw [hop1] at this;exact this
 have nk:st.op.length≤1001:=by rw [hop1];simp;omega
 have hc19:=hk.blk.q 19 rfl
 have hg1:=hk.blk.lt
 have vD:=hk.blk.frozen 19
 have ho:Aw y.op=false:=by unfold Aw;exact decide_eq_false (by omega)
 have ha:DF y.op=true:=by unfold DF;exact decide_eq_true (by omega)
 obtain⟨po,hpo⟩: ∃po,po=(B_ m f.t).r:=⟨_,rfl⟩
 have PY:po.size≤8:=by rw [hpo];exact(IL h.VL f.t).2
 have HE:Hid (BI m f st y=(po,po,0)):=AA (by
  have hrow:(Aq 10).map (·.plain)=some false:=by kernel_rfl
  obtain⟨RJ,hr1,hr2⟩:=Option.map_eq_some_iff.1 hrow
  unfold BI
  rw [hop,hr1]
  simp [hr2,hpo])
 have hc9:(w.alloc (.cells #[.int .u8 (y.op.toNat:Int),.int .i64 y.a,v] 122)).cell? ⟨g,9,none⟩=some (.string po):=by rw [hpo,←h.sr];exact hk.blk.cell 9
 clear h h1 hb b2 e0 e1 e2 e5 hop hk r0 r1 r2 r5 hop1 hpo
 go_enter func166,ntmps166
 go_upto_region 1 with fail
 generalize w.alloc (.cells #[.int .u8 (y.op.toNat:Int),.int .i64 y.a,v] 122)=w1 at*
 go_wp2_with fail
 refine(Ia po _ ⟨_,_,_,_,HK.out⟩ hop2.out (by omega) htop (by omega) (by omega)).mono ?_
 rintro e w3 ⟨hkp3,⟨h0,rfl,hk3⟩ | ⟨h0,rfl,hc3⟩⟩
 all_goals have hb3:=BZ hkp3 HK.out.low HR.out.Fq
 case inr=>
  have H0:=AA h0;clear h0
  go_wp2_with fail
  exact⟨rfl,.d33 hcl HE.out (HB.out.trans hb3) H0.out hc3⟩
 have H0:=AA h0;clear h0
 have HB3:=AA (HB.out.trans hb3)
 obtain⟨uS,uF,uO,us,hu⟩:=hk3
 have HU:=AA hu
 have ADz:=hu.blk.q 19 rfl
 have hg3:=hu.blk.lt
 have hf3:=hu.blk.frozen 19
 clear hu hkp3
 go_wp2_with fail
 go_end0
 have h2:=HU.out.dead true
 have hle:=LP _ _ (Bh (by decide) H0.out)
 exact .dJ hcl ho ha HE.out (HB3.out.trans h2.1) (Bh (by decide) H0.out) (by have:=DR st;omega) ⟨_,_,_,_,h2.2⟩
theorem WY (v:Value) (y:Ad) {lo g hi:Nat} {x:Fx} {st:Cn} {m:AP} {f:Bv} {AJ:List Int} {p:Nat} (w:World) (h:EG m f p st y lo hi g x w) (hop:y.op.toNat=7) (hdd:st.dead=false):
 Calls prog 166 #[.pointer (some ⟨g,0,none⟩),.agg #[.int .u8 (y.op.toNat:Int),.int .i64 y.a,v]] w fun e w'=>Ab m f AJ p st y w w' lo g x e:=by
 have hcl:AZ y.op=false:=by unfold AZ;exact decide_eq_false (by omega)
 obtain⟨A0,c0,A1,c1,A2,c2,A5,c5,vS,vF,vO,bs,hb,h1,b2,e0,e1,e2,e5,r0,r1,r2,r5,hk,HR,HB,HC,HK,hsz⟩:=h.pre v
 have hx0:(w.alloc (.cells #[.int .u8 (y.op.toNat:Int),.int .i64 y.a,v] 122)).cell? ⟨w.heap.size,0,none⟩=some (.int .u8 7):=by have:=b2.cell 0;rw [this,hop];rfl
 have hx1:=b2.q 1 rfl
 obtain⟨o,rr,hop1,hrr⟩:=h.ne
 have hop2:=AA hop1
 have htop:o.base.size≤st.shape.size:=by have:=h.top;unfold BU at this;rw [hop1] at this;exact this
 have nk:st.op.length≤1001:=by rw [hop1];simp;omega
 have hc19:=hk.blk.q 19 rfl
 have hg1:=hk.blk.lt
 have vD:=hk.blk.frozen 19
 have ho:Aw y.op=false:=by unfold Aw;exact decide_eq_false (by omega)
 have ha:DF y.op=true:=by unfold DF;exact decide_eq_true (by omega)
 have nu:Hid (BL st.op y.a=none→(BI m f st y).2.2=31):=AA (fun hl=>by
  have hrow:(Aq 7).map (·.plain)=some false:=by kernel_rfl
  obtain⟨RJ,hr1,hr2⟩:=Option.map_eq_some_iff.1 hrow
  unfold BI BH
  rw [hop,hr1]
  simp [hr2,hl])
 have HE:Hid (∀ob,BL st.op y.a=some ob→BI m f st y=(Bo ob,Bo ob,0)):=AA (fun ob hl=>by
  have hrow:(Aq 7).map (·.plain)=some false:=by kernel_rfl
  obtain⟨RJ,hr1,hr2⟩:=Option.map_eq_some_iff.1 hrow
  unfold BI BH
  rw [hop,hr1]
  simp [hr2,hl,Rl hl])
 have ny:=AA h.ops
 have hya:=h.ya
 clear h h1 hb b2 e0 e1 e2 e5 hop hk r0 r1 r2 r5 hop1
 go_enter func166,ntmps166
 go_upto_region 1 with fail
 generalize w.alloc (.cells #[.int .u8 (y.op.toNat:Int),.int .i64 y.a,v] 122)=w1 at*
 go_wp2_with fail
 refine(Mk y.a hya _ HK.out (by omega)).mono ?_
 rintro e w2 ⟨⟨q,rfl⟩,⟨hl,rfl⟩ | ⟨ob,b,hl,iF,hb,rfl⟩⟩
 case inl=>
  have HL:=AA hl;clear hl
  go_wp2_with fail
  exact⟨rfl,.fail hcl (HB.out.trans (below_drewN (Below.refl _ _) _)) (nu.out HL.out) (by decide) HC.out⟩
 have hl2:=hl
 unfold BL at hl2
 rw [if_pos iF] at hl2
 have dK:=AA (HK.out.each _ ob b hl2 hb)
 have hmem:=ny.out ob (List.mem_of_getElem? hl2)
 have hbs:=Mw hmem.2
 obtain⟨s,hs⟩: ∃s,s=Bo ob:=⟨_,rfl⟩
 rw [←hs] at hbs
 have HS:=AA hs
 have HE2:=AA (HE.out ob hl)
 clear hl hl2 iF hb hmem hs
 go_wp2_with fail
 refine(NT (o:=ob) _ dK.out.2.drewN').mono ?_
 rintro e w2 ⟨rfl,rfl⟩
 rw [←HS.out]
 rw [←HS.out] at HE2
 go_wp2_with fail
 have Gn:=AA (HB.out.trans (below_drewN (Below.refl _ _) q))
 refine(Ia s _ ⟨_,_,_,_,HK.out.drewN q⟩ hop2.out (by omega) htop (by omega) (by omega)).mono ?_
 rintro e w3 ⟨hkp3,⟨h0,rfl,hk3⟩ | ⟨h0,rfl,hc3⟩⟩
 all_goals have hb3:=BZ hkp3 HK.out.low HR.out.Fq
 case inr=>
  have H0:=AA h0;clear h0
  go_wp2_with fail
  exact⟨rfl,.d33 hcl HE2.out (Gn.out.trans hb3) H0.out hc3⟩
 have H0:=AA h0;clear h0
 have HB3:=AA (Gn.out.trans hb3)
 obtain⟨uS,uF,uO,us,hu⟩:=hk3
 have HU:=AA hu
 have ADz:=hu.blk.q 19 rfl
 have hg3:=hu.blk.lt
 have hf3:=hu.blk.frozen 19
 clear hu hkp3
 go_wp2_with fail
 go_end0
 have h2:=HU.out.dead true
 have hle:=LP _ _ (Bh (by decide) H0.out)
 exact .dJ hcl ho ha HE2.out (HB3.out.trans h2.1) (Bh (by decide) H0.out) (by have:=DR st;omega) ⟨_,_,_,_,h2.2⟩
theorem WZ (v:Value) (y:Ad) {lo g hi:Nat} {x:Fx} {st:Cn} {m:AP} {f:Bv} {AJ:List Int} {p:Nat} (w:World) (h:EG m f p st y lo hi g x w) (hop:y.op.toNat=8) (hdd:st.dead=false):
 Calls prog 166 #[.pointer (some ⟨g,0,none⟩),.agg #[.int .u8 (y.op.toNat:Int),.int .i64 y.a,v]] w fun e w'=>Ab m f AJ p st y w w' lo g x e:=by
 have hcl:AZ y.op=false:=by unfold AZ;exact decide_eq_false (by omega)
 obtain⟨A0,c0,A1,c1,A2,c2,A5,c5,vS,vF,vO,bs,hb,h1,b2,e0,e1,e2,e5,r0,r1,r2,r5,hk,HR,HB,HC,HK,hsz⟩:=h.pre v
 have hx0:(w.alloc (.cells #[.int .u8 (y.op.toNat:Int),.int .i64 y.a,v] 122)).cell? ⟨w.heap.size,0,none⟩=some (.int .u8 8):=by have:=b2.cell 0;rw [this,hop];rfl
 have hx1:=b2.q 1 rfl
 obtain⟨o,rr,hop1,hrr⟩:=h.ne
 have hop2:=AA hop1
 have htop:o.base.size≤st.shape.size:=by have:=h.top;unfold BU at this;rw [hop1] at this;exact this
 have nk:st.op.length≤1001:=by rw [hop1];simp;omega
 have hc19:=hk.blk.q 19 rfl
 have hg1:=hk.blk.lt
 have vD:=hk.blk.frozen 19
 have ho:Aw y.op=false:=by unfold Aw;exact decide_eq_false (by omega)
 have ha:DF y.op=false:=by unfold DF;exact decide_eq_false (by omega)
 have nu:Hid (BL st.op y.a=none→(BI m f st y).2.2=31):=AA (fun hl=>by
  have hrow:(Aq 8).map (·.plain)=some false:=by kernel_rfl
  obtain⟨RJ,hr1,hr2⟩:=Option.map_eq_some_iff.1 hrow
  unfold BI BH
  rw [hop,hr1]
  simp [hr2,hl])
 have HE:Hid (∀ob,BL st.op y.a=some ob→BI m f st y=(Bo ob++wS,Bo ob,0)):=AA (fun ob hl=>by
  have hrow:(Aq 8).map (·.plain)=some false:=by kernel_rfl
  obtain⟨RJ,hr1,hr2⟩:=Option.map_eq_some_iff.1 hrow
  unfold BI BH
  rw [hop,hr1]
  simp [hr2,hl,Rl hl])
 have ny:=AA h.ops
 have hya:=h.ya
 clear h h1 hb b2 e0 e1 e2 e5 hop hk r0 r1 r2 r5 hop1
 go_enter func166,ntmps166
 go_upto_region 1 with fail
 generalize w.alloc (.cells #[.int .u8 (y.op.toNat:Int),.int .i64 y.a,v] 122)=w1 at*
 go_wp2_with fail
 refine(Mk y.a hya _ HK.out (by omega)).mono ?_
 rintro e w2 ⟨⟨q,rfl⟩,⟨hl,rfl⟩ | ⟨ob,b,hl,iF,hb,rfl⟩⟩
 case inl=>
  have HL:=AA hl;clear hl
  go_wp2_with fail
  exact⟨rfl,.fail hcl (HB.out.trans (below_drewN (Below.refl _ _) _)) (nu.out HL.out) (by decide) HC.out⟩
 have hl2:=hl
 unfold BL at hl2
 rw [if_pos iF] at hl2
 have dK:=AA (HK.out.each _ ob b hl2 hb)
 have hmem:=ny.out ob (List.mem_of_getElem? hl2)
 have hbs:=Mw hmem.2
 obtain⟨s,hs⟩: ∃s,s=Bo ob:=⟨_,rfl⟩
 rw [←hs] at hbs
 have HS:=AA hs
 have HE2:=AA (HE.out ob hl)
 clear hl hl2 iF hb hmem hs
 go_wp2_with fail
 refine(NT (o:=ob) _ dK.out.2.drewN').mono ?_
 rintro e w2 ⟨rfl,rfl⟩
 rw [←HS.out]
 obtain⟨po,hpo⟩: ∃po,po=s++wS:=⟨_,rfl⟩
 have PY:po.size=s.size+1:=by rw [hpo,ByteArray.size_append];rfl
 rw [←HS.out,←hpo] at HE2
 have HPO:=AA hpo;have HPZ:=AA PY
 have hp9:po.size≤9:=by omega
 clear hpo PY
 go_wp2_with fail
 rw [show s++ {data:= #[119]}=po from HPO.out.symm]
 have Gn:=AA (HB.out.trans (below_drewN (Below.refl _ _) q))
 refine(Ia po _ ⟨_,_,_,_,HK.out.drewN q⟩ hop2.out (by omega) htop (by omega) (by omega)).mono ?_
 rintro e w3 ⟨hkp3,⟨h0,rfl,hk3⟩ | ⟨h0,rfl,hc3⟩⟩
 all_goals have hb3:=BZ hkp3 HK.out.low HR.out.Fq
 case inr=>
  have H0:=AA h0;clear h0
  go_wp2_with fail
  exact⟨rfl,.d33 hcl HE2.out (Gn.out.trans hb3) H0.out hc3⟩
 have H0:=AA h0;clear h0
 have HB3:=AA (Gn.out.trans hb3)
 obtain⟨uS,uF,uO,us,hu⟩:=hk3
 obtain⟨left,hleft⟩: ∃left,left=st.shape.extract 0 (st.shape.size-po.size):=⟨_,rfl⟩
 have PE:left.size≤256:=by rw [hleft,ByteArray.size_extract];omega
 have ADx:w3.cell? ⟨g,18,none⟩=some (.string left):=by rw [hleft];exact hu.blk.cell 18
 rw [←hleft] at hu
 have HU:=AA hu;have nZ:=AA hleft
 have hg3:=hu.blk.lt
 have hf3:=hu.blk.frozen 18
 clear hu hkp3 hleft
 go_wp2_with fail
 refine bodyPost_ret (results_none rfl _ _ _) rfl ?_
 have h2:=HU.out.shape (left++s)
 have hle:=LP _ _ (Bh (by decide) H0.out)
 have hpz:=HPZ.out
 have hE:Eff m f st y po s:=⟨hcl,ho,ha,HE2.out,hdd⟩
 exact .good hE (HB3.out.trans h2.1) (Bh (by decide) H0.out) (by have:=DR st;omega) (by rw [←nZ.out];exact⟨_,_,_,_,h2.2⟩)
end Go.Proofs.YtlagonfamllgjaaGreatDoor
