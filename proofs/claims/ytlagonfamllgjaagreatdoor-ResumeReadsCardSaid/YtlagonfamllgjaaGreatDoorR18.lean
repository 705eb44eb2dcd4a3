/- Part 18 of the proof: VdH VdI VdJ -/
import Derived.Test.YtlagonfamllgjaaGreatDoorR17
namespace Go.Proofs.YtlagonfamllgjaaGreatDoor
set_option linter.unusedVariables false
set_option linter.unusedSimpArgs false
set_option maxRecDepth 100000
set_option maxHeartbeats 4000000
open Go.RowKit Tryz
theorem gH:(prog.info? 173).map (fun i=>(i.zero,i.size,i.bytes))=some (some (.pointer none),1,8):=by kernel_rfl
theorem Om {w:World} {b1 b2 s1 s2 n1 n2:Nat} {e1 e2:TypeId} {v1 v2:Value} {x1 x2:List Value} (h:w.ownsRow b1 e1 s1 v1 n1 x1) (h':w.ownsRow b2 e2 s2 v2 n2 x2) (hne:e1≠e2): ∀k,v1.ownBlock=some k→v2.ownBlock≠some k:=by
 intro k hk hk'
 rcases h.2 with⟨hv,_⟩ | ⟨g,cap,cur,hv,_,hg,_⟩
 ·rw [hv] at hk;cases hk
 ·rcases h'.2 with⟨hv',_⟩ | ⟨g',cap',cur',hv',_,hg',_⟩
  ·rw [hv'] at hk';cases hk'
  ·rw [hv] at hk;rw [hv'] at hk'
   injection hk with hk;injection hk' with hk'
   have hk:g=k:=hk
   have hk':g'=k:=hk'
   subst hk hk'
   rw [hg] at hg'
   injection hg' with hg'
   injection hg' with _ h2
   exact hne h2
section
variable {W W':World} {lo g:Nat} {x:Fx} {st:Cm} {pc:Int} {vS vF vO:Value} {bs:List Nat}
theorem E5.floor (h:E5 W lo g x st pc vS vF vO bs) {bF c n:Nat} (hv:vF= .slice (some ⟨bF,0,none⟩) n c) (hn:n=st.floors.length) (p:Nat) (v:Int):
 Below lo W (W.setCell ⟨bF,p,none⟩ (.int .i64 v))∧E5 (W.setCell ⟨bF,p,none⟩ (.int .i64 v)) lo g x {st with floors:=st.floors.set p v} pc vS vF vO bs:=by
 subst hn
 have hf:=h.fl
 rw [hv] at hf
 have hs:=hf.stored p (.int .i64 v)
 have hlo:=(hf.lt bF rfl).1
 refine⟨(Below.refl _ _).setCell hlo _,?_,?_,?_,?_,h.bl,fun k o b h1 h2=>⟨(h.each k o b h1 h2).1,(h.each k o b h1 h2).2.far (p:=⟨bF,p,none⟩) ?_ _⟩,h.low,h.et,fun q hq=>⟨(h.ex q hq).1.far (p:=⟨bF,p,none⟩) (fun e=>(h.ex q hq).2 (by rw [hv,show q.1=bF from e];rfl)) _,(h.ex q hq).2⟩⟩
 ·exact h.blk.far (p:=⟨bF,p,none⟩) (fun e=>A_ hf h.blk (by decide) (by rw [e];rfl)) _
 ·exact BH h.sh (p:=⟨bF,p,none⟩) (fun e=>Om h.sh hf (by decide) _ e rfl) _
 ·rw [hv,List.map_set,List.length_set];exact hs.1
 ·exact BH h.op (p:=⟨bF,p,none⟩) (fun e=>Om h.op hf (by decide) _ e rfl) _
 ·exact fun e=>A_ hf (h.each k o b h1 h2).2 (by decide) (by rw [e];rfl)
theorem E5.push (h:E5 W lo g x st pc vS vF vO bs) {o:Bo} {b:Nat} (hb:AQ W b 175 (Tn o)) (hlb:lo≤b) {A:Option Addr} {c n:Nat} (hn:n=st.op.length) (hg:W.grownBy W' vO.ownBlock)
 (ho:W'.ownsRow lo 173 1 (.slice A (n+1) c) (n+1) (bs.reverse.map kU++ [kU b])):
 Below lo W (W'.setCell ⟨g,17,none⟩ (.slice A (n+1) c))∧E5 (W'.setCell ⟨g,17,none⟩ (.slice A (n+1) c)) lo g x {st with op:=o::st.op} pc vS vF (.slice A (n+1) c) (b::bs):=by
 subst hn
 have kept: ∀ {e:TypeId} {v:Value} {m:Nat} {xs:List Value},W.ownsRow lo e 1 v m xs→e≠173→W'.ownsRow lo e 1 v m xs:=fun {e v m xs} hr hne=>by
  refine hr.kept hg ?_
  cases hv:v.ownBlock with
  | none=>exact .inl rfl
  | some k=>exact .inr fun e'=>Om hr h.op hne k hv e'.symm
 have blk: ∀ {k:Nat} {t:TypeId} {xs:List Value},AQ W k t xs→t≠173→AQ W' k t xs:=fun {k t xs} hk hne=>Ay hg hk (fun e=>A_ h.op hk (Ne.symm hne) e)
 have hw:=blk h.blk (by decide)
 have hob:Below lo W W':=BG h.op hg (by have:=(hb.lt);omega)
 refine⟨hob.setCell h.low _,?_,?_,?_,?_,by simp [h.bl],fun k o' b' h1 h2=> ?_,h.low,h.et,fun q hq=>⟨(blk (h.ex q hq).1 (h.et q hq).2.2.1).far (p:=⟨g,17,none⟩) (FR (blk (h.ex q hq).1 (h.et q hq).2.2.1) hw (h.et q hq).1) _,(h.ex q hq).2⟩⟩
 ·exact hw.set 17 _
 ·exact BH (kept h.sh (by decide)) (p:=⟨g,17,none⟩) (A_ (kept h.sh (by decide)) hw (by decide)) _
 ·exact BH (kept h.fl (by decide)) (p:=⟨g,17,none⟩) (A_ (kept h.fl (by decide)) hw (by decide)) _
 ·have:=BH ho (p:=⟨g,17,none⟩) (A_ ho hw (by decide)) (.slice A (st.op.length+1) c)
  rw [List.reverse_cons,List.map_append]
  exact this
 ·have key: ∀(q:Bo) (k:Nat),lo≤k→AQ W k 175 (Tn q)→lo≤k∧AQ (W'.setCell ⟨g,17,none⟩ (.slice A (st.op.length+1) c)) k 175 (Tn q):=fun q k hk hq=>
   ⟨hk,(blk hq (by decide)).far (p:=⟨g,17,none⟩) (FR (blk hq (by decide)) hw (by decide)) _⟩
  cases k with
  | zero=>
   simp only [List.getElem?_cons_zero,Option.some.injEq] at h1 h2
   subst h1 h2
   exact key _ _ hlb hb
  | succ k=>
   simp only [List.getElem?_cons_succ] at h1 h2
   exact key _ _ (h.each k o' b' h1 h2).1 (h.each k o' b' h1 h2).2
end
theorem QY (s0 s:ByteArray) (n:Nat) (hn:s0.size=n) {lo g:Nat} {x:Fx} {st:Cm} {pc:Int} {vS vF vO:Value} {bs:List Nat} (w:World) (h:E5 w lo g x {st with shape:=s0} pc vS vF vO bs) (hs:s0.size≤1000000) (hs2:s.size≤1000000):
 Calls prog 172 #[.pointer (some ⟨g,0,none⟩),.string s] w fun e w'=>ME w w' g x pc (Ab (decide (n+s.size≤256)) 34) e (E5 w' lo g x {st with shape:=s0++s} pc vS vF vO bs):=by
 subst hn
 exact SG s w h hs hs2
theorem E5.other {W:World} {lo g:Nat} {x:Fx} {st:Cm} {pc:Int} {vS vF vO:Value} {bs:List Nat} (h:E5 W lo g x st pc vS vF vO bs) {b i:Nat} {u:Value} {xs:List Value} (hb:AQ W b 175 xs) (hn:b ∉ bs):E5 (W.setCell ⟨b,i,none⟩ u) lo g x st pc vS vF vO bs:=
 ⟨h.blk.far (p:=⟨b,i,none⟩) (FR h.blk hb (by decide)) _,BH h.sh (p:=⟨b,i,none⟩) (A_ h.sh hb (by decide)) _,BH h.fl (p:=⟨b,i,none⟩) (A_ h.fl hb (by decide)) _,BH h.op (p:=⟨b,i,none⟩) (A_ h.op hb (by decide)) _,h.bl,
  fun k o b' h1 h2=>⟨(h.each k o b' h1 h2).1,(h.each k o b' h1 h2).2.far (p:=⟨b,i,none⟩) (fun e=>hn (by rw [←show b'=b from e];exact List.mem_of_getElem? h2)) _⟩,h.low,h.et,fun q hq=>⟨(h.ex q hq).1.far (p:=⟨b,i,none⟩) (FR (h.ex q hq).1 hb (h.et q hq).2.2.2) _,(h.ex q hq).2⟩⟩
theorem E5.old {W:World} {lo g:Nat} {x:Fx} {st:Cm} {pc:Int} {vS vF vO:Value} {bs:List Nat} (h:E5 W lo g x st pc vS vF vO bs): ∀b∈bs,b<W.heap.size:=by
 intro b hb
 obtain⟨k,hk⟩:=List.getElem?_of_mem hb
 have hl:=(List.getElem?_eq_some_iff.1 hk).1
 have hbl:=h.bl
 obtain⟨o,ho⟩: ∃o,st.op[k]?=some o:=⟨_,List.getElem?_eq_getElem (by omega)⟩
 exact(h.each k o b ho hk).2.lt
section
variable {m:AP} {f:Bt} {AB:List Int} {p:Nat} {st:Cm} {y:Ad} {w w':World} {lo g:Nat} {x:Fx} {po pu:ByteArray}
theorem Ag.o33 (hcl:Ah y.op=false) (he:BN m f st y=(po,pu,0)) (hb:Below lo w w') (h0:Ab (ends (AV st) po) 33≠0) (hc:MC w' g x p):Ag m f AB p st y w w' lo g x (.panicked (D6 (Ab (ends (AV st) po) 33))):=by
 refine⟨hb,?_⟩
 have hf:ends (AV st) po=false:=by cases h:ends (AV st) po with | false=>rfl | true=>exact absurd (BQ h) h0
 have:EA m f AB p st y= .inl 33:=by unfold EA;rw [if_neg (by rw [hcl];decide),he];simp only [];rw [if_neg (by simp),if_pos hf]
 rw [this,Bw hf]
 exact⟨rfl,hc⟩
theorem Ag.o34 (hcl:Ah y.op=false) (he:BN m f st y=(po,pu,0)) (hb:Below lo w w') (h0:Ab (ends (AV st) po) 33=0) (h1:Ab (decide (st.shape.size-po.size+pu.size≤256)) 34≠0) (hc:MC w' g x p):
 Ag m f AB p st y w w' lo g x (.panicked (D6 (Ab (decide (st.shape.size-po.size+pu.size≤256)) 34))):=by
 refine⟨hb,?_⟩
 have ht:=BS (by decide) h0
 have hf:decide (st.shape.size-po.size+pu.size≤256)=false:=by
  cases h:decide (st.shape.size-po.size+pu.size≤256)with | false=>rfl | true=>exact absurd (BQ h) h1
 have hf':=of_decide_eq_false hf
 have:EA m f AB p st y= .inl 34:=by unfold EA;rw [if_neg (by rw [hcl];decide),he];simp only [];rw [if_neg (by simp),if_neg (by rw [ht];decide),if_pos (by omega)]
 rw [this,Bw hf]
 exact⟨rfl,hc⟩
theorem Ag.ACv (hcl:Ah y.op=false) (ho:BD y.op=true) (hdd:st.dead=false) (he:BN m f st y=(po,pu,0)) (hb:Below lo w w') (h0:Ab (ends (AV st) po) 33=0) (h1:Ab (decide (st.shape.size-po.size+pu.size≤256)) 34=0)
 (hk:Wk w' lo g x {st with shape:=st.shape.extract 0 (st.shape.size-po.size)++pu,op:=⟨CG m y.a,p,y.op,st.shape.extract 0 (st.shape.size-po.size)⟩::st.op,floors:=st.floors.set p ((st.shape.size-po.size:Nat):Int)} p):Ag m f AB p st y w w' lo g x (.returned (.tuple #[])):=by
 refine⟨hb,?_⟩
 have ht:=BS (by decide) h0
 have hf':=of_decide_eq_true (BS (by decide) h1)
 have ha:DV y.op=false:=by unfold BD at ho;unfold DV;have:=of_decide_eq_true ho;exact decide_eq_false (by omega)
 have:EA m f AB p st y= .inr {st with shape:=st.shape.extract 0 (st.shape.size-po.size)++pu,op:=⟨CG m y.a,p,y.op,st.shape.extract 0 (st.shape.size-po.size)⟩::st.op,floors:=st.floors.set p ((st.shape.size-po.size:Nat):Int)}:=by
  unfold EA
  rw [if_neg (by rw [hcl];decide),he]
  simp only []
  rw [if_neg (by simp),if_neg (by rw [ht];decide),if_neg (by omega),ho,ha]
  simp only [if_true]
  rw [hdd]
 rw [this]
 exact⟨rfl,_,hk,fun _=>rfl⟩
end
theorem YE (v:Value) (y:Ad) {lo g hi:Nat} {x:Fx} {st:Cm} {m:AP} {f:Bt} {AB:List Int} {p:Nat} (w:World) (h:EM m f p st y lo hi g x w) (hop:y.op.toNat=2∨y.op.toNat=3∨y.op.toNat=4) (hi0:Eo y.a m.types.length=false):
 Calls prog 164 #[.pointer (some ⟨g,0,none⟩),.agg #[.int .u8 (y.op.toNat:Int),.int .i64 y.a,v]] w fun e w'=>Ag m f AB p st y w w' lo g x e:=by
 have hcl:Ah y.op=false:=by unfold Ah;exact decide_eq_false (by omega)
 obtain⟨A0,c0,A1,c1,A2,c2,A5,c5,vS,vF,vO,bs,hb,h1,b2,e0,e1,e2,e5,r0,r1,r2,r5,hk,HR,HB,HC,HK,hsz⟩:=h.pre v
 have hI:=AA hi0
 have HE:Hid ((BN m f st y).2.2=30):=AA (by
  have hrow:(Au y.op.toNat).map (·.plain)=some false:=by rcases hop with hop | hop | hop<;>rw [hop]<;>kernel_rfl
  obtain⟨WH,hr1,hr2⟩:=Option.map_eq_some_iff.1 hrow
  unfold BN Cn
  rw [hr1]
  rcases hop with hop | hop | hop<;>simp [hop,hr2,hi0])
 have hlen:m.types.length≤1000000:=by have:=h.Yn.nt;omega
 have hc0:(w.alloc (.cells #[.int .u8 (y.op.toNat:Int),.int .i64 y.a,v] 122)).cell? ⟨g,0,none⟩=some (.slice A0 m.types.length c0):=by rw [←e0];exact hk.blk.cell 0
 have lT:(w.alloc (.cells #[.int .u8 (y.op.toNat:Int),.int .i64 y.a,v] 122)).cell? ⟨g,20,none⟩=some (.int .i64 p):=hk.Gu.1
 have hx0:=b2.q 0 rfl
 have hx1:=b2.q 1 rfl
 clear h h1 hb b2 e0 e1 e2 e5 hi0 hop hk r0 r1 r2 r5
 go_enter func164,ntmps164
 go_upto_region 1 with fail
 generalize w.alloc (.cells #[.int .u8 (y.op.toNat:Int),.int .i64 y.a,v] 122)=w1 at*
 refine wp_region_held_drew (S:=fun W=>W.cell? ⟨g,0,none⟩=some (.slice A0 m.types.length c0)∧W.cell? ⟨w.heap.size,1,none⟩=some (.int .i64 y.a)∧W.cell? ⟨g,20,none⟩=some (.int .i64 p)∧W.cell? ⟨w.heap.size,0,none⟩=some (.int .u8 (y.op.toNat:Int))) (by kernel_rfl) ⟨hc0,hx1,lT,hx0⟩ (fun hHeld=> ?_)
 refine AZ (i:=0) (v:= ?_) rfl (by kernel_rfl) (fun _ _ _ h=>h) rfl (by intro w hSw;(try dsimp only at hSw);go_simp;try with_reducible rfl) hHeld ?_
 refine AZ (i:=1) (v:= ?_) rfl (by kernel_rfl) (fun _ _ _ h=>h) rfl (by intro w hSw;(try dsimp only at hSw);go_simp;try with_reducible rfl) hHeld ?_
 refine AZ (i:=2) (v:= ?_) rfl (by kernel_rfl) (fun _ _ _ h=>h) rfl (by intro w hSw;(try dsimp only at hSw);go_simp;try with_reducible rfl) hHeld ?_
 refine AZ (i:=3) (v:= ?_) rfl (by kernel_rfl) (fun _ _ _ h=>h) rfl (by intro w hSw;(try dsimp only at hSw);go_simp;try with_reducible rfl) hHeld ?_
 refine AZ (i:=4) (v:= ?_) rfl (by kernel_rfl) (fun _ _ _ h=>h) rfl (by intro w hSw;(try dsimp only at hSw);go_simp;try with_reducible rfl) hHeld ?_
 refine AZ (i:=5) (v:= ?_) rfl (by kernel_rfl) (fun _ _ _ h=>h) rfl (by intro w hSw;(try dsimp only at hSw);go_simp;try with_reducible rfl) hHeld ?_
 refine AZ (i:=6) (v:= ?_) rfl (by kernel_rfl) (fun _ _ _ h=>h) rfl (by intro w hSw;(try dsimp only at hSw);go_simp;try with_reducible rfl) hHeld ?_
 refine AZ (i:=7) (v:= ?_) rfl (by kernel_rfl) (fun _ _ _ h=>h) rfl (by intro w hSw;(try dsimp only at hSw);go_simp;try with_reducible rfl) hHeld ?_
 refine AZ (i:=8) (v:= ?_) rfl (by kernel_rfl) (fun _ _ _ h=>h) rfl (by intro w hSw;(try dsimp only at hSw);go_simp;try with_reducible rfl) hHeld ?_
 refine AZ (i:=9) (v:= ?_) rfl (by kernel_rfl) (fun _ _ _ h=>h) rfl (by intro w hSw;(try dsimp only at hSw);go_simp;try with_reducible rfl) hHeld ?_
 refine AZ (i:=10) (v:= ?_) rfl (by kernel_rfl) (fun _ _ _ h=>h) rfl (by intro w hSw;(try dsimp only at hSw);go_simp;try with_reducible rfl) hHeld ?_
 refine AZ (i:=11) (v:= ?_) rfl (by kernel_rfl) (fun _ _ _ h=>h) rfl (by intro w hSw;(try dsimp only at hSw);go_simp;try with_reducible rfl) hHeld ?_
 refine AZ (i:=12) (v:= ?_) rfl (by kernel_rfl) (fun _ _ _ h=>h) rfl (by intro w hSw;(try dsimp only at hSw);go_simp;try with_reducible rfl) hHeld ?_
 refine AZ (i:=16) (v:= ?_) rfl (by kernel_rfl) (fun _ _ _ h=>h) rfl (by intro w hSw;(try dsimp only at hSw);go_simp;try with_reducible rfl) hHeld ?_
 refine AZ (i:=17) (v:= ?_) rfl (by kernel_rfl) (fun _ _ _ h=>h) rfl (by intro w hSw;(try dsimp only at hSw);go_simp;try with_reducible rfl) hHeld ?_
 refine AZ (i:=18) (v:= ?_) rfl (by kernel_rfl) (fun _ _ _ h=>h) rfl (by intro w hSw;(try dsimp only at hSw);go_simp;try with_reducible rfl) hHeld ?_
 refine AZ (i:=19) (v:= ?_) rfl (by kernel_rfl) (fun _ _ _ h=>h) rfl (by intro w hSw;(try dsimp only at hSw);go_simp;try with_reducible rfl) hHeld ?_
 refine AZ (i:=20) (v:= ?_) rfl (by kernel_rfl) (fun _ _ _ h=>h) rfl (by intro w hSw;(try dsimp only at hSw);go_simp;try with_reducible rfl) hHeld ?_
 refine AZ (i:=21) (v:= ?_) rfl (by kernel_rfl) (fun _ _ _ h=>h) rfl (by intro w hSw;(try dsimp only at hSw);go_simp;try with_reducible rfl) hHeld ?_
 refine wpAnyH_ready (rs:= [13]) (by kernel_rfl) (by simp) ?_
 refine AllReadyH.cons rfl (fun K hK=> ?_) AllReadyH.nil
 go_simp
 go_at_call 186
 refine(GR y.a m.types.length HR.out.ya (by omega) _).mono ?_
 rintro e w2 ⟨rfl,⟨h0,rfl⟩ | ⟨h0,rfl⟩⟩
 ·rw [hI.out] at h0;cases h0
 go_wp2_with fail
 exact⟨rfl,.fail hcl (HB.out.trans (below_drewN (Below.refl _ _) 1)) HE.out (by decide) HC.out⟩
theorem WL (v:Value) (y:Ad) {lo g hi:Nat} {x:Fx} {st:Cm} {m:AP} {f:Bt} {AB:List Int} {p:Nat} (w:World) (h:EM m f p st y lo hi g x w) (hop:y.op.toNat=2∨y.op.toNat=3∨y.op.toNat=4) (k:Nat) (ty:CW) (hya:y.a=k) (hty:m.types[k]?=some ty) (hdd:st.dead=false):
 Calls prog 164 #[.pointer (some ⟨g,0,none⟩),.agg #[.int .u8 (y.op.toNat:Int),.int .i64 y.a,v]] w fun e w'=>Ag m f AB p st y w w' lo g x e:=by
 have hcl:Ah y.op=false:=by unfold Ah;exact decide_eq_false (by omega)
 obtain⟨A0,c0,A1,c1,A2,c2,A5,c5,vS,vF,vO,bs,hb,h1,b2,e0,e1,e2,e5,r0,r1,r2,r5,hk,HR,HB,HC,HK,hsz⟩:=h.pre v
 obtain⟨AO,cO,rfl⟩:=CZ hk.op
 obtain⟨i0,GU,GV,GX,D8⟩:=info_parts gH
 have HI0:=AA GU;have HZ0:=AA GV;have Ym:=AA GX;have zN:=AA D8
 clear GU GV GX D8
 obtain⟨o,rr,hop1,hrr⟩:=h.ne
 have hkl:=(List.getElem?_eq_some_iff.1 hty).1
 have hi0:Eo y.a m.types.length=true:=by unfold Eo;exact decide_eq_true (by omega)
 have hlen:m.types.length≤1000000:=by have:=h.Yn.nt;omega
 have htsz:=(h.Yn.types ty (List.mem_of_getElem? hty)).1
 have JN:CG m y.a=ty:=by rw [hya];exact FI hty
 have ho:BD y.op=true:=by unfold BD;exact decide_eq_true (by omega)
 obtain⟨po,hpo⟩: ∃po,po=if y.op.toNat=4 then ty.p++wS else ty.p:=⟨_,rfl⟩
 have Ol:po.size≤9:=by
  rw [hpo];split
  ·rw [ByteArray.size_append,show wS.size=1 from rfl];omega
  ·omega
 have H4:Hid ((((y.op.toNat:Int)==4)=true∧ty.p++ {data:= #[119]}=po)∨(((y.op.toNat:Int)==4)=false∧ty.p=po)):=AA (by
  by_cases h4:y.op.toNat=4
  ·exact .inl ⟨by simp;omega,by rw [hpo,if_pos h4];rfl⟩
  ·exact .inr ⟨by simp;omega,by rw [hpo,if_neg h4]⟩)
 have HE:Hid (BN m f st y=(po,ty.p,0)):=AA (by
  have hrow:(Au y.op.toNat).map (·.plain)=some false:=by rcases hop with hop | hop | hop<;>rw [hop]<;>kernel_rfl
  obtain⟨WH,hr1,hr2⟩:=Option.map_eq_some_iff.1 hrow
  rw [Rl (by rw [hr1];rfl) ho hi0,JN,hpo])
 have Sj:=fun W=>GR (k:Int) m.types.length (by omega) (by omega) W
 have sG:Hid (∀W,Calls prog 186 #[.int .i64 k,.int .i64 m.types.length] W fun e w'=>e= .returned (.int .i64 k)∧w'=W):=AA (fun W=>(Sj W).mono fun e w' hh=>⟨(by
  rcases hh.2 with⟨_,he⟩ | ⟨h0,_⟩
  ·exact he
  ·rw [←hya,hi0] at h0;cases h0),hh.1.symm⟩)
 obtain⟨bt,ot,X3,_,hbt,hq0,hq1,_,_⟩:=DN (Rd.below r0 hb h.hhi) hty
 subst X3
 have hc0:(w.alloc (.cells #[.int .u8 (y.op.toNat:Int),.int .i64 y.a,v] 122)).cell? ⟨g,0,none⟩=some (.slice (some ⟨bt,ot,none⟩) m.types.length c0):=by rw [←e0];exact hk.blk.cell 0
 have lT:(w.alloc (.cells #[.int .u8 (y.op.toNat:Int),.int .i64 y.a,v] 122)).cell? ⟨g,20,none⟩=some (.int .i64 p):=hk.Gu.1
 have hx0:=b2.q 0 rfl
 have hx1:(w.alloc (.cells #[.int .u8 (y.op.toNat:Int),.int .i64 y.a,v] 122)).cell? ⟨w.heap.size,1,none⟩=some (.int .i64 k):=by rw [←hya];exact b2.cell 1
 have hkk:(0:Int)≤k:=by omega
 have zJ:(k:Int)<m.types.length:=by omega
 have hop2:=AA hop1;have HPO:=AA hpo;have SQ:=AA JN;have HO:=AA ho;have HDD:=AA hdd
 have htop:o.base.size≤st.shape.size:=by have:=h.top;unfold Bg at this;rw [hop1] at this;exact this
 have hlo:=h.LP
 have zL:Hid (g<w.heap.size):=AA (by
  obtain⟨_,_,_,_,h9⟩:=h.wk
  exact h9.blk.lt)
 clear h h1 hb b2 e0 e1 e2 e5 hi0 hop hk r0 r1 r2 r5 Sj hya hop1 hty hpo JN ho hdd
 go_enter func164,ntmps164
 go_upto_region 1 with fail
 generalize hw1:w.alloc (.cells #[.int .u8 (y.op.toNat:Int),.int .i64 y.a,v] 122)=w1 at*
 have hgw:w.heap.size≠g:=by have:=zL.out;omega
 have hwl:w.heap.size<w1.heap.size:=by rw [←hw1];simp
 clear hw1
 go_still_tail 23,(by kernel_rfl)
 still_call (sG.out _)
 repeat still_step
 refine wpStill_nil ?_
 change wpList _ _ _ _ _ w1.drew
 go_upto_region 2 with fail
 generalize hw2:(w1.alloc (.cells #[.string ty.p,.string ty.r,.int .i64 p,.int .u8 (y.op.toNat:Int),.string {data:= #[]}] 175)).drew=w2 at*
 have hb2:Below w1.heap.size w1 w2:=by rw [←hw2];exact below_drewN ((Below.refl _ _).alloc (Nat.le_refl _) _) 1
 have hn2:AQ w2 w1.heap.size 175 [.string ty.p,.string ty.r,.int .i64 p,.int .u8 (y.op.toNat:Int),.string {data:= #[]}]:=by rw [←hw2];exact AQ.new w1 175 _
 have hn0:=hn2.q 0 rfl
 have zM:w2.cell? ⟨w.heap.size,0,none⟩=some (.int .u8 (y.op.toNat:Int)):=(hb2.cell hwl).trans hx0
 have ACt:w.heap.size<w2.heap.size:=Nat.lt_of_lt_of_le hwl hb2.size
 have hnl2:w1.heap.size<w2.heap.size:=hn2.lt
 have FQ:=AA (HB.out.trans (hb2.mono HR.out.LP))
 have GN:=AA (HK.out.below hb2)
 have wW:=AA hn2
 have hl2:lo≤w2.heap.size:=Nat.le_trans HR.out.LP hb2.size
 have hbg:w1.heap.size≠g:=by have:=HK.out.blk.lt;omega
 have HOLD:Hid (w1.heap.size ∉ bs):=AA (fun hm=>by have:=HK.out.old _ hm;omega)
 clear hw2 hb2 hn2 hc0 lT hx0 hx1 hq0 hq1
 rcases H4.out with⟨g4,h4⟩ | ⟨g4,h4⟩
 all_goals
  go_wp2_with fail
  try rw [h4]
  clear g4 h4
  refine(SI po _ GN.out hop2.out (by omega) htop (by omega) (by omega)).mono ?_
  rintro e w3 ⟨hkp3,⟨h0,rfl,hk3⟩ | ⟨h0,rfl,hc3⟩⟩
  all_goals have hb3:=Bu hkp3 HK.out.low hl2
  case inr=>
   have H0:=AA h0;clear h0
   go_wp2_with fail
   exact⟨rfl,.o33 hcl HE.out (FQ.out.trans hb3) H0.out hc3⟩
  have H0:=AA h0;clear h0
  have HB3:=AA (FQ.out.trans hb3)
  have hN3:=wW.out.keep hkp3 hbg
  have bH:=AA hN3;have HU:=AA hk3
  have ACx:=hk3.blk.q 18 rfl
  have hn34:w3.cell? ⟨w1.heap.size,4,none⟩=some (.string {data:= #[]}):=hN3.cell 4
  have hf34:=hN3.frozen 4
  have hl3:lo≤w3.heap.size:=Nat.le_trans hl2 hb3.size
  have hnl3:w1.heap.size<w3.heap.size:=hN3.lt
  clear hk3 hN3 hkp3 hb3
  go_upto_region 7 with fail
  obtain⟨left,hleft⟩: ∃left,left=st.shape.extract 0 (st.shape.size-po.size):=⟨_,rfl⟩
  have SL:left.size=st.shape.size-po.size:=by rw [hleft,ByteArray.size_extract];omega
  rw [←hleft]
  rw [←hleft] at HU
  have lU:=AA hleft
  clear hleft ACx
  generalize hw4:w3.setCell ⟨w1.heap.size,4,none⟩ (.string left)=w4
  have ko:Hid (AQ w4 w1.heap.size 175 [.string ty.p,.string ty.r,.int .i64 p,.int .u8 (y.op.toNat:Int),.string left]):=AA (by rw [←hw4];exact bH.out.set 4 _)
  have bP:=AA (by have:=HU.out.other (i:=4) (u:= .string left) bH.out HOLD.out;rw [hw4] at this;exact this)
  have hl4:lo≤w4.heap.size:=by rw [←hw4];simpa using hl3
  have Ct:Hid (Below lo w w4):=AA (by rw [←hw4];exact HB3.out.setCell (Nat.le_trans HR.out.LP (Nat.le_refl _)) _)
  have hn40:=ko.out.q 0 rfl
  have hnl4:w1.heap.size<w4.heap.size:=ko.out.lt
  have zO:=AA SL
  clear hw4 hn34 hf34 hn0 zM bH HU SL
  go_wp2_with fail
  refine(QY left ty.p (st.shape.size-po.size) zO.out _ bP.out (by have:=zO.out;omega) (by omega)).mono ?_
  rintro e w5 ⟨lV,⟨h1,rfl,hk5⟩ | ⟨h1,rfl,hc5⟩⟩
  all_goals have hb5:=Bu lV HK.out.low hl4
  case inr=>
   have H1:=AA h1;clear h1
   go_wp2_with fail
   exact⟨rfl,.o34 hcl HE.out (Ct.out.trans hb5) H0.out H1.out hc5⟩
  have H1:=AA h1;clear h1
  have Dv:=AA (Ct.out.trans hb5)
  have hN5:=ko.out.keep lV hbg
  have HN5:=AA hN5;have HU5:=AA hk5
  have hn54:=hN5.q 4 rfl
  have hnl5:w1.heap.size<w5.heap.size:=hN5.lt
  have hl5:lo≤w5.heap.size:=Nat.le_trans hl4 hb5.size
  have hfl:=HR.out.fl
  obtain⟨bF,cF,eF,V4,hlF,_⟩:=FL (n:=st.floors.length) hk5.fl (by omega)
  subst eF
  have hu15:=hk5.blk.q 15 rfl
  have hu20:=hk5.blk.q 20 rfl
  have hfF:=hk5.fl.frozenAt p
  obtain⟨u5,hcF⟩: ∃u,w5.cell? ⟨bF,p,none⟩=some u:=⟨_,by rw [hk5.fl.cellAt p (by omega),List.getElem?_eq_getElem (by simp;omega)]⟩
  have hp0:(0:Int)≤p:=by omega
  have hpF:(p:Int)<st.floors.length:=by omega
  have hpF2:p<st.floors.length:=by omega
  clear hk5 hN5 lV hb5 hfl hn40
  go_wp2_with fail
  go_region
  all_goals
   generalize Xy:(w5.setCell ⟨bF,p,none⟩ (.int .i64 (left.size:Int))).drew=w6
   have hK6:E5 w6 lo g x {st with shape:=left++ty.p,floors:=st.floors.set p (left.size:Int)} p vS (.slice (some ⟨bF,0,none⟩) st.floors.length cF) (.slice AO st.op.length cO) bs:=by
    rw [←Xy];exact(HU5.out.floor rfl rfl p (left.size:Int)).2.drewN 1
   have EL:Hid (Below lo w w6):=AA (by rw [←Xy];exact below_drewN (Dv.out.setCell V4 _) 1)
   have hN6:AQ w6 w1.heap.size 175 [.string ty.p,.string ty.r,.int .i64 p,.int .u8 (y.op.toNat:Int),.string left]:=by
    rw [←Xy];exact(HN5.out.far (p:=⟨bF,p,none⟩) (fun e=>A_ HU5.out.fl HN5.out (by decide) (by rw [e];rfl)) _).drewN 1
   have hc17:=hK6.blk.q 17 rfl
   have hg6:=hK6.blk.lt
   have hf6:=hK6.blk.frozen 17
   have EY:=AA (hK6.below ((Below.refl _ _).alloc (Nat.le_refl _) (.cells #[.pointer (some ⟨w1.heap.size,0,none⟩)] 173)))
   have HNA:=AA (hN6.alloc (.cells #[.pointer (some ⟨w1.heap.size,0,none⟩)] 173))
   have HOA:=AA (row_one w6 (.pointer (some ⟨w1.heap.size,0,none⟩)) 173)
   have hl6:lo≤w6.heap.size:=Nat.le_trans HR.out.LP (by have:=EL.out.size;have:=hN6.lt;omega)
   have lW:st.op.length≤1001:=by rw [hop2.out];simp;omega
   clear Xy hK6 hN6 hcF hfF hu15 hu20 hn54
   go_wp2_with (at_builtin;refine D_ _ rfl (.tmp 76) (.tmp 78) 170 rfl lo 173 i0 _ 8 underlying170 HI0.out HZ0.out Ym.out zN.out rfl _ st.op.length (bs.reverse.map kU) rfl (by exact EY.out.op) (w6.heap.size+1) _ 1 1 [.pointer (some ⟨w1.heap.size,0,none⟩)] rfl rfl (by exact HOA.out) (by intro u hu;simp at hu;subst hu;rfl) (by unfold maxLen;omega) (by omega) (by simp;omega) ?_;intro A7 c7 w7 h2 h3 h4;have H2:=AA h2;have H3:=AA h3;have Q9:=Ay h3 EY.out.blk (fun e=>A_ EY.out.op EY.out.blk (by decide) e);have hc7:=Q9.cell 17;have hf7:=Q9.frozen 17;have hl7:=Q9.lt;clear h2 h3 h4 Q9)
   go_end0
   have hp:=EY.out.push (o:=⟨ty,p,y.op,left⟩) (b:=w1.heap.size) (by unfold Tn;exact HNA.out) (Nat.le_trans HR.out.LP (Nat.le_refl _)) rfl H3.out H2.out
   refine .ACv hcl HO.out HDD.out HE.out (EL.out.trans (((Below.refl _ _).alloc hl6 _).trans hp.1)) H0.out H1.out ?_
   rw [SQ.out,←lU.out,←zO.out]
   exact⟨_,_,_,_,hp.2⟩
section
variable {m:AP} {f:Bt} {AB:List Int} {p:Nat} {st:Cm} {y:Ad} {w w':World} {lo g:Nat} {x:Fx} {po pu:ByteArray}
theorem Ag.bQ (hcl:Ah y.op=false) (ho:BD y.op=false) (ha:DV y.op=true) (he:BN m f st y=(po,pu,0)) (hb:Below lo w w') (h0:ends (AV st) po=true) (h1:st.shape.size-po.size+pu.size≤256) {s:ByteArray}
 (hk:Wk w' lo g x {st with shape:=s,dead:=true} p):Ag m f AB p st y w w' lo g x (.returned (.tuple #[])):=by
 refine⟨hb,?_⟩
 have:EA m f AB p st y= .inr {st with shape:=st.shape.extract 0 (st.shape.size-po.size)++pu,dead:=true}:=by
  unfold EA
  rw [if_neg (by rw [hcl];decide),he]
  simp only []
  rw [if_neg (by simp),if_neg (by rw [h0];decide),if_neg (by omega),ho,ha]
  simp only [Bool.false_eq_true,if_false]
 rw [this]
 exact⟨rfl,s,hk,fun h=>by cases h⟩
theorem Ag.d33 (hcl:Ah y.op=false) (he:BN m f st y=(po,pu,0)) (hb:Below lo w w') (h0:Ab (ends (AV st) po) 33≠0) (hc:MC w' g x p):Ag m f AB p st y w w' lo g x (.panicked (D6 (Ab (ends (AV st) po) 33))):=by
 refine⟨hb,?_⟩
 have hf:ends (AV st) po=false:=by cases h:ends (AV st) po with | false=>rfl | true=>exact absurd (BQ h) h0
 have:EA m f AB p st y= .inl 33:=by unfold EA;rw [if_neg (by rw [hcl];decide),he];simp only [];rw [if_neg (by simp),if_pos hf]
 rw [this,Bw hf]
 exact⟨rfl,hc⟩
end
theorem MJ {o:Bo} (h:o.s.p.size≤8∧o.s.r.size≤8):(BZ o).size≤8:=by
 unfold BZ
 split<;>omega
theorem RG {l:List Bo} {n:Int} {o:Bo} (h:BK l n=some o):GA l n=BZ o:=by unfold GA;rw [h]
theorem WM (v:Value) (y:Ad) {lo g hi:Nat} {x:Fx} {st:Cm} {m:AP} {f:Bt} {AB:List Int} {p:Nat} (w:World) (h:EM m f p st y lo hi g x w) (hop:y.op.toNat=0) (hdd:st.dead=false):
 Calls prog 166 #[.pointer (some ⟨g,0,none⟩),.agg #[.int .u8 (y.op.toNat:Int),.int .i64 y.a,v]] w fun e w'=>Ag m f AB p st y w w' lo g x e:=by
 have hcl:Ah y.op=false:=by unfold Ah;exact decide_eq_false (by omega)
 obtain⟨A0,c0,A1,c1,A2,c2,A5,c5,vS,vF,vO,bs,hb,h1,b2,e0,e1,e2,e5,r0,r1,r2,r5,hk,HR,HB,HC,HK,hsz⟩:=h.pre v
 have hx0:(w.alloc (.cells #[.int .u8 (y.op.toNat:Int),.int .i64 y.a,v] 122)).cell? ⟨w.heap.size,0,none⟩=some (.int .u8 0):=by have:=b2.cell 0;rw [this,hop];rfl
 have hx1:=b2.q 1 rfl
 obtain⟨o,rr,hop1,hrr⟩:=h.ne
 have hop2:=AA hop1
 have htop:o.base.size≤st.shape.size:=by have:=h.top;unfold Bg at this;rw [hop1] at this;exact this
 have lW:st.op.length≤1001:=by rw [hop1];simp;omega
 have hc19:=hk.blk.q 19 rfl
 have hg1:=hk.blk.lt
 have sI:=hk.blk.frozen 19
 have ho:BD y.op=false:=by unfold BD;exact decide_eq_false (by omega)
 have ha:DV y.op=true:=by unfold DV;exact decide_eq_true (by omega)
 have HE:Hid (BN m f st y=(Di,Di,0)):=AA (by
  have hrow:(Au 0).map (·.plain)=some false:=by kernel_rfl
  obtain⟨WH,hr1,hr2⟩:=Option.map_eq_some_iff.1 hrow
  unfold BN
  rw [hop,hr1]
  simp [hr2])
 clear h h1 hb b2 e0 e1 e2 e5 hop hk r0 r1 r2 r5 hop1
 go_enter func166,ntmps166
 go_upto_region 1 with fail
 generalize w.alloc (.cells #[.int .u8 (y.op.toNat:Int),.int .i64 y.a,v] 122)=w1 at*
 go_wp2_with fail
 go_end0
 have h2:=HK.out.dead true
 exact .bQ hcl ho ha HE.out (HB.out.trans h2.1) (Sk _) (by show st.shape.size-0+0≤256;omega) (s:=st.shape) ⟨_,_,_,_,h2.2⟩
theorem Tz (v:Value) (y:Ad) {lo g hi:Nat} {x:Fx} {st:Cm} {m:AP} {f:Bt} {AB:List Int} {p:Nat} (w:World) (h:EM m f p st y lo hi g x w) (hop:y.op.toNat=10) (hdd:st.dead=false):
 Calls prog 166 #[.pointer (some ⟨g,0,none⟩),.agg #[.int .u8 (y.op.toNat:Int),.int .i64 y.a,v]] w fun e w'=>Ag m f AB p st y w w' lo g x e:=by
 have hcl:Ah y.op=false:=by unfold Ah;exact decide_eq_false (by omega)
 obtain⟨A0,c0,A1,c1,A2,c2,A5,c5,vS,vF,vO,bs,hb,h1,b2,e0,e1,e2,e5,r0,r1,r2,r5,hk,HR,HB,HC,HK,hsz⟩:=h.pre v
 have hx0:(w.alloc (.cells #[.int .u8 (y.op.toNat:Int),.int .i64 y.a,v] 122)).cell? ⟨w.heap.size,0,none⟩=some (.int .u8 10):=by have:=b2.cell 0;rw [this,hop];rfl
 have hx1:=b2.q 1 rfl
 obtain⟨o,rr,hop1,hrr⟩:=h.ne
 have hop2:=AA hop1
 have htop:o.base.size≤st.shape.size:=by have:=h.top;unfold Bg at this;rw [hop1] at this;exact this
 have lW:st.op.length≤1001:=by rw [hop1];simp;omega
 have hc19:=hk.blk.q 19 rfl
 have hg1:=hk.blk.lt
 have sI:=hk.blk.frozen 19
 have ho:BD y.op=false:=by unfold BD;exact decide_eq_false (by omega)
 have ha:DV y.op=true:=by unfold DV;exact decide_eq_true (by omega)
 obtain⟨po,hpo⟩: ∃po,po=(CG m f.t).r:=⟨_,rfl⟩
 have Ol:po.size≤8:=by rw [hpo];exact(Gs h.Yn f.t).2
 have HE:Hid (BN m f st y=(po,po,0)):=AA (by
  have hrow:(Au 10).map (·.plain)=some false:=by kernel_rfl
  obtain⟨WH,hr1,hr2⟩:=Option.map_eq_some_iff.1 hrow
  unfold BN
  rw [hop,hr1]
  simp [hr2,hpo])
 have hc9:(w.alloc (.cells #[.int .u8 (y.op.toNat:Int),.int .i64 y.a,v] 122)).cell? ⟨g,9,none⟩=some (.string po):=by rw [hpo,←h.sr];exact hk.blk.cell 9
 clear h h1 hb b2 e0 e1 e2 e5 hop hk r0 r1 r2 r5 hop1 hpo
 go_enter func166,ntmps166
 go_upto_region 1 with fail
 generalize w.alloc (.cells #[.int .u8 (y.op.toNat:Int),.int .i64 y.a,v] 122)=w1 at*
 go_wp2_with fail
 refine(Jc po _ ⟨_,_,_,_,HK.out⟩ hop2.out (by omega) htop (by omega) (by omega)).mono ?_
 rintro e w3 ⟨hkp3,⟨h0,rfl,hk3⟩ | ⟨h0,rfl,hc3⟩⟩
 all_goals have hb3:=Bu hkp3 HK.out.low HR.out.LP
 case inr=>
  have H0:=AA h0;clear h0
  go_wp2_with fail
  exact⟨rfl,.d33 hcl HE.out (HB.out.trans hb3) H0.out hc3⟩
 have H0:=AA h0;clear h0
 have HB3:=AA (HB.out.trans hb3)
 obtain⟨uS,uF,uO,us,hu⟩:=hk3
 have HU:=AA hu
 have ACz:=hu.blk.q 19 rfl
 have hg3:=hu.blk.lt
 have hf3:=hu.blk.frozen 19
 clear hu hkp3
 go_wp2_with fail
 go_end0
 have h2:=HU.out.dead true
 have hle:=Kk _ _ (BS (by decide) H0.out)
 exact .bQ hcl ho ha HE.out (HB3.out.trans h2.1) (BS (by decide) H0.out) (by have:=C_ st;omega) ⟨_,_,_,_,h2.2⟩
theorem WO (v:Value) (y:Ad) {lo g hi:Nat} {x:Fx} {st:Cm} {m:AP} {f:Bt} {AB:List Int} {p:Nat} (w:World) (h:EM m f p st y lo hi g x w) (hop:y.op.toNat=7) (hdd:st.dead=false):
 Calls prog 166 #[.pointer (some ⟨g,0,none⟩),.agg #[.int .u8 (y.op.toNat:Int),.int .i64 y.a,v]] w fun e w'=>Ag m f AB p st y w w' lo g x e:=by
 have hcl:Ah y.op=false:=by unfold Ah;exact decide_eq_false (by omega)
 obtain⟨A0,c0,A1,c1,A2,c2,A5,c5,vS,vF,vO,bs,hb,h1,b2,e0,e1,e2,e5,r0,r1,r2,r5,hk,HR,HB,HC,HK,hsz⟩:=h.pre v
 have hx0:(w.alloc (.cells #[.int .u8 (y.op.toNat:Int),.int .i64 y.a,v] 122)).cell? ⟨w.heap.size,0,none⟩=some (.int .u8 7):=by have:=b2.cell 0;rw [this,hop];rfl
 have hx1:=b2.q 1 rfl
 obtain⟨o,rr,hop1,hrr⟩:=h.ne
 have hop2:=AA hop1
 have htop:o.base.size≤st.shape.size:=by have:=h.top;unfold Bg at this;rw [hop1] at this;exact this
 have lW:st.op.length≤1001:=by rw [hop1];simp;omega
 have hc19:=hk.blk.q 19 rfl
 have hg1:=hk.blk.lt
 have sI:=hk.blk.frozen 19
 have ho:BD y.op=false:=by unfold BD;exact decide_eq_false (by omega)
 have ha:DV y.op=true:=by unfold DV;exact decide_eq_true (by omega)
 have lX:Hid (BK st.op y.a=none→(BN m f st y).2.2=31):=AA (fun hl=>by
  have hrow:(Au 7).map (·.plain)=some false:=by kernel_rfl
  obtain⟨WH,hr1,hr2⟩:=Option.map_eq_some_iff.1 hrow
  unfold BN BI
  rw [hop,hr1]
  simp [hr2,hl])
 have HE:Hid (∀ob,BK st.op y.a=some ob→BN m f st y=(BZ ob,BZ ob,0)):=AA (fun ob hl=>by
  have hrow:(Au 7).map (·.plain)=some false:=by kernel_rfl
  obtain⟨WH,hr1,hr2⟩:=Option.map_eq_some_iff.1 hrow
  unfold BN BI
  rw [hop,hr1]
  simp [hr2,hl,RG hl])
 have lY:=AA h.ops
 have hya:=h.ya
 clear h h1 hb b2 e0 e1 e2 e5 hop hk r0 r1 r2 r5 hop1
 go_enter func166,ntmps166
 go_upto_region 1 with fail
 generalize w.alloc (.cells #[.int .u8 (y.op.toNat:Int),.int .i64 y.a,v] 122)=w1 at*
 go_wp2_with fail
 refine(MF y.a hya _ HK.out (by omega)).mono ?_
 rintro e w2 ⟨⟨q,rfl⟩,⟨hl,rfl⟩ | ⟨ob,b,hl,gI,hb,rfl⟩⟩
 case inl=>
  have HL:=AA hl;clear hl
  go_wp2_with fail
  exact⟨rfl,.fail hcl (HB.out.trans (below_drewN (Below.refl _ _) _)) (lX.out HL.out) (by decide) HC.out⟩
 have hl2:=hl
 unfold BK at hl2
 rw [if_pos gI] at hl2
 have Wy:=AA (HK.out.each _ ob b hl2 hb)
 have hmem:=lY.out ob (List.mem_of_getElem? hl2)
 have hbs:=MJ hmem.2
 obtain⟨s,hs⟩: ∃s,s=BZ ob:=⟨_,rfl⟩
 rw [←hs] at hbs
 have HS:=AA hs
 have HE2:=AA (HE.out ob hl)
 clear hl hl2 gI hb hmem hs
 go_wp2_with fail
 refine(Mi (o:=ob) _ Wy.out.2.drewN').mono ?_
 rintro e w2 ⟨rfl,rfl⟩
 rw [←HS.out]
 rw [←HS.out] at HE2
 go_wp2_with fail
 have FQ:=AA (HB.out.trans (below_drewN (Below.refl _ _) q))
 refine(Jc s _ ⟨_,_,_,_,HK.out.drewN q⟩ hop2.out (by omega) htop (by omega) (by omega)).mono ?_
 rintro e w3 ⟨hkp3,⟨h0,rfl,hk3⟩ | ⟨h0,rfl,hc3⟩⟩
 all_goals have hb3:=Bu hkp3 HK.out.low HR.out.LP
 case inr=>
  have H0:=AA h0;clear h0
  go_wp2_with fail
  exact⟨rfl,.d33 hcl HE2.out (FQ.out.trans hb3) H0.out hc3⟩
 have H0:=AA h0;clear h0
 have HB3:=AA (FQ.out.trans hb3)
 obtain⟨uS,uF,uO,us,hu⟩:=hk3
 have HU:=AA hu
 have ACz:=hu.blk.q 19 rfl
 have hg3:=hu.blk.lt
 have hf3:=hu.blk.frozen 19
 clear hu hkp3
 go_wp2_with fail
 go_end0
 have h2:=HU.out.dead true
 have hle:=Kk _ _ (BS (by decide) H0.out)
 exact .bQ hcl ho ha HE2.out (HB3.out.trans h2.1) (BS (by decide) H0.out) (by have:=C_ st;omega) ⟨_,_,_,_,h2.2⟩
theorem WQ (v:Value) (y:Ad) {lo g hi:Nat} {x:Fx} {st:Cm} {m:AP} {f:Bt} {AB:List Int} {p:Nat} (w:World) (h:EM m f p st y lo hi g x w) (hop:y.op.toNat=8) (hdd:st.dead=false):
 Calls prog 166 #[.pointer (some ⟨g,0,none⟩),.agg #[.int .u8 (y.op.toNat:Int),.int .i64 y.a,v]] w fun e w'=>Ag m f AB p st y w w' lo g x e:=by
 have hcl:Ah y.op=false:=by unfold Ah;exact decide_eq_false (by omega)
 obtain⟨A0,c0,A1,c1,A2,c2,A5,c5,vS,vF,vO,bs,hb,h1,b2,e0,e1,e2,e5,r0,r1,r2,r5,hk,HR,HB,HC,HK,hsz⟩:=h.pre v
 have hx0:(w.alloc (.cells #[.int .u8 (y.op.toNat:Int),.int .i64 y.a,v] 122)).cell? ⟨w.heap.size,0,none⟩=some (.int .u8 8):=by have:=b2.cell 0;rw [this,hop];rfl
 have hx1:=b2.q 1 rfl
 obtain⟨o,rr,hop1,hrr⟩:=h.ne
 have hop2:=AA hop1
 have htop:o.base.size≤st.shape.size:=by have:=h.top;unfold Bg at this;rw [hop1] at this;exact this
 have lW:st.op.length≤1001:=by rw [hop1];simp;omega
 have hc19:=hk.blk.q 19 rfl
 have hg1:=hk.blk.lt
 have sI:=hk.blk.frozen 19
 have ho:BD y.op=false:=by unfold BD;exact decide_eq_false (by omega)
 have ha:DV y.op=false:=by unfold DV;exact decide_eq_false (by omega)
 have lX:Hid (BK st.op y.a=none→(BN m f st y).2.2=31):=AA (fun hl=>by
  have hrow:(Au 8).map (·.plain)=some false:=by kernel_rfl
  obtain⟨WH,hr1,hr2⟩:=Option.map_eq_some_iff.1 hrow
  unfold BN BI
  rw [hop,hr1]
  simp [hr2,hl])
 have HE:Hid (∀ob,BK st.op y.a=some ob→BN m f st y=(BZ ob++wS,BZ ob,0)):=AA (fun ob hl=>by
  have hrow:(Au 8).map (·.plain)=some false:=by kernel_rfl
  obtain⟨WH,hr1,hr2⟩:=Option.map_eq_some_iff.1 hrow
  unfold BN BI
  rw [hop,hr1]
  simp [hr2,hl,RG hl])
 have lY:=AA h.ops
 have hya:=h.ya
 clear h h1 hb b2 e0 e1 e2 e5 hop hk r0 r1 r2 r5 hop1
 go_enter func166,ntmps166
 go_upto_region 1 with fail
 generalize w.alloc (.cells #[.int .u8 (y.op.toNat:Int),.int .i64 y.a,v] 122)=w1 at*
 go_wp2_with fail
 refine(MF y.a hya _ HK.out (by omega)).mono ?_
 rintro e w2 ⟨⟨q,rfl⟩,⟨hl,rfl⟩ | ⟨ob,b,hl,gI,hb,rfl⟩⟩
 case inl=>
  have HL:=AA hl;clear hl
  go_wp2_with fail
  exact⟨rfl,.fail hcl (HB.out.trans (below_drewN (Below.refl _ _) _)) (lX.out HL.out) (by decide) HC.out⟩
 have hl2:=hl
 unfold BK at hl2
 rw [if_pos gI] at hl2
 have Wy:=AA (HK.out.each _ ob b hl2 hb)
 have hmem:=lY.out ob (List.mem_of_getElem? hl2)
 have hbs:=MJ hmem.2
 obtain⟨s,hs⟩: ∃s,s=BZ ob:=⟨_,rfl⟩
 rw [←hs] at hbs
 have HS:=AA hs
 have HE2:=AA (HE.out ob hl)
 clear hl hl2 gI hb hmem hs
 go_wp2_with fail
 refine(Mi (o:=ob) _ Wy.out.2.drewN').mono ?_
 rintro e w2 ⟨rfl,rfl⟩
 rw [←HS.out]
 obtain⟨po,hpo⟩: ∃po,po=s++wS:=⟨_,rfl⟩
 have Ol:po.size=s.size+1:=by rw [hpo,ByteArray.size_append];rfl
 rw [←HS.out,←hpo] at HE2
 have HPO:=AA hpo;have HPZ:=AA Ol
 have hp9:po.size≤9:=by omega
 clear hpo Ol
 go_wp2_with fail
 rw [show s++ {data:= #[119]}=po from HPO.out.symm]
 have FQ:=AA (HB.out.trans (below_drewN (Below.refl _ _) q))
 refine(Jc po _ ⟨_,_,_,_,HK.out.drewN q⟩ hop2.out (by omega) htop (by omega) (by omega)).mono ?_
 rintro e w3 ⟨hkp3,⟨h0,rfl,hk3⟩ | ⟨h0,rfl,hc3⟩⟩
 all_goals have hb3:=Bu hkp3 HK.out.low HR.out.LP
 case inr=>
  have H0:=AA h0;clear h0
  go_wp2_with fail
  exact⟨rfl,.d33 hcl HE2.out (FQ.out.trans hb3) H0.out hc3⟩
 have H0:=AA h0;clear h0
 have HB3:=AA (FQ.out.trans hb3)
 obtain⟨uS,uF,uO,us,hu⟩:=hk3
 obtain⟨left,hleft⟩: ∃left,left=st.shape.extract 0 (st.shape.size-po.size):=⟨_,rfl⟩
 have SL:left.size≤256:=by rw [hleft,ByteArray.size_extract];omega
 have ACx:w3.cell? ⟨g,18,none⟩=some (.string left):=by rw [hleft];exact hu.blk.cell 18
 rw [←hleft] at hu
 have HU:=AA hu;have lU:=AA hleft
 have hg3:=hu.blk.lt
 have hf3:=hu.blk.frozen 18
 clear hu hkp3 hleft
 go_wp2_with fail
 refine bodyPost_ret (results_none rfl _ _ _) rfl ?_
 have h2:=HU.out.shape (left++s)
 have hle:=Kk _ _ (BS (by decide) H0.out)
 have hpz:=HPZ.out
 have hE:Eff m f st y po s:=⟨hcl,ho,ha,HE2.out,hdd⟩
 exact .good hE (HB3.out.trans h2.1) (BS (by decide) H0.out) (by have:=C_ st;omega) (by rw [←lU.out];exact⟨_,_,_,_,h2.2⟩)
theorem ins9 {y:Ad} (h:Aq y=0) (hop:y.op.toNat=9):1≤y.l.length∧y.l.length≤16∧ ∀n∈y.l,0≤n∧n≤2147483647:=by
 have hrow:(Au 9).map (·.takes)=some 3:=by kernel_rfl
 obtain⟨WH,hr1,hr2⟩:=Option.map_eq_some_iff.1 hrow
 unfold Aq at h
 rw [hop,hr1] at h
 simp only [hr2] at h
 split at h
 ·cases h
 rw [if_neg (by simp)] at h
 split at h
 ·cases h
 split at h
 ·rename_i h1 h2
  refine⟨by omega,by omega,fun n hn=>of_decide_eq_true (List.all_eq_true.1 h2 n hn)⟩
 ·cases h
theorem ints_at {W:World} {lo hi:Nat} {A:Option Addr} {n c:Nat} {xs:List Int} (h:(Rd.i64.sl false).R W lo hi [.slice A n c] xs) {k:Nat} {x:Int} (hk:xs[k]?=some x):
 ∃b o,A=some ⟨b,o,none⟩∧b<hi∧W.cell? ⟨b,o+k,none⟩=some (.int .i64 x)∧Rd.Gd x:=by
 obtain⟨b,o,e,_,hb,cs,hcs,ecs,hB⟩:=Dj h hk
 subst ecs
 have:=hcs 0 _ rfl
 rw [show o+k*Rd.i64.z+0=o+k from by rw [show Rd.i64.z=1 from rfl];omega] at this
 exact⟨b,o,e,hb,this,hB⟩
theorem Zn {l:List Bo} {xs:List Int} (h: ∀(i:Nat) (n:Int),xs[i]?=some n→(BK l n).isSome=true):xs.all (fun n=>(BK l n).isSome)=true:=
 List.all_eq_true.2 fun n hn=>by
  obtain⟨i,hi⟩:=List.getElem?_of_mem hn
  exact h i n hi
theorem lZ {l:List Bo} {xs:List Int} {s:ByteArray} (h: ∀(i:Nat) (n:Int),xs[i]?=some n→GA l n=s):xs.all (fun n=>decide (GA l n=s))=true:=
 List.all_eq_true.2 fun n hn=>by
  obtain⟨i,hi⟩:=List.getElem?_of_mem hn
  exact decide_eq_true (h i n hi)
theorem bR {α:Type} {xs:List α} {f:α→Bool} {i:Nat} {n:α} (h:xs[i]?=some n) (hf:f n=false):xs.all f=false:=by
 cases ha:xs.all f with
 | false=>rfl
 | true=>rw [List.all_eq_true.1 ha n (List.mem_of_getElem? h)] at hf;cases hf
theorem WR (v:Value) (y:Ad) {lo g hi:Nat} {x:Fx} {st:Cm} {m:AP} {f:Bt} {AB:List Int} {p:Nat} (w:World) (h:EM m f p st y lo hi g x w) (hop:y.op.toNat=9) (hdd:st.dead=false) (hL:(Rd.i64.sl false).R w 0 hi [v] y.l):
 Calls prog 166 #[.pointer (some ⟨g,0,none⟩),.agg #[.int .u8 (y.op.toNat:Int),.int .i64 y.a,v]] w fun e w'=>Ag m f AB p st y w w' lo g x e:=by
 have hcl:Ah y.op=false:=by unfold Ah;exact decide_eq_false (by omega)
 obtain⟨A0,c0,A1,c1,A2,c2,A5,c5,vS,vF,vO,bs,hb,h1,b2,e0,e1,e2,e5,r0,r1,r2,r5,hk,HR,HB,HC,HK,hsz⟩:=h.pre v
 have hx0:(w.alloc (.cells #[.int .u8 (y.op.toNat:Int),.int .i64 y.a,v] 122)).cell? ⟨w.heap.size,0,none⟩=some (.int .u8 9):=by have:=b2.cell 0;rw [this,hop];rfl
 have hx1:=b2.q 1 rfl
 obtain⟨o,rr,hop1,hrr⟩:=h.ne
 have hop2:=AA hop1
 have htop:o.base.size≤st.shape.size:=by have:=h.top;unfold Bg at this;rw [hop1] at this;exact this
 have lW:st.op.length≤1001:=by rw [hop1];simp;omega
 have hc19:=hk.blk.q 19 rfl
 have hg1:=hk.blk.lt
 have sI:=hk.blk.frozen 19
 have ho:BD y.op=false:=by unfold BD;exact decide_eq_false (by omega)
 have ha:DV y.op=true:=by unfold DV;exact decide_eq_true (by omega)
 have hrow:(Au 9).map (·.plain)=some false:=by kernel_rfl
 obtain⟨WH,hr1,hr2⟩:=Option.map_eq_some_iff.1 hrow
 have heff:BN m f st y=((BI st.op y).1++wS,(BI st.op y).1,(BI st.op y).2):=by
  unfold BN
  rw [hop,hr1]
  simp [hr2]
 have lX:Hid (y.l.all (fun n=>(BK st.op n).isSome)=false→(BN m f st y).2.2=31):=AA (fun hl=>by
  rw [heff];unfold BI;rw [if_neg (by rw [hop];decide),hl];rfl)
 have HE32:Hid (y.l.all (fun n=>(BK st.op n).isSome)=true→y.l.all (fun n=>decide (GA st.op n=GA st.op (y.l.headD 0)))=false→(BN m f st y).2.2=32):=AA (fun hl h2=>by
  rw [heff];unfold BI;rw [if_neg (by rw [hop];decide),hl,h2];rfl)
 have HE:Hid (y.l.all (fun n=>(BK st.op n).isSome)=true→y.l.all (fun n=>decide (GA st.op n=GA st.op (y.l.headD 0)))=true→BN m f st y=(GA st.op (y.l.headD 0)++wS,GA st.op (y.l.headD 0),0)):=AA (fun hl h2=>by
  rw [heff];unfold BI;rw [if_neg (by rw [hop];decide),hl,h2];rfl)
 have lY:=AA h.ops
 obtain⟨hi1,hi2,hi3⟩:=ins9 h.ins hop
 have HI3:=AA hi3
 obtain⟨AL,cL,hv⟩:=AJ hL
 have HL:Hid ((Rd.i64.sl false).R (w.alloc (.cells #[.int .u8 (y.op.toNat:Int),.int .i64 y.a,v] 122)) 0 hi [.slice AL y.l.length cL] y.l):=AA (by rw [←hv];exact Rd.below hL hb h.hhi)
 have hx2:(w.alloc (.cells #[.int .u8 (y.op.toNat:Int),.int .i64 y.a,v] 122)).cell? ⟨w.heap.size,2,none⟩=some (.slice AL y.l.length cL):=by rw [←hv];exact b2.cell 2
 obtain⟨n0,hn0⟩: ∃n0,y.l[0]?=some n0:=⟨_,List.getElem?_eq_getElem (by omega)⟩
 have HD0:Hid (y.l.headD 0=n0):=AA (by cases hyl:y.l with | nil=>rw [hyl] at hn0;cases hn0 | cons a r=>rw [hyl] at hn0;simpa using hn0)
 obtain⟨bL,oL,eL,hbL,hcl0,hB0⟩:=ints_at HL.out hn0
 subst eL
 clear h h1 hb b2 e0 e1 e2 e5 hop hk r0 r1 r2 r5 hop1 hL hv hi3 hrow hr1 hr2 heff
 go_enter func166,ntmps166
 go_upto_region 1 with fail
 generalize w.alloc (.cells #[.int .u8 (y.op.toNat:Int),.int .i64 y.a,v] 122)=w1 at*
 have Bq:=AA hx2;have HCL0:=AA hcl0;have Te:=AA hn0
 clear hn0
 go_wp2_with fail
 go_loopw [45] (fun i wr=> ∃(j q:Nat),j≤y.l.length∧i= .int .i64 j∧wr=w1.drewN q∧ ∀(i:Nat) (n:Int),i<j→y.l[i]?=some n→(BK st.op n).isSome=true) (fun i _=>y.l.length-(intOf i).toNat)
 case atStart=>exact⟨0,0,Nat.zero_le _,rfl,rfl,fun i n hi _=>absurd hi (Nat.not_lt_zero _)⟩
 case round=>
  obtain⟨j,q,hj,rfl,rfl,hall⟩:=hrel
  have MG:=AA hall;clear hall
  by_cases hlt:j<y.l.length
  ·obtain⟨n,hn⟩: ∃n,y.l[j]?=some n:=⟨_,List.getElem?_eq_getElem hlt⟩
   obtain⟨_,_,e',_,hcj,hB⟩:=ints_at HL.out hn
   injection e' with e';injection e' with e1' e2' _;subst e1' e2'
   have HN:=AA hn
   have hj0:(0:Int)≤j:=by omega
   clear hn
   go_wp2_with fail
   refine(MF n hB _ (HK.out.drewN q) (by omega)).mono ?_
   rintro e w2 ⟨⟨q2,rfl⟩,⟨hl,rfl⟩ | ⟨ob,b,hl,gI,hb,rfl⟩⟩
   ·have oU:=AA hl;clear hl
    go_wp2_with fail
    exact⟨rfl,.fail hcl (HB.out.trans (below_drewN (Below.refl _ _) _)) (lX.out (bR HN.out (by rw [oU.out];rfl))) (by decide) HC.out⟩
   ·have oU:=AA hl;clear hl gI hb
    go_wp2_with fail
    refine⟨⟨j+1,q+q2,by omega,by go_num,by simp,fun i n' hi hi'=> ?_⟩,by simp [intOf];omega⟩
    by_cases e:i=j
    ·subst e
     rw [HN.out] at hi';injection hi' with hi';subst hi'
     rw [oU.out];rfl
    ·exact MG.out i n' (by omega) hi'
  ·obtain rfl:j=y.l.length:=by omega
   have lq:Hid (y.l.all (fun n=>(BK st.op n).isSome)=true):=AA (Zn fun i n hi=>MG.out i n (List.getElem?_eq_some_iff.1 hi).1 hi)
   have hsome:=MG.out 0 n0 (by omega) Te.out
   obtain⟨o0,ho0⟩:=Option.isSome_iff_exists.1 hsome
   have HO0:=AA ho0
   have hw1':(w1.drewN q).cell? ⟨bL,oL,none⟩=some (.int .i64 n0):=hcl0
   have hl0:(0:Int)<y.l.length:=by omega
   clear hsome ho0 MG
   go_wp2_with fail
   refine(MF n0 hB0 _ (HK.out.drewN q) (by omega)).mono ?_
   rintro e w2 ⟨⟨q2,rfl⟩,⟨hl,rfl⟩ | ⟨ob,b,hl,gI,hb,rfl⟩⟩
   ·rw [HO0.out] at hl;cases hl
   have hl2:=hl
   unfold BK at hl2
   rw [if_pos gI] at hl2
   have Wy:=AA (HK.out.each _ ob b hl2 hb)
   have hmem:=lY.out ob (List.mem_of_getElem? hl2)
   have hbs:=MJ hmem.2
   obtain⟨s,hs⟩: ∃s,s=BZ ob:=⟨_,rfl⟩
   rw [←hs] at hbs
   have HS:=AA hs
   have HLS:Hid (GA st.op (y.l.headD 0)=s):=AA (by rw [HD0.out,RG hl,hs])
   clear hl hl2 gI hb hmem hs
   go_wp2_with fail
   refine(Mi (o:=ob) _ Wy.out.2.drewN').mono ?_
   rintro e w2 ⟨rfl,rfl⟩
   rw [←HS.out]
   have hx22:(w1.drewN (q+q2)).cell? ⟨w.heap.size,2,none⟩=some (.slice (some ⟨bL,oL,none⟩) y.l.length cL):=Bq.out
   go_wp2_with fail
   go_loopw [63] (fun i wr=> ∃(j q:Nat),j≤y.l.length∧i= .int .i64 j∧wr=w1.drewN q∧ ∀(i:Nat) (n:Int),i<j→y.l[i]?=some n→GA st.op n=s) (fun i _=>y.l.length-(intOf i).toNat)
   case atStart=>exact⟨0,q+q2,Nat.zero_le _,rfl,rfl,fun i n hi _=>absurd hi (Nat.not_lt_zero _)⟩
   case round=>
    obtain⟨j,q,hj,rfl,rfl,hall⟩:=hrel
    have MG:=AA hall;clear hall
    by_cases hlt:j<y.l.length
    ·obtain⟨n,hn⟩: ∃n,y.l[j]?=some n:=⟨_,List.getElem?_eq_getElem hlt⟩
     obtain⟨_,_,e',_,hcj,hB⟩:=ints_at HL.out hn
     injection e' with e';injection e' with e1' e2' _;subst e1' e2'
     have HN:=AA hn
     have hj0:(0:Int)≤j:=by omega
     clear hn
     go_wp2_with fail
     refine(MF n hB _ (HK.out.drewN q) (by omega)).mono ?_
     rintro e w2 ⟨⟨q2,rfl⟩,⟨hl,rfl⟩ | ⟨ob,b,hl,gI,hb,rfl⟩⟩
     ·have:=List.all_eq_true.1 lq.out n (List.mem_of_getElem? HN.out)
      rw [hl] at this;cases this
     have hl2:=hl
     unfold BK at hl2
     rw [if_pos gI] at hl2
     have Wy:=AA (HK.out.each _ ob b hl2 hb)
     have bS:Hid (GA st.op n=BZ ob):=AA (RG hl)
     clear hl hl2 gI hb
     go_wp2_with fail
     refine(Mi (o:=ob) _ Wy.out.2.drewN').mono ?_
     rintro e w2 ⟨rfl,rfl⟩
     generalize hs2:BZ ob=s2
     have HS2:=AA hs2
     have hq:=Vy s2 s
     clear hs2
     by_cases he:s2=s
     ·have iX:=AA he
      rw [decide_eq_true he] at hq
      clear he
      go_wp2_with fail
      refine(BX 32 _).mono ?_
      rintro e w2 ⟨rfl,rfl⟩
      go_wp2_with fail
      refine⟨⟨j+1,_,by omega,by go_num,rfl,fun i n' hi hi'=> ?_⟩,by simp [intOf];omega⟩
      by_cases e:i=j
      ·subst e
       rw [HN.out] at hi';injection hi' with hi';subst hi'
       rw [bS.out,HS2.out,iX.out]
      ·exact MG.out i n' (by omega) hi'
     ·have iX:=AA he
      rw [decide_eq_false he] at hq
      clear he
      go_wp2_with fail
      refine(DI 32 _).mono ?_
      rintro e w2 ⟨rfl,rfl⟩
      go_wp2_with fail
      exact⟨rfl,.fail hcl (HB.out.trans (below_drewN (Below.refl _ _) _)) (HE32.out lq.out (bR HN.out (by rw [HLS.out,bS.out,HS2.out];exact decide_eq_false iX.out))) (by decide) HC.out⟩
    ·obtain rfl:j=y.l.length:=by omega
     have hE2:=HE.out lq.out (by rw [HLS.out];exact lZ fun i n hi=>MG.out i n (List.getElem?_eq_some_iff.1 hi).1 hi)
     rw [HLS.out] at hE2
     obtain⟨po,hpo⟩: ∃po,po=s++wS:=⟨_,rfl⟩
     have Ol:po.size=s.size+1:=by rw [hpo,ByteArray.size_append];rfl
     rw [←hpo] at hE2
     have HE2:=AA hE2
     have HPO:=AA hpo;have HPZ:=AA Ol
     have hp9:po.size≤9:=by omega
     clear hpo Ol hE2
     go_wp2_with fail
     rw [show s++ {data:= #[119]}=po from HPO.out.symm]
     have FQ:=AA (HB.out.trans (below_drewN (Below.refl _ _) q))
     refine(Jc po _ ⟨_,_,_,_,HK.out.drewN q⟩ hop2.out (by omega) htop (by omega) (by omega)).mono ?_
     rintro e w3 ⟨hkp3,⟨h0,rfl,hk3⟩ | ⟨h0,rfl,hc3⟩⟩
     all_goals have hb3:=Bu hkp3 HK.out.low HR.out.LP
     case inr=>
      have H0:=AA h0;clear h0
      go_wp2_with fail
      exact⟨rfl,.d33 hcl HE2.out (FQ.out.trans hb3) H0.out hc3⟩
     have H0:=AA h0;clear h0
     have HB3:=AA (FQ.out.trans hb3)
     obtain⟨uS,uF,uO,us,hu⟩:=hk3
     have HU:=AA hu
     have ACz:=hu.blk.q 19 rfl
     have hg3:=hu.blk.lt
     have hf3:=hu.blk.frozen 19
     clear hu hkp3
     go_wp2_with fail
     go_end0
     have h2:=HU.out.dead true
     have hle:=Kk _ _ (BS (by decide) H0.out)
     have hpz:=HPZ.out
     exact .bQ hcl ho ha HE2.out (HB3.out.trans h2.1) (BS (by decide) H0.out) (by have:=C_ st;omega) ⟨_,_,_,_,h2.2⟩
end Go.Proofs.YtlagonfamllgjaaGreatDoor
