/- Part 33 of the proof: VdJ VdK VdL VdM -/
import Derived.Test.YtlagonfamllgjaaGreatDoorK32
namespace Go.Proofs.YtlagonfamllgjaaGreatDoor
set_option linter.unusedVariables false
set_option linter.unusedSimpArgs false
set_option maxRecDepth 100000
set_option maxHeartbeats 4000000
open Go.RowKit Tryz
theorem ins9 {y:Ad} (h:Ar y=0) (hop:y.op.toNat=9):1≤y.l.length∧y.l.length≤16∧ ∀n∈y.l,0≤n∧n≤2147483647:=by
 have hrow:(Aq 9).map (·.takes)=some 3:=by kernel_rfl
 obtain⟨RJ,hr1,hr2⟩:=Option.map_eq_some_iff.1 hrow
 unfold Ar at h
 rw [hop,hr1] at h
 simp only [hr2] at h
 split at h
 ·cases h
 rw [if_neg (by simp)] at h
 split at h
 ·cases h
 split at h
 ·rename_i h1 h2
  refine⟨by omega,by omega,fun n hn=>of_decide_eq_true (List.all_eq_true.1 h2 n hn)⟩
 ·cases h
theorem ints_at {W:World} {lo hi:Nat} {A:Option Addr} {n c:Nat} {xs:List Int} (h:(Rd.i64.sl false).R W lo hi [.slice A n c] xs) {k:Nat} {x:Int} (hk:xs[k]?=some x):
 ∃b o,A=some ⟨b,o,none⟩∧b<hi∧W.cell? ⟨b,o+k,none⟩=some (.int .i64 x)∧Rd.G8 x:=by
 obtain⟨b,o,e,_,hb,cs,hcs,ecs,hB⟩:=DC h hk
 subst ecs
 have:=hcs 0 _ rfl
 rw [show o+k*Rd.i64.z+0=o+k from by rw [show Rd.i64.z=1 from rfl];omega] at this
 exact⟨b,o,e,hb,this,hB⟩
theorem aK {l:List Bt} {xs:List Int} (h: ∀(i:Nat) (n:Int),xs[i]?=some n→(BL l n).isSome=true):xs.all (fun n=>(BL l n).isSome)=true:=
 List.all_eq_true.2 fun n hn=>by
  obtain⟨i,hi⟩:=List.getElem?_of_mem hn
  exact h i n hi
theorem n_ {l:List Bt} {xs:List Int} {s:ByteArray} (h: ∀(i:Nat) (n:Int),xs[i]?=some n→Gl l n=s):xs.all (fun n=>decide (Gl l n=s))=true:=
 List.all_eq_true.2 fun n hn=>by
  obtain⟨i,hi⟩:=List.getElem?_of_mem hn
  exact decide_eq_true (h i n hi)
theorem dM {α:Type} {xs:List α} {f:α→Bool} {i:Nat} {n:α} (h:xs[i]?=some n) (hf:f n=false):xs.all f=false:=by
 cases ha:xs.all f with
 | false=>rfl
 | true=>rw [List.all_eq_true.1 ha n (List.mem_of_getElem? h)] at hf;cases hf
theorem Wd (v:Value) (y:Ad) {lo g hi:Nat} {x:Fx} {st:Cn} {m:AP} {f:Bv} {AJ:List Int} {p:Nat} (w:World) (h:EG m f p st y lo hi g x w) (hop:y.op.toNat=9) (hdd:st.dead=false) (hL:(Rd.i64.sl false).R w 0 hi [v] y.l):
 Calls prog 166 #[.pointer (some ⟨g,0,none⟩),.agg #[.int .u8 (y.op.toNat:Int),.int .i64 y.a,v]] w fun e w'=>Ab m f AJ p st y w w' lo g x e:=by
 have hcl:AZ y.op=false:=by unfold AZ;exact decide_eq_false (by omega)
 obtain⟨A0,c0,A1,c1,A2,c2,A5,c5,vS,vF,vO,bs,hb,h1,b2,e0,e1,e2,e5,r0,r1,r2,r5,hk,HR,HB,HC,HK,hsz⟩:=h.pre v
 have hx0:(w.alloc (.cells #[.int .u8 (y.op.toNat:Int),.int .i64 y.a,v] 122)).cell? ⟨w.heap.size,0,none⟩=some (.int .u8 9):=by have:=b2.cell 0;rw [this,hop];rfl
 have hx1:=b2.q 1 rfl
 obtain⟨o,rr,hop1,hrr⟩:=h.ne
 have hop2:=AA hop1
 have htop:o.base.size≤st.shape.size:=by have:=h.top;unfold BU at this;rw [hop1] at this;exact this
 have nk:st.op.length≤1001:=by rw [hop1];simp;omega
 have hc19:=hk.blk.q 19 rfl
 have hg1:=hk.blk.lt
 have vD:=hk.blk.frozen 19
 have ho:Aw y.op=false:=by unfold Aw;exact decide_eq_false (by omega)
 have ha:DF y.op=true:=by unfold DF;exact decide_eq_true (by omega)
 have hrow:(Aq 9).map (·.plain)=some false:=by kernel_rfl
 obtain⟨RJ,hr1,hr2⟩:=Option.map_eq_some_iff.1 hrow
 have heff:BI m f st y=((BH st.op y).1++wS,(BH st.op y).1,(BH st.op y).2):=by
  unfold BI
  rw [hop,hr1]
  simp [hr2]
 have nu:Hid (y.l.all (fun n=>(BL st.op n).isSome)=false→(BI m f st y).2.2=31):=AA (fun hl=>by
  rw [heff];unfold BH;rw [if_neg (by rw [hop];decide),hl];rfl)
 have HE32:Hid (y.l.all (fun n=>(BL st.op n).isSome)=true→y.l.all (fun n=>decide (Gl st.op n=Gl st.op (y.l.headD 0)))=false→(BI m f st y).2.2=32):=AA (fun hl h2=>by
  rw [heff];unfold BH;rw [if_neg (by rw [hop];decide),hl,h2];rfl)
 have HE:Hid (y.l.all (fun n=>(BL st.op n).isSome)=true→y.l.all (fun n=>decide (Gl st.op n=Gl st.op (y.l.headD 0)))=true→BI m f st y=(Gl st.op (y.l.headD 0)++wS,Gl st.op (y.l.headD 0),0)):=AA (fun hl h2=>by
  rw [heff];unfold BH;rw [if_neg (by rw [hop];decide),hl,h2];rfl)
 have ny:=AA h.ops
 obtain⟨hi1,hi2,hi3⟩:=ins9 h.ins hop
 have HI3:=AA hi3
 obtain⟨AL,cL,hv⟩:=AB hL
 have HL:Hid ((Rd.i64.sl false).R (w.alloc (.cells #[.int .u8 (y.op.toNat:Int),.int .i64 y.a,v] 122)) 0 hi [.slice AL y.l.length cL] y.l):=AA (by rw [←hv];exact Rd.below hL hb h.hhi)
 have hx2:(w.alloc (.cells #[.int .u8 (y.op.toNat:Int),.int .i64 y.a,v] 122)).cell? ⟨w.heap.size,2,none⟩=some (.slice AL y.l.length cL):=by rw [←hv];exact b2.cell 2
 obtain⟨n0,hn0⟩: ∃n0,y.l[0]?=some n0:=⟨_,List.getElem?_eq_getElem (by omega)⟩
 have HD0:Hid (y.l.headD 0=n0):=AA (by cases hyl:y.l with | nil=>rw [hyl] at hn0;cases hn0 | cons a r=>rw [hyl] at hn0;simpa using hn0)
 obtain⟨bL,oL,eL,hbL,hcl0,hB0⟩:=ints_at HL.out hn0
 subst eL
 clear h h1 hb b2 e0 e1 e2 e5 hop hk r0 r1 r2 r5 hop1 hL hv hi3 hrow hr1 hr2 heff
 go_enter func166,ntmps166
 go_upto_region 1 with fail
 generalize w.alloc (.cells #[.int .u8 (y.op.toNat:Int),.int .i64 y.a,v] 122)=w1 at*
 have CV:=AA hx2;have HCL0:=AA hcl0;have Ra:=AA hn0
 clear hn0
 go_wp2_with fail
 go_loopw [45] (fun i wr=> ∃(j q:Nat),j≤y.l.length∧i= .int .i64 j∧wr=w1.drewN q∧ ∀(i:Nat) (n:Int),i<j→y.l[i]?=some n→(BL st.op n).isSome=true) (fun i _=>y.l.length-(intOf i).toNat)
 case atStart=>exact⟨0,0,Nat.zero_le _,rfl,rfl,fun i n hi _=>absurd hi (Nat.not_lt_zero _)⟩
 case round=>
  obtain⟨j,q,hj,rfl,rfl,hall⟩:=hrel
  have Mq:=AA hall;clear hall
  by_cases hlt:j<y.l.length
  ·obtain⟨n,hn⟩: ∃n,y.l[j]?=some n:=⟨_,List.getElem?_eq_getElem hlt⟩
   obtain⟨_,_,e',_,hcj,hB⟩:=ints_at HL.out hn
   injection e' with e';injection e' with e1' e2' _;subst e1' e2'
   have HN:=AA hn
   have hj0:(0:Int)≤j:=by omega
   clear hn
   go_wp2_with fail
   refine(Mk n hB _ (HK.out.drewN q) (by omega)).mono ?_
   rintro e w2 ⟨⟨q2,rfl⟩,⟨hl,rfl⟩ | ⟨ob,b,hl,iF,hb,rfl⟩⟩
   ·have rA:=AA hl;clear hl
    go_wp2_with fail
    exact⟨rfl,.fail hcl (HB.out.trans (below_drewN (Below.refl _ _) _)) (nu.out (dM HN.out (by rw [rA.out];rfl))) (by decide) HC.out⟩
   ·have rA:=AA hl;clear hl iF hb
    go_wp2_with fail
    refine⟨⟨j+1,q+q2,by omega,by go_num,by simp,fun i n' hi hi'=> ?_⟩,by simp [intOf];omega⟩
    by_cases e:i=j
    ·subst e
     rw [HN.out] at hi';injection hi' with hi';subst hi'
     rw [rA.out];rfl
    ·exact Mq.out i n' (by omega) hi'
  ·obtain rfl:j=y.l.length:=by omega
   have oC:Hid (y.l.all (fun n=>(BL st.op n).isSome)=true):=AA (aK fun i n hi=>Mq.out i n (List.getElem?_eq_some_iff.1 hi).1 hi)
   have hsome:=Mq.out 0 n0 (by omega) Ra.out
   obtain⟨o0,ho0⟩:=Option.isSome_iff_exists.1 hsome
   have HO0:=AA ho0
   have hw1':(w1.drewN q).cell? ⟨bL,oL,none⟩=some (.int .i64 n0):=hcl0
   have hl0:(0:Int)<y.l.length:=by omega
   clear hsome ho0 Mq
   go_wp2_with fail
   refine(Mk n0 hB0 _ (HK.out.drewN q) (by omega)).mono ?_
   rintro e w2 ⟨⟨q2,rfl⟩,⟨hl,rfl⟩ | ⟨ob,b,hl,iF,hb,rfl⟩⟩
   ·rw [HO0.out] at hl;cases hl
   have hl2:=hl
   unfold BL at hl2
   rw [if_pos iF] at hl2
   have dK:=AA (HK.out.each _ ob b hl2 hb)
   have hmem:=ny.out ob (List.mem_of_getElem? hl2)
   have hbs:=Mw hmem.2
   obtain⟨s,hs⟩: ∃s,s=Bo ob:=⟨_,rfl⟩
   rw [←hs] at hbs
   have HS:=AA hs
   have HLS:Hid (Gl st.op (y.l.headD 0)=s):=AA (by rw [HD0.out,Rl hl,hs])
   clear hl hl2 iF hb hmem hs
   go_wp2_with fail
   refine(NT (o:=ob) _ dK.out.2.drewN').mono ?_
   rintro e w2 ⟨rfl,rfl⟩
   rw [←HS.out]
   have hx22:(w1.drewN (q+q2)).cell? ⟨w.heap.size,2,none⟩=some (.slice (some ⟨bL,oL,none⟩) y.l.length cL):=CV.out
   go_wp2_with fail
   go_loopw [63] (fun i wr=> ∃(j q:Nat),j≤y.l.length∧i= .int .i64 j∧wr=w1.drewN q∧ ∀(i:Nat) (n:Int),i<j→y.l[i]?=some n→Gl st.op n=s) (fun i _=>y.l.length-(intOf i).toNat)
   case atStart=>exact⟨0,q+q2,Nat.zero_le _,rfl,rfl,fun i n hi _=>absurd hi (Nat.not_lt_zero _)⟩
   case round=>
    obtain⟨j,q,hj,rfl,rfl,hall⟩:=hrel
    have Mq:=AA hall;clear hall
    by_cases hlt:j<y.l.length
    ·obtain⟨n,hn⟩: ∃n,y.l[j]?=some n:=⟨_,List.getElem?_eq_getElem hlt⟩
     obtain⟨_,_,e',_,hcj,hB⟩:=ints_at HL.out hn
     injection e' with e';injection e' with e1' e2' _;subst e1' e2'
     have HN:=AA hn
     have hj0:(0:Int)≤j:=by omega
     clear hn
     go_wp2_with fail
     refine(Mk n hB _ (HK.out.drewN q) (by omega)).mono ?_
     rintro e w2 ⟨⟨q2,rfl⟩,⟨hl,rfl⟩ | ⟨ob,b,hl,iF,hb,rfl⟩⟩
     ·have:=List.all_eq_true.1 oC.out n (List.mem_of_getElem? HN.out)
      rw [hl] at this;cases this
     have hl2:=hl
     unfold BL at hl2
     rw [if_pos iF] at hl2
     have dK:=AA (HK.out.each _ ob b hl2 hb)
     have Yb:Hid (Gl st.op n=Bo ob):=AA (Rl hl)
     clear hl hl2 iF hb
     go_wp2_with fail
     refine(NT (o:=ob) _ dK.out.2.drewN').mono ?_
     rintro e w2 ⟨rfl,rfl⟩
     generalize hs2:Bo ob=s2
     have HS2:=AA hs2
     have hq:=WG s2 s
     clear hs2
     by_cases he:s2=s
     ·have jh:=AA he
      rw [decide_eq_true he] at hq
      clear he
      go_wp2_with fail
      refine(Bn 32 _).mono ?_
      rintro e w2 ⟨rfl,rfl⟩
      go_wp2_with fail
      refine⟨⟨j+1,_,by omega,by go_num,rfl,fun i n' hi hi'=> ?_⟩,by simp [intOf];omega⟩
      by_cases e:i=j
      ·subst e
       rw [HN.out] at hi';injection hi' with hi';subst hi'
       rw [Yb.out,HS2.out,jh.out]
      ·exact Mq.out i n' (by omega) hi'
     ·have jh:=AA he
      rw [decide_eq_false he] at hq
      clear he
      go_wp2_with fail
      refine(DU 32 _).mono ?_
      rintro e w2 ⟨rfl,rfl⟩
      go_wp2_with fail
      exact⟨rfl,.fail hcl (HB.out.trans (below_drewN (Below.refl _ _) _)) (HE32.out oC.out (dM HN.out (by rw [HLS.out,Yb.out,HS2.out];exact decide_eq_false jh.out))) (by decide) HC.out⟩
    ·obtain rfl:j=y.l.length:=by omega
     have hE2:=HE.out oC.out (by rw [HLS.out];exact n_ fun i n hi=>Mq.out i n (List.getElem?_eq_some_iff.1 hi).1 hi)
     rw [HLS.out] at hE2
     obtain⟨po,hpo⟩: ∃po,po=s++wS:=⟨_,rfl⟩
     have PY:po.size=s.size+1:=by rw [hpo,ByteArray.size_append];rfl
     rw [←hpo] at hE2
     have HE2:=AA hE2
     have HPO:=AA hpo;have HPZ:=AA PY
     have hp9:po.size≤9:=by omega
     clear hpo PY hE2
     go_wp2_with fail
     rw [show s++ {data:= #[119]}=po from HPO.out.symm]
     have Gn:=AA (HB.out.trans (below_drewN (Below.refl _ _) q))
     refine(Ia po _ ⟨_,_,_,_,HK.out.drewN q⟩ hop2.out (by omega) htop (by omega) (by omega)).mono ?_
     rintro e w3 ⟨hkp3,⟨h0,rfl,hk3⟩ | ⟨h0,rfl,hc3⟩⟩
     all_goals have hb3:=BZ hkp3 HK.out.low HR.out.Fq
     case inr=>
      have H0:=AA h0;clear h0
      go_wp2_with fail
      exact⟨rfl,.d33 hcl HE2.out (Gn.out.trans hb3) H0.out hc3⟩
     have H0:=AA h0;clear h0
     have HB3:=AA (Gn.out.trans hb3)
     obtain⟨uS,uF,uO,us,hu⟩:=hk3
     have HU:=AA hu
     have ADz:=hu.blk.q 19 rfl
     have hg3:=hu.blk.lt
     have hf3:=hu.blk.frozen 19
     clear hu hkp3
     go_wp2_with fail
     go_end0
     have h2:=HU.out.dead true
     have hle:=LP _ _ (Bh (by decide) H0.out)
     have hpz:=HPZ.out
     exact .dJ hcl ho ha HE2.out (HB3.out.trans h2.1) (Bh (by decide) H0.out) (by have:=DR st;omega) ⟨_,_,_,_,h2.2⟩
section
variable {m:AP} {f:Bv} {AJ:List Int} {p:Nat} {st:Cn} {y:Ad} {w w':World} {lo g:Nat} {x:Fx} {o:Bt} {r:List Bt}
theorem Ab.c33 (hcl:AZ y.op=true) (hop:st.op=o::r) (hb:Below lo w w') (h0:Ae (decide (st.shape=o.base++o.s.r)) 33≠0) (hc:Nn w' g x p):
 Ab m f AJ p st y w w' lo g x (.panicked (D6 (Ae (decide (st.shape=o.base++o.s.r)) 33))):=by
 refine⟨hb,?_⟩
 have ht:BU st=o:=by unfold BU;rw [hop];rfl
 have hf:st.shape≠o.base++o.s.r:=fun e=>h0 (BX (decide_eq_true e))
 have:D_ m f AJ p st y= .inl 33:=by unfold D_;rw [if_pos hcl,ht,if_pos hf]
 rw [this,CJ (decide_eq_false hf)]
 exact⟨rfl,hc⟩
theorem Ab.c5 (hcl:AZ y.op=true) (hop:st.op=o::r) (h5:y.op.toNat=5) (hb:Below lo w w') (h0:st.shape=o.base++o.s.r) (hk:Wk w' lo g x {st with shape:=o.base++o.s.p,dead:=false} p):
 Ab m f AJ p st y w w' lo g x (.returned (.tuple #[])):=by
 refine⟨hb,?_⟩
 have ht:BU st=o:=by unfold BU;rw [hop];rfl
 have:D_ m f AJ p st y= .inr {st with shape:=o.base++o.s.p,dead:=false}:=by unfold D_;rw [if_pos hcl,ht,if_neg (fun h=>h h0),if_pos h5]
 rw [this]
 exact⟨rfl,_,hk,fun _=>rfl⟩
theorem Ab.c37 (hcl:AZ y.op=true) (hop:st.op=o::r) (h5:y.op.toNat≠5) (hb:Below lo w w') (h0:st.shape=o.base++o.s.r) (h4:o.o.toNat=4) (he:AJ.getD o.pc.toNat (-1)<0) (hpr:o.s.p≠o.s.r) (hc:Nn w' g x p):
 Ab m f AJ p st y w w' lo g x (.panicked (D6 37)):=by
 refine⟨hb,?_⟩
 have ht:BU st=o:=by unfold BU;rw [hop];rfl
 have:D_ m f AJ p st y= .inl 37:=by unfold D_;rw [if_pos hcl,ht,if_neg (fun h=>h h0),if_neg h5,if_pos ⟨h4,he,hpr⟩]
 rw [this]
 exact⟨rfl,hc⟩
theorem Ab.c6 (hcl:AZ y.op=true) (hop:st.op=o::r) (h5:y.op.toNat≠5) (hb:Below lo w w') (h0:st.shape=o.base++o.s.r) (hno: ¬(o.o.toNat=4∧AJ.getD o.pc.toNat (-1)<0∧o.s.p≠o.s.r)) (hk:Wk w' lo g x {st with op:=r,dead:=false} p):
 Ab m f AJ p st y w w' lo g x (.returned (.tuple #[])):=by
 refine⟨hb,?_⟩
 have ht:BU st=o:=by unfold BU;rw [hop];rfl
 have:D_ m f AJ p st y= .inr {st with op:=r,dead:=false}:=by unfold D_;rw [if_pos hcl,ht,if_neg (fun h=>h h0),if_neg h5,if_neg hno,hop];rfl
 rw [this]
 exact⟨rfl,_,hk,fun _=>rfl⟩
end
theorem vE (a b:ByteArray):(a.toList==b.toList)=decide (a=b):=WG a b
def Tg (w:World) (lo:Nat) (x:Fx) (AJ:List Int):Prop:= ∃bE,x.AJ= .slice (some ⟨bE,0,none⟩) AJ.length AJ.length∧AQ w bE 3 (AJ.map iv)∧bE<lo
theorem Tg.below {w w':World} {lo:Nat} {x:Fx} {AJ:List Int} (h:Tg w lo x AJ) (hb:Below lo w w'):Tg w' lo x AJ:=by
 obtain⟨bE,h1,h2,h3⟩:=h
 exact⟨bE,h1,h2.below hb h3,h3⟩
theorem oD (s:ByteArray) {lo g:Nat} {x:Fx} {st:Cn} {pc:Int} {b:Nat} {o:Bt} (w:World) (h:Wk w lo g x st pc) (hb:AQ w b 175 (Ua o)) (hs1:o.base.size≤1000000) (hs2:s.size≤1000000) (hd:st.dead=true→st.shape=o.base++s):
 Calls prog 187 #[.pointer (some ⟨g,0,none⟩),.pointer (some ⟨b,0,none⟩),.string s] w fun e w'=>
  Mj w w' g x pc (Ae (decide (st.shape=o.base++s)) 33) e (Wk w' lo g x {st with shape:=o.base++s} pc):=by
 refine(tu s w h hb hs1 hs2).mono fun e w' hh=> ?_
 cases hdd:st.dead with
 | false=>rw [hdd] at hh;exact hh
 | true=>
  rw [decide_eq_true (hd hdd)]
  rw [hdd,Bool.true_or] at hh
  exact hh
theorem vG (v:Value) (y:Ad) {lo g hi:Nat} {x:Fx} {st:Cn} {m:AP} {f:Bv} {AJ:List Int} {p:Nat} (w:World) (h:EG m f p st y lo hi g x w) (hcl:AZ y.op=true) (hE:Tg w lo x AJ) (hel:AJ.length≤1000000)
 (hd:st.dead=true→st.shape=(BU st).base++(BU st).s.r) (hq: ∀o∈st.op,o.o.toNat=4→ ∃q:Nat,o.pc=q∧q<AJ.length):
 Calls prog 165 #[.pointer (some ⟨g,0,none⟩),.agg #[.int .u8 (y.op.toNat:Int),.int .i64 y.a,v]] w fun e w'=>Ab m f AJ p st y w w' lo g x e:=by
 obtain⟨hb,h1⟩:=h.boxed v
 have b2:=(CW w y v h.Fq).2
 obtain⟨vS,vF,vO,bs,hk⟩:=h1.wk
 have HR:=AA h1;have HB:=AA hb;have HC:=AA hk.Ci;have HK:=AA hk
 have hsz:=h.size
 obtain⟨o,rr,hop1,hrr⟩:=h.ne
 have hop2:=AA hop1
 have ht:BU st=o:=by unfold BU;rw [hop1];rfl
 rw [ht] at hd
 have hmem:o∈st.op:=by rw [hop1];exact List.mem_cons_self ..
 have hos:=h.ops o hmem
 have HQ:=AA (hq o hmem)
 obtain⟨b,bs',A,c,rfl,evO,hcA,hbk,hlb,_⟩:=hk.head hop1
 have HT:=AA (Z6 _ hk hop1 (by omega))
 have dK:=AA hbk
 have hx0:=b2.q 0 rfl
 have hcb1:=hbk.q 1 rfl
 have HE:=AA (hE.below hb)
 have aJ:Hid (g<w.heap.size):=AA (by
  obtain⟨_,_,_,_,h9⟩:=h.wk
  exact h9.blk.lt)
 have HD:=AA hd
 clear h h1 hb b2 hop1 hk ht hmem hq hbk hE hd hcA
 go_enter func165,ntmps165
 go_upto_region 1 with fail
 generalize hw1:w.alloc (.cells #[.int .u8 (y.op.toNat:Int),.int .i64 y.a,v] 122)=w1 at*
 have hgw:w.heap.size≠g:=by have:=aJ.out;omega
 have hwl:w.heap.size<w1.heap.size:=by rw [←hw1];simp
 clear hw1
 go_wp2_with fail
 refine HT.out.mono ?_
 rintro e w2 ⟨rfl,⟨q0,rfl⟩⟩
 go_wp2_with fail
 refine(oD o.s.r _ ⟨_,_,_,_,HK.out.drewN q0⟩ dK.out.drewN' (by omega) (by omega) HD.out).mono ?_
 rintro e w3 ⟨hkp3,⟨h0,rfl,hk3⟩ | ⟨h0,rfl,hc3⟩⟩
 all_goals have hb3:=BZ hkp3 HK.out.low HR.out.Fq
 case inr=>
  have H0:=AA h0;clear h0
  go_wp2_with fail
  exact⟨rfl,.c33 hcl hop2.out (HB.out.trans ((below_drewN (Below.refl _ _) q0).trans hb3)) H0.out hc3⟩
 have heq:=of_decide_eq_true (Bh (by decide) h0)
 have jh:=AA heq
 have HB3:=AA (HB.out.trans ((below_drewN (Below.refl _ _) q0).trans hb3))
 rw [←heq] at hk3
 have hk3:Wk w3 lo g x st p:=hk3
 obtain⟨uS,uF,uO,us,hu⟩:=hk3
 obtain⟨b',us',A',c',rfl,evO',hcA',_,_,_⟩:=hu.head hop2.out
 subst evO'
 have hcap:rr.length+1≤c':=by
  have h9:=hu.op
  rw [hop2.out] at h9
  exact Row.few h9
 have hbg:b≠g:=Fv dK.out HK.out.blk (by decide)
 have HBK3:=AA (dK.out.drewN' (n:=q0) |>.keep hkp3 hbg)
 have AD0:w3.cell? ⟨w.heap.size,0,none⟩=some (.int .u8 (y.op.toNat:Int)):=(JL hkp3 hwl hgw).trans hx0
 have hx19:=hu.blk.q 19 rfl
 have hg3:=hu.blk.lt
 have hf3:=hu.blk.frozen 19
 have HU:=AA hu
 have oG:=AA (HE.out.below ((below_drewN (Below.refl _ _) q0).trans hb3))
 have hwl3:w.heap.size<w3.heap.size:=Nat.lt_of_lt_of_le hwl (by have:=hkp3.size;exact this)
 clear hu hkp3 heq h0 hb3 hcA' hx0 hcb1
 go_upto_region 4 with fail
 generalize hw4:w3.setCell ⟨g,19,none⟩ (.bool false)=w4
 have dI:Hid (Below lo w3 w4∧Fg w4 lo g x {st with dead:=false} p uS uF (.slice (some ⟨A',0,none⟩) (rr.length+1) c') (b'::us')):=AA (by rw [←hw4];exact HU.out.dead false)
 have Le:Keep (fun k=>k≠g) w3 w4:=by rw [←hw4];exact(Keep.refl _ _).setCell (by simp) _
 have hN4:=HBK3.out.keep Le hbg
 have hx04:w4.cell? ⟨w.heap.size,0,none⟩=some (.int .u8 (y.op.toNat:Int)):=(JL Le hwl3 hgw).trans AD0
 have hn0:=hN4.q 0 rfl
 have hn1:=hN4.q 1 rfl
 have hn2:=hN4.q 2 rfl
 have ZF:=hN4.q 3 rfl
 have hn4:=hN4.q 4 rfl
 have hg4:=dI.out.2.blk.lt
 have mq:=AA (oG.out.below dI.out.1)
 have C9:=AA (HB3.out.trans dI.out.1)
 clear hw4 Le hN4 AD0 hx19 hf3
 have AD1:=of_decide_eq_true hcl
 by_cases h5:y.op.toNat=5
 ·have g5:((y.op.toNat:Int)==5)=true:=by simp;omega
  have H5:=AA h5
  have hs1:o.base.size≤1000000:=by omega
  have hs2:o.s.p.size≤1000000:=by omega
  have hc18:=dI.out.2.blk.q 18 rfl
  have AAe:=dI.out.2.blk.frozen 18
  clear h5 AD1
  go_wp2_with fail
  go_region
  all_goals
   go_wp2_with fail
   refine bodyPost_ret (results_none rfl _ _ _) rfl ?_
   have h2:=dI.out.2.shape (o.base++o.s.p)
   exact .c5 hcl hop2.out H5.out (C9.out.trans (below_drewN h2.1 1)) jh.out ⟨_,_,_,_,h2.2.drewN 1⟩
 ·have h6:y.op.toNat=6:=by omega
  have g5:((y.op.toNat:Int)==5)=false:=by simp;omega
  have H5:=AA h5
  have hc17:=dI.out.2.blk.q 17 rfl
  have hf17:=dI.out.2.blk.frozen 17
  have iG:=AA (fun n=>(show Below lo w4 ((w4.drewN n).setCell ⟨g,17,none⟩ (.slice (some ⟨A',0,none⟩) rr.length c'))∧Fg ((w4.drewN n).setCell ⟨g,17,none⟩ (.slice (some ⟨A',0,none⟩) rr.length c')) lo g x {({st with dead:=false}:Cn)with op:=rr} p uS uF (.slice (some ⟨A',0,none⟩) rr.length c') us' from⟨(below_drewN (Below.refl _ _) n).trans ((dI.out.2.drewN n).cut (o:=o) (r:=rr) hop2.out rfl).1,((dI.out.2.drewN n).cut (o:=o) (r:=rr) hop2.out rfl).2⟩))
  clear h5 h6 AD1
  by_cases h4:o.o.toNat=4
  ·have g4:((o.o.toNat:Int)==4)=true:=by simp;omega
   obtain⟨q,hqp,hql⟩:=HQ.out h4
   obtain⟨bE,eE,hbE,hlE⟩:=mq.out
   have hc14:w4.cell? ⟨g,14,none⟩=some (.slice (some ⟨bE,0,none⟩) AJ.length AJ.length):=by rw [←eE];exact dI.out.2.blk.cell 14
   obtain⟨ev,hev⟩: ∃ev,AJ[q]?=some ev:=⟨_,List.getElem?_eq_getElem hql⟩
   have hcE:w4.cell? ⟨bE,q,none⟩=some (.int .i64 ev):=by rw [hbE.cell q,List.getElem?_map,hev];rfl
   have HEV:Hid (AJ.getD o.pc.toNat (-1)=ev):=AA (by rw [hqp,Int.toNat_natCast,List.getD_eq_getElem?_getD,hev];rfl)
   rw [hqp] at hn2
   have hq0:(0:Int)≤q:=by omega
   have hqlt:(q:Int)<AJ.length:=by omega
   have H4:=AA h4
   clear h4 hqp hbE eE hev
   by_cases hneg:ev<0
   ·have gn:decide (ev<0)=true:=decide_eq_true hneg
    have AAf:=AA hneg
    clear hneg
    by_cases hpr:o.s.p=o.s.r
    ·have iB:=AA hpr
     rw [hpr] at hn0
     clear hpr
     go_wp2_with fail
     go_quiet (fail)
     go_wp2_with fail
     go_quiet ((go_at_call 133;first | exact BF (Bn 37 _) | exact BA (Bn 37 _)))
     go_wp2_with fail
     go_region
     all_goals
      go_end0
      exact .c6 hcl hop2.out H5.out (C9.out.trans (iG.out _).1) jh.out (fun h=>h.2.2 iB.out) ⟨_,_,_,_,(iG.out _).2⟩
    ·have iB:=AA hpr
     have hq2:(o.s.p.toList==o.s.r.toList)=false:=by rw [vE];exact decide_eq_false hpr
     clear hpr
     go_wp2_with fail
     go_quiet (fail)
     go_wp2_with fail
     have hm0:(w4.drewN nq).cell? ⟨b,0,none⟩=some (.string o.s.p):=hn0
     have hm1:(w4.drewN nq).cell? ⟨b,1,none⟩=some (.string o.s.r):=hn1
     have HKQ:Hid (Below lo w4 (w4.drewN nq)∧Nn (w4.drewN nq) g x p):=AA ⟨below_drewN (Below.refl _ _) _,(dI.out.2.drewN nq).Ci⟩
     generalize w4.drewN nq=w5 at*
     go_still_tail 11,(by kernel_rfl)
     change wpList _ _ _ _ _ w5.drew
     go_wp2_with fail
     refine(DU 37 _).mono ?_
     rintro e w6 ⟨rfl,rfl⟩
     go_wp2_with fail
     exact⟨rfl,.c37 hcl hop2.out H5.out (C9.out.trans (below_drewN HKQ.out.1 1)) jh.out H4.out (by rw [HEV.out];exact AAf.out) iB.out HKQ.out.2⟩
   ·have gn:decide (ev<0)=false:=decide_eq_false hneg
    have AAf:=AA hneg
    clear hneg
    go_wp2_with fail
    go_quiet (fail)
    go_wp2_with fail
    go_region
    all_goals
     go_end0
     exact .c6 hcl hop2.out H5.out (C9.out.trans (iG.out _).1) jh.out (fun h=>by have h1:=h.2.1;rw [HEV.out] at h1;have h2:=AAf.out;omega) ⟨_,_,_,_,(iG.out _).2⟩
  ·have g4:((o.o.toNat:Int)==4)=false:=by simp;omega
   have H4:=AA h4
   clear h4
   go_wp2_with fail
   go_quiet (fail)
   go_wp2_with fail
   go_region
   all_goals
    go_end0
    exact .c6 hcl hop2.out H5.out (C9.out.trans (iG.out _).1) jh.out (fun h=>H4.out h.1) ⟨_,_,_,_,(iG.out _).2⟩
theorem Ab.then_ {m:AP} {f:Bv} {AJ:List Int} {p:Nat} {st:Cn} {y:Ad} {w w1 w':World} {lo g:Nat} {x:Fx} {e:Ending} (hb:Below lo w w1) (h:Ab m f AJ p st y w1 w' lo g x e):Ab m f AJ p st y w w' lo g x e:=⟨hb.trans h.1,h.2⟩
theorem iH {c:Nat} (h:M9 c=true):c=119∨c=108:=by unfold M9 at h;simpa using h
theorem vH: ∀r∈Dn,r.pops.size≤8∧r.pushes.size≤8:=by
 have h:Dn.all (fun r=>decide (r.pops.size≤8∧r.pushes.size≤8))=true:=by kernel_rfl
 exact fun r hr=>of_decide_eq_true (List.all_eq_true.1 h r hr)
structure IU (m:AP) (f:Bv) (AJ:List Int) (p:Nat) (st:Cn) (y:Ad) (lo hi g:Nat) (x:Fx) (w:World) (v:Value):Prop where
 inn:EG m f p st y lo hi g x w
 els:Tg w lo x AJ
 few:AJ.length≤1000000
 live:AZ y.op=false→st.dead=false
 shut:AZ y.op=true→st.dead=true→st.shape=(BU st).base++(BU st).s.r
 opn: ∀o∈st.op,o.o.toNat=4→ ∃q:Nat,o.pc=q∧q<AJ.length
 lab:(Rd.i64.sl false).R w 0 hi [v] y.l
 tab: ∀w',Below hi w w'→Lib.TabIs prog w' "strings.asciiSpace" .u8 Lib.asciiSpaceTab
section
variable {m:AP} {f:Bv} {AJ:List Int} {p:Nat} {st:Cn} {y:Ad} {lo hi g:Nat} {x:Fx} {w:World} {v:Value}
theorem IU.boxed (h:IU m f AJ p st y lo hi g x w v):Below lo w (w.alloc (.cells #[.int .u8 (y.op.toNat:Int),.int .i64 y.a,v] 122))∧IU m f AJ p st y lo hi g x (w.alloc (.cells #[.int .u8 (y.op.toNat:Int),.int .i64 y.a,v] 122)) v:=by
 obtain⟨hb,h1⟩:=h.inn.boxed v
 exact⟨hb,h1,h.els.below hb,h.few,h.live,h.shut,h.opn,Rd.below h.lab hb h.inn.hhi,fun w' hw'=>h.tab w' ((hb.mono h.inn.hhi).trans hw')⟩
theorem AD2 (h:IU m f AJ p st y lo hi g x w v) (hop:y.op.toNat=2∨y.op.toNat=3∨y.op.toNat=4):
 Calls prog 164 #[.pointer (some ⟨g,0,none⟩),.agg #[.int .u8 (y.op.toNat:Int),.int .i64 y.a,v]] w fun e w'=>Ab m f AJ p st y w w' lo g x e:=by
 by_cases hi0:FE y.a m.types.length=true
 ·obtain⟨k,hya,hkl⟩:=Ed hi0
  exact WW v y w h.inn hop k _ hya (List.getElem?_eq_getElem hkl) (h.live (by unfold AZ;exact decide_eq_false (by omega)))
 ·exact Ya v y w h.inn hop (by simpa using hi0)
theorem AD3 (h:IU m f AJ p st y lo hi g x w v) (hop:y.op.toNat=5∨y.op.toNat=6):
 Calls prog 165 #[.pointer (some ⟨g,0,none⟩),.agg #[.int .u8 (y.op.toNat:Int),.int .i64 y.a,v]] w fun e w'=>Ab m f AJ p st y w w' lo g x e:=by
 have hcl:AZ y.op=true:=by unfold AZ;exact decide_eq_true (by omega)
 exact vG v y w h.inn hcl h.els h.few (h.shut hcl) h.opn
theorem AD4 (h:IU m f AJ p st y lo hi g x w v) (hop:y.op.toNat=0∨y.op.toNat=7∨y.op.toNat=8∨y.op.toNat=9∨y.op.toNat=10):
 Calls prog 166 #[.pointer (some ⟨g,0,none⟩),.agg #[.int .u8 (y.op.toNat:Int),.int .i64 y.a,v]] w fun e w'=>Ab m f AJ p st y w w' lo g x e:=by
 have hd:=(h.live (by unfold AZ;exact decide_eq_false (by omega)))
 rcases hop with hop | hop | hop | hop | hop
 ·exact WX v y w h.inn hop hd
 ·exact WY v y w h.inn hop hd
 ·exact WZ v y w h.inn hop hd
 ·exact Wd v y w h.inn hop hd h.lab
 ·exact Uh v y w h.inn hop hd
theorem AD5 (h:IU m f AJ p st y lo hi g x w v) (hop:y.op.toNat=11∨y.op.toNat=12):
 Calls prog 167 #[.pointer (some ⟨g,0,none⟩),.agg #[.int .u8 (y.op.toNat:Int),.int .i64 y.a,v]] w fun e w'=>Ab m f AJ p st y w w' lo g x e:=by
 by_cases hi0:y.op.toNat=11∧FE y.a m.fns.length=true∨y.op.toNat=12∧FE y.a m.hosts.length=true
 ·exact TU v y w h.inn hi0 (h.live (by unfold AZ;exact decide_eq_false (by omega)))
 have hi1:y.op.toNat=11∧FE y.a m.fns.length=false∨y.op.toNat=12∧FE y.a m.hosts.length=false:=by
  rcases hop with hop | hop
  ·exact .inl ⟨hop,Bool.eq_false_iff.2 fun e=>hi0 (.inl ⟨hop,e⟩)⟩
  ·exact .inr ⟨hop,Bool.eq_false_iff.2 fun e=>hi0 (.inr ⟨hop,e⟩)⟩
 refine TV v y w h.inn hi1 ?_
 have hrow:(Aq y.op.toNat).map (·.plain)=some false:=by rcases hop with hop | hop<;>rw [hop]<;>kernel_rfl
 obtain⟨RJ,hr1,hr2⟩:=Option.map_eq_some_iff.1 hrow
 unfold BI CO
 rw [hr1]
 rcases hi1 with⟨hop,hi⟩ | ⟨hop,hi⟩<;>simp [hop,hr2,hi]
theorem AD6 (h:IU m f AJ p st y lo hi g x w v) (hop:y.op.toNat=16∨y.op.toNat=17):
 Calls prog 168 #[.pointer (some ⟨g,0,none⟩),.agg #[.int .u8 (y.op.toNat:Int),.int .i64 y.a,v]] w fun e w'=>Ab m f AJ p st y w w' lo g x e:=by
 have hd:=(h.live (by unfold AZ;exact decide_eq_false (by omega)))
 rcases hop with hop | hop
 ·by_cases ha:1≤(AX st).size
  ·exact Te v y w h.inn hop hd ha
  ·exact Uf v y w h.inn hop hd ha
 ·by_cases ha:3≤(AX st).size
  ·exact Tf v y w h.inn hop hd ha
  ·exact Ug v y w h.inn hop hd ha
theorem AD7 (h:IU m f AJ p st y lo hi g x w v) (hop:y.op.toNat=18∨y.op.toNat=19∨y.op.toNat=20∨y.op.toNat=21∨y.op.toNat=22):
 Calls prog 169 #[.pointer (some ⟨g,0,none⟩),.agg #[.int .u8 (y.op.toNat:Int),.int .i64 y.a,v]] w fun e w'=>Ab m f AJ p st y w w' lo g x e:=by
 have hd:=(h.live (by unfold AZ;exact decide_eq_false (by omega)))
 by_cases hlo:y.op.toNat=18∨y.op.toNat=19∨y.op.toNat=20
 ·by_cases hi0:FE y.a (CS m f).size=true
  ·exact TS v y w h.inn hlo hi0 hd
  ·exact WU v y w h.inn hlo (by simpa using hi0)
 have hgl:y.op.toNat=21∨y.op.toNat=22:=by omega
 by_cases hi0:FE y.a m.globs.length=true
 ·obtain⟨k,hya,hkl⟩:=Ed hi0
  obtain⟨gv,hgv⟩: ∃gv,m.globs[k]?=some gv:=⟨_,List.getElem?_eq_getElem hkl⟩
  have hl:=iH (h.inn.VL.glob gv (List.mem_of_getElem? hgv))
  exact Ta v y w h.inn hgl gv k hya hgv hd hl
 ·exact WV v y w h.inn hgl (by simpa using hi0)
theorem vI (h:IU m f AJ p st y lo hi g x w v) (hc:y.op.toNat=2∨y.op.toNat=3∨y.op.toNat=4∨y.op.toNat=5∨y.op.toNat=6∨y.op.toNat=0∨y.op.toNat=7∨y.op.toNat=8∨y.op.toNat=9∨y.op.toNat=10∨y.op.toNat=11∨y.op.toNat=12∨y.op.toNat=16∨y.op.toNat=17∨y.op.toNat=18∨y.op.toNat=19∨y.op.toNat=20∨y.op.toNat=21∨y.op.toNat=22):
 Calls prog 135 #[.pointer (some ⟨g,0,none⟩),.agg #[.int .u8 (y.op.toNat:Int),.int .i64 y.a,v]] w fun e w'=>Ab m f AJ p st y w w' lo g x e:=by
 obtain⟨hb,h1⟩:=h.boxed
 have b2:=(CW w y v h.inn.Fq).2
 have HB:=AA hb
 have hx0:=b2.cell 0
 have hx1:=b2.cell 1
 have hx2:=b2.cell 2
 rcases hc with hc | hc | hc | hc | hc | hc | hc | hc | hc | hc | hc | hc | hc | hc | hc | hc | hc | hc | hc
 all_goals
  first
  | have HC:=AA (AD2 h1 (by omega))
  | have HC:=AA (AD3 h1 (by omega))
  | have HC:=AA (AD4 h1 (by omega))
  | have HC:=AA (AD5 h1 (by omega))
  | have HC:=AA (AD6 h1 (by omega))
  | have HC:=AA (AD7 h1 (by omega))
  replace hx0:=hx0.trans (congrArg (fun n:Nat=>some (Value.int .u8 (n:Int))) hc)
  rw [hc] at HC
  rw [hc] at hb HB hx0 hx1 hx2⊢
  simp only [Int.cast_ofNat_Int,List.getElem_cons_zero,List.getElem_cons_succ] at hx0 hx1 hx2
  clear h h1 b2 hc hb
  go_enter func135,ntmps135
  go_upto_region 1 with fail
  generalize w.alloc _=w1 at*
  go_wp2_with fail
  refine HC.out.mono ?_
  rintro e w2 hh
  have HH:=AA (Ab.then_ HB.out hh)
  have h2:=hh.2
  clear hh
  cases hr:D_ m f AJ p st y with
  | inl err=>
   rw [hr] at h2
   obtain⟨rfl,_⟩:=h2
   clear hr
   go_wp2_with fail
   exact⟨rfl,HH.out⟩
  | inr st'=>
   rw [hr] at h2
   obtain⟨rfl,_⟩:=h2
   clear hr
   go_wp2_with fail
   go_end0
   exact HH.out
theorem vJ (h:IU m f AJ p st y lo hi g x w v) (hown:ownB y.op.toNat=false) (r:ZL) (hrr:Aq y.op.toNat=some r):
 Calls prog 135 #[.pointer (some ⟨g,0,none⟩),.agg #[.int .u8 (y.op.toNat:Int),.int .i64 y.a,v]] w fun e w'=>Ab m f AJ p st y w w' lo g x e:=by
 obtain⟨hb,h1⟩:=h.boxed
 have b2:=(CW w y v h.inn.Fq).2
 have HB:=AA hb;have HR:=AA h1.inn
 have ho:=of_decide_eq_false hown
 have hm:=Jf hrr
 have hpl:r.plain=true:=by rw [RV r hm.1,hm.2,hown];rfl
 obtain⟨hp8,hq8⟩:=vH r hm.1
 have hcl:AZ y.op=false:=by unfold AZ;exact decide_eq_false (by omega)
 have HE:Hid (Eff m f st y r.pops r.pushes):=AA (by
  refine⟨hcl,?_,?_,?_,h.live hcl⟩
  ·unfold Aw;exact decide_eq_false (by omega)
  ·unfold DF;exact decide_eq_false (by omega)
  ·unfold BI;rw [hrr];simp [hpl])
 obtain⟨o,rr,hop1,hrl⟩:=h.inn.ne
 have hop2:=AA hop1
 have htop:o.base.size≤st.shape.size:=by have:=h.inn.top;unfold BU at this;rw [hop1] at this;exact this
 have hsz:=h.inn.size
 have hx0:=b2.q 0 rfl
 have hof:=Zz y.op.toNat _ (UInt8.toNat_lt y.op) (h.tab _ (hb.mono h.inn.hhi))
 unfold En at hof
 rw [hrr] at hof
 have KR:=AA hof
 obtain⟨vS,vF,vO,bs,hk⟩:=h1.inn.wk
 have HK:=AA hk
 have g2:((y.op.toNat:Int)==2)=false:=by simp;omega
 have g3:((y.op.toNat:Int)==3)=false:=by simp;omega
 have g4:((y.op.toNat:Int)==4)=false:=by simp;omega
 have g5:((y.op.toNat:Int)==5)=false:=by simp;omega
 have g6:((y.op.toNat:Int)==6)=false:=by simp;omega
 have g0:((y.op.toNat:Int)==0)=false:=by simp;omega
 have g7:((y.op.toNat:Int)==7)=false:=by simp;omega
 have g8:((y.op.toNat:Int)==8)=false:=by simp;omega
 have g9:((y.op.toNat:Int)==9)=false:=by simp;omega
 have g10:((y.op.toNat:Int)==10)=false:=by simp;omega
 have g11:((y.op.toNat:Int)==11)=false:=by simp;omega
 have g12:((y.op.toNat:Int)==12)=false:=by simp;omega
 have g16:((y.op.toNat:Int)==16)=false:=by simp;omega
 have g17:((y.op.toNat:Int)==17)=false:=by simp;omega
 have g18:((y.op.toNat:Int)==18)=false:=by simp;omega
 have g19:((y.op.toNat:Int)==19)=false:=by simp;omega
 have g20:((y.op.toNat:Int)==20)=false:=by simp;omega
 have g21:((y.op.toNat:Int)==21)=false:=by simp;omega
 have g22:((y.op.toNat:Int)==22)=false:=by simp;omega
 clear h h1 b2 hb ho hm hpl hof hk hop1 hrr hown
 go_enter func135,ntmps135
 go_upto_region 1 with fail
 generalize w.alloc (.cells #[.int .u8 (y.op.toNat:Int),.int .i64 y.a,v] 122)=w1 at*
 go_wp2_with fail
 refine KR.out.mono ?_
 rintro e w2 ⟨hb2,rfl⟩
 have Iu:=AA (HK.out.below hb2)
 have HB2:=AA (HB.out.trans (hb2.mono HR.out.Fq))
 have hl2:lo≤w2.heap.size:=Nat.le_trans HR.out.Fq hb2.size
 clear hb2
 unfold opC
 go_upto_region 3 with fail
 generalize hw3:w2.alloc (.cells #[.int .u8 (r.op:Int),.string r.word,.int .i8 r.takes,.string r.pops,.string r.pushes,.bool r.plain] 236)=w3
 have hb3:Below w2.heap.size w2 w3:=by rw [←hw3];exact(Below.refl _ _).alloc (Nat.le_refl _) _
 have ZF:AQ w3 w2.heap.size 236 [.int .u8 (r.op:Int),.string r.word,.int .i8 r.takes,.string r.pops,.string r.pushes,.bool r.plain]:=by rw [←hw3];exact AQ.new w2 236 _
 have hr3:=ZF.q 3 rfl
 have hr4:=ZF.q 4 rfl
 have Lp:=AA (Iu.out.below hb3)
 have HB3:=AA (HB2.out.trans (hb3.mono hl2))
 have hl3:lo≤w3.heap.size:=Nat.le_trans hl2 hb3.size
 have hwg:w2.heap.size≠g:=by have:=Iu.out.blk.lt;omega
 have hwl:w2.heap.size<w3.heap.size:=ZF.lt
 clear hw3 hb3 ZF
 go_wp2_with fail
 refine(S9 r.pops _ Lp.out hop2.out (by omega) htop (by omega) (by omega)).mono ?_
 rintro e w4 ⟨Le,⟨h0,rfl,hk4⟩ | ⟨h0,rfl,hc4⟩⟩
 all_goals have hb4:=BZ Le Lp.out.low hl3
 case inr=>
  have H0:=AA h0;clear h0
  go_wp2_with fail
  exact⟨rfl,.YX HE.out (HB3.out.trans hb4) H0.out hc4⟩
 have H0:=AA h0;clear h0
 have C9:=AA (HB3.out.trans hb4)
 have hr44:w4.cell? ⟨w2.heap.size,4,none⟩=some (.string r.pushes):=(JL Le hwl hwg).trans hr4
 have HU:=AA hk4
 have hl4:lo≤w4.heap.size:=Nat.le_trans hl3 hb4.size
 clear hk4 Le hb4
 go_wp2_with fail
 refine(Qz (st.shape.extract 0 (st.shape.size-r.pops.size)) r.pushes (st.shape.size-r.pops.size) (by rw [ByteArray.size_extract];omega) _ HU.out (by simp only [ByteArray.size_extract];omega) (by omega)).mono ?_
 rintro e w5 ⟨ni,⟨h1,rfl,hk5⟩ | ⟨h1,rfl,xq⟩⟩
 all_goals have hb5:=BZ ni Lp.out.low hl4
 ·go_wp2_with fail
  go_end0
  exact .done HE.out (C9.out.trans hb5) H0.out h1 ⟨_,_,_,_,hk5⟩
 ·have H1:=AA h1;clear h1
  go_wp2_with fail
  exact⟨rfl,.aI HE.out (C9.out.trans hb5) H0.out H1.out xq⟩
theorem AAg (h:IU m f AJ p st y lo hi g x w v):
 Calls prog 135 #[.pointer (some ⟨g,0,none⟩),.agg #[.int .u8 (y.op.toNat:Int),.int .i64 y.a,v]] w fun e w'=>Ab m f AJ p st y w w' lo g x e:=by
 by_cases hown:ownB y.op.toNat=true
 ·have ho:=of_decide_eq_true hown
  have hc:y.op.toNat=2∨y.op.toNat=3∨y.op.toNat=4∨y.op.toNat=5∨y.op.toNat=6∨y.op.toNat=0∨y.op.toNat=7∨y.op.toNat=8∨y.op.toNat=9∨y.op.toNat=10∨y.op.toNat=11∨y.op.toNat=12∨y.op.toNat=16∨y.op.toNat=17∨y.op.toNat=18∨y.op.toNat=19∨y.op.toNat=20∨y.op.toNat=21∨y.op.toNat=22:=by omega
  exact vI h hc
 ·have hi:=h.inn.ins
  unfold Ar at hi
  cases hr:Aq y.op.toNat with
  | none=>rw [hr] at hi;cases hi
  | some r=>exact vJ h (by simpa using hown) r hr
end
theorem iI (pb pe pa:Addr) (w:World):
 CallsD prog 132 #[.pointer (some pb),.pointer (some pe),.pointer (some pa)] .returning w fun e u' w'=>e= .returned (.tuple #[])∧u'= .returning∧w'=w:=by
 refine callsD_of_wpS func132 rfl fun c₀ cs hu=> ?_
 apply wpS_seq
 apply wpS_region
 simp [wpOpsS,go_sem,recoverD,hu,ntmps132,Exit.thenS,Array.replicate]
 have Hu:=AA hu;clear hu
 refine wpS_of_wp ?_
 go_wp2_with fail
 simp [bodyPostS,results,results132,←Hu.out]
theorem Wh (v:Value) (W:World):(Instr.typeAssert (.iface 206 v) 20 206 true).run prog W= .ok (.tuple #[v,.bool true]) W:=by kernel_rfl
theorem OV (err:Int) (gb ge ga g:Nat) (e0 a0:Int) (x:Fx) (pc:Int) (w:World) (hb:AQ w gb 169 [.pointer (some ⟨g,0,none⟩)]) (he:AQ w ge 41 [.int .i64 e0]) (ha:AQ w ga 3 [.int .i64 a0]) (hne:ge≠ga) (hp:Nn w g x pc):
 CallsD prog 132 #[.pointer (some ⟨gb,0,none⟩),.pointer (some ⟨ge,0,none⟩),.pointer (some ⟨ga,0,none⟩)] (.panicking (D6 err)) w fun e u' w'=>
  e= .returned (.tuple #[])∧u'= .panicking [{v:= .iface 206 (.agg #[.int .i64 err]),recovered:=true}]∧Keep (fun k=>k≠ge∧k≠ga) w w'∧AQ w' ge 41 [.int .i64 err]∧AQ w' ga 3 [.int .i64 pc]:=by
 refine callsD_of_wpS func132 rfl fun c₀ cs hu=> ?_
 apply wpS_seq
 apply wpS_region
 simp [wpOpsS,go_sem,recoverD,hu,ntmps132,Exit.thenS,D6,Array.replicate]
 have Hu:=AA hu;clear hu
 refine wpS_of_wp ?_
 have He:=AA he;have Ha:=AA ha
 have hge:=he.lt
 have hga:=ha.lt
 have hgb:=hb.lt
 have hg:=hp.2.1
 have hc0:=hb.q 0 rfl
 have hc1:=he.q 0 rfl
 have hc2:=ha.q 0 rfl
 have hc3:w.cell? ⟨g,20,none⟩=some (.int .i64 pc):=hp.1
 have hf1:=he.frozen 0
 have hf2:=ha.frozen 0
 clear he ha hb hp
 have has:=Wh (.agg #[.int .i64 err])
 go_wp2_with fail
 go_region
 all_goals go_wp2_with fail
 have hk:Keep (fun k=>k≠ge∧k≠ga) w ((((w.setCell ⟨ge,0,none⟩ (.int .i64 err)).setCell ⟨ga,0,none⟩ (.int .i64 pc)).alloc (.cells #[.int .i64 err] 206)).drew):=
  ((((Keep.refl _ w).setCell (p:=⟨ge,0,none⟩) (by simp) _).setCell (p:=⟨ga,0,none⟩) (by simp) _).alloc _).drew
 have hb1:AQ ((((w.setCell ⟨ge,0,none⟩ (.int .i64 err)).setCell ⟨ga,0,none⟩ (.int .i64 pc)).alloc (.cells #[.int .i64 err] 206)).drew) ge 41 [.int .i64 err]:=
  (((He.out.set 0 (.int .i64 err)).far (p:=⟨ga,0,none⟩) hne _).alloc _).drewN 1
 have hb2:AQ ((((w.setCell ⟨ge,0,none⟩ (.int .i64 err)).setCell ⟨ga,0,none⟩ (.int .i64 pc)).alloc (.cells #[.int .i64 err] 206)).drew) ga 3 [.int .i64 pc]:=
  (((Ha.out.far (p:=⟨ge,0,none⟩) (Ne.symm hne) _).set 0 (.int .i64 pc)).alloc _).drewN 1
 refine⟨rfl,_,rfl,.tuple #[],?_,rfl,rfl,hk,hb1,hb2⟩
 simp [results,results132]
end Go.Proofs.YtlagonfamllgjaaGreatDoor
