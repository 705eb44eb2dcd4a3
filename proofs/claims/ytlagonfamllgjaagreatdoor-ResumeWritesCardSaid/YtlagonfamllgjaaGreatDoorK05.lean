/- Part 5 of the proof: LabP SnaP SnaQ TypesA EachL EachA TypesB Ref14 -/
import Derived.Deep.QuietTactic
import Derived.Test.YtlagonfamllgjaaGreatDoorK04
namespace Go.Proofs.YtlagonfamllgjaaGreatDoor
set_option linter.unusedVariables false
set_option linter.unusedSimpArgs false
set_option maxRecDepth 100000
set_option maxHeartbeats 4000000
open Go.RowKit Tryz
theorem Bh {b:Bool} {e:Int} (he:e≠0) (h:Ae b e=0):b=true:=by
 cases b with
 | true=>rfl
 | false=>exact absurd h he
structure XV (m:AP) (f:Bv):Prop where
 t0:0≤f.t
 t1:f.t<m.types.length
 loc:f.loc.size+(B_ m f.t).p.size≤64
 few:f.code.length≤2048
 ins: ∀x∈f.code,Ar x=0
structure Kc (m:AP):Prop where
 types: ∀t∈m.types,t.p.size≤8∧t.r.size≤8
 fns: ∀f∈m.fns,XV m f
 nf:m.fns.length≤128
 nt:m.types.length≤64
 nh:m.hosts.length≤32
 ng:m.globs.length≤64
 host: ∀t∈m.hosts,0≤t∧t<m.types.length
 f0:0≤m.first
 f1:m.first≤m.most
 f2:m.most≤64
 glob: ∀g∈m.globs,M9 g.l.toNat=true
theorem Vi {m:AP} (h:Gj m=0):Kc m:=by
 obtain⟨h,_⟩:=AV h
 obtain⟨hh,hb⟩:=AV h
 obtain⟨ht,hh⟩:=AV hh
 obtain⟨ho,hh⟩:=AV hh
 obtain⟨hg,hp⟩:=AV hh
 obtain⟨hf,_⟩:=AV hb
 obtain⟨t1,t2⟩:=AV ht
 obtain⟨o1,o2⟩:=AV ho
 obtain⟨g1,g2⟩:=AV hg
 obtain⟨f1,f2⟩:=AV hf
 have hp:=of_decide_eq_true (Bh (by decide) hp)
 refine⟨fun t hm=> ?_,fun f hm=> ?_,of_decide_eq_true (Bh (by decide) f1),of_decide_eq_true (Bh (by decide) t1),of_decide_eq_true (Bh (by decide) o1),of_decide_eq_true (Bh (by decide) g1),fun t hm=> ?_,hp.1,hp.2.2.1,hp.2.2.2,fun g hm=> ?_⟩
 ·obtain⟨k,hk⟩:=List.getElem?_of_mem hm
  have:=BQ t2 k (List.getElem?_eq_some_iff.1 hk).1
  unfold ZA at this
  rw [hk] at this
  obtain⟨a,b⟩:=AV this
  obtain⟨b,_⟩:=AV b
  have a:=of_decide_eq_true (Bh (by decide) (AV a).1)
  have b:=of_decide_eq_true (Bh (by decide) (AV b).1)
  omega
 ·obtain⟨k,hk⟩:=List.getElem?_of_mem hm
  have:=BQ f2 k (List.getElem?_eq_some_iff.1 hk).1
  unfold UL at this
  rw [hk] at this
  obtain⟨a,b⟩:=AV this
  obtain⟨b,c⟩:=AV b
  obtain⟨c,d⟩:=AV c
  obtain⟨d,e⟩:=AV d
  have a:=of_decide_eq_true (Bh (by decide) a)
  have b:=of_decide_eq_true (Bh (by decide) (AV b).1)
  have c:=of_decide_eq_true (Bh (by decide) c)
  refine⟨a.1,a.2,?_,c,fun x hx=> ?_⟩
  ·have:KH m f.t=(B_ m f.t).p.size:=by
    unfold KH B_
    cases m.types[f.t.toNat]?<;>rfl
   omega
  ·obtain⟨j,hj⟩:=List.getElem?_of_mem hx
   have:=BQ e j (List.getElem?_eq_some_iff.1 hj).1
   unfold KX at this
   rw [hj] at this
   exact this
 ·obtain⟨k,hk⟩:=List.getElem?_of_mem hm
  have:=BQ o2 k (List.getElem?_eq_some_iff.1 hk).1
  unfold IE at this
  rw [hk] at this
  exact of_decide_eq_true (Bh (by decide) this)
 ·obtain⟨k,hk⟩:=List.getElem?_of_mem hm
  have:=BQ g2 k (List.getElem?_eq_some_iff.1 hk).1
  unfold IG at this
  rw [hk] at this
  exact Bh (by decide) (AV this).1
theorem IL {m:AP} (h:Kc m) (a:Int):(B_ m a).p.size≤8∧(B_ m a).r.size≤8:=by
 unfold B_
 cases hg:m.types[a.toNat]? with
 | none=>simp [bP,Dm]
 | some t=>exact h.types t (List.mem_of_getElem? hg)
structure Lock (m:AP) (f:Bv) (c:Ai) (pc:Nat) (sc:Ai) (st:Cn):Prop where
 go:IC f.code (f.code.length-pc) sc= .inr c
 ok:MJ f.code.length pc sc
 chain:Chain sc.A_ sc.op
 val:Qh m f sc pc st
theorem LV {m:AP} {f:Bv} {c:Ai} (h:ctl f.code= .inr c):Lock m f c 0 (Cw f.code.length) (CY m f):=
 ⟨by rw [Nat.sub_zero];exact h,J2 _,trivial,XU m f _⟩
theorem Lock.step {m:AP} {f:Bv} {c:Ai} {pc:Nat} {sc:Ai} {st:Cn} {x:Ad} (h:Lock m f c pc sc st) (hx:f.code[pc]?=some x):
 ∃sc',Ah f.code sc pc= .inr sc'∧(Kc m→Ar x=0→ ∀AJ st',EF m f AJ pc st x= .inr st'→Lock m f c (pc+1) sc' st'):=by
 have hlt:=(List.getElem?_eq_some_iff.1 hx).1
 cases hs:Ah f.code sc pc with
 | inl e=>have:=h.go;rw [LA hlt hs] at this;cases this
 | inr sc'=>
  refine⟨sc',rfl,fun hm hi AJ st' hv=>⟨?_,K_ h.ok hs,ZT h.ok hx hs h.chain,ZU h.val hx hs ?_ hm.types hv⟩⟩
  ·rw [←JV hlt hs];exact h.go
  ·unfold Ar at hi
   cases hr:Aq x.op.toNat with
   | none=>rw [hr] at hi;cases hi
   | some r=>rfl
theorem Lock.owner {m:AP} {f:Bv} {c:Ai} {pc:Nat} {sc:Ai} {st:Cn} {x:Ad} (h:Lock m f c pc sc st) (hx:f.code[pc]?=some x):c.A_[pc]?=some (EL sc.op):=by
 have hlt:=(List.getElem?_eq_some_iff.1 hx).1
 obtain⟨sc',hs,_⟩:=h.step hx
 have hgo:=h.go
 rw [JV hlt hs] at hgo
 rw [LU _ (by omega) hgo pc (by omega),Je hs,List.getElem?_set_self (by rw [h.ok.A_];exact hlt)]
theorem Lock.zW {m:AP} {f:Bv} {c:Ai} {pc:Nat} {sc:Ai} {st:Cn} (h:Lock m f c pc sc st):Chain c.A_ sc.op:=
 h.chain.keep fun p hp=>by
  have h1:=h.ok.low p hp
  have h2:=h.ok.le
  exact LU _ (by omega) h.go p (by omega)
theorem Lock.ND {m:AP} {f:Bv} {c:Ai} {pc:Nat} {sc:Ai} {st:Cn} {x:Ad} (h:Lock m f c pc sc st) (hx:f.code[pc]?=some x):sc.done=false:=by
 obtain⟨sc',hs,_⟩:=h.step hx
 exact(OA hx hs).1
theorem Vj {m:AP} {f:Bv} {c:Ai} (hm:Kc m) (hf:XV m f) {AJ:List Int}: ∀(n:Nat) (sc:Ai) (st st':Cn),n≤f.code.length→Lock m f c (f.code.length-n) sc st→P7 m f AJ n st= .inr st'→
 (∀s∈st'.shapes,s.size≤256)∧st'.shapes.length=f.code.length∧st'.floors.length=f.code.length∧st'.high≤256∧(∀v∈st'.floors,-1≤v∧v≤256)
 | 0,sc,st,st',hn,hl,h=>by
  injection h with h;subst h
  have:=hl.val
  exact⟨this.bnd,by rw [this.shapes];omega,by rw [this.floors];omega,this.high,this.fl⟩
 | n+1,sc,st,st',hn,hl,h=>by
  have hlt:f.code.length-(n+1)<f.code.length:=by omega
  have hx:f.code[f.code.length-(n+1)]?=some f.code[f.code.length-(n+1)]:=List.getElem?_eq_getElem hlt
  unfold P7 at h
  rw [hx] at h
  dsimp only at h
  cases hs:EF m f AJ (f.code.length-(n+1)) st f.code[f.code.length-(n+1)] with
  | inl e=>rw [hs] at h;cases h
  | inr s1=>
   rw [hs] at h
   dsimp only at h
   obtain⟨sc',_,hk⟩:=hl.step hx
   have hl':=hk hm (hf.ins _ (List.getElem_mem hlt)) AJ s1 hs
   rw [show f.code.length-(n+1)+1=f.code.length-n from by omega] at hl'
   exact Vj hm hf n sc' s1 st' (by omega) hl' h
theorem AAF {m:AP} {f:Bv} {tb:Dz} (hm:Kc m) (hf:XV m f) (h:GY m f= .inr tb):(∀s∈tb.shapes,s.size≤256)∧tb.shapes.length=f.code.length∧tb.floors.length=f.code.length∧tb.high≤256:=by
 unfold GY at h
 cases hc:ctl f.code with
 | inl e=>rw [hc] at h;cases h
 | inr c=>
  rw [hc] at h
  dsimp only at h
  cases hg:P7 m f c.AJ f.code.length (CY m f)with
  | inl e=>rw [hg] at h;cases h
  | inr st=>
   rw [hg] at h
   injection h with h;subst h
   obtain⟨a,b,d,e,_⟩:=Vj hm hf f.code.length (Cw f.code.length) _ _ (Nat.le_refl _) (by rw [Nat.sub_self];exact LV hc) hg
   exact⟨a,b,d,by show(st.high:Int)≤256;omega⟩
def XW (p:List UInt8):Bool:=p.any (fun c=>c !=0)
def ZV (l:List (List UInt8)) (i:Nat):Bool:=match l[i]? with
 | none=>false
 | some p=>XW p
def Bu (l:List (List UInt8)) (k:Nat):List Nat:=(List.range k).filter (ZV l)
def BS (l:List Nat):List UInt8:=enc l.length++l.flatMap enc
def OD (l:List (List UInt8)) (i:Nat):List UInt8:=enc i++(l[i]?.getD [])
def Oz (l:List (List UInt8)):List UInt8:=enc l.length++(enc (Bu l l.length).length++(Bu l l.length).flatMap (OD l))
def NG (f:Jy):List UInt8:=enc f.f.toNat++(enc f.pc.toNat++(BS f.loc++BS f.st))
def G5:List UInt8:= [70,83,78,80,1]
def CP (s:FH):List UInt8:=
 G5++([UInt8.ofNat s.end_.toNat,UInt8.ofNat s.trap.toNat]++(enc s.used.toNat++(enc s.Bj.toNat++(BS s.res++(BS s.globs++(Oz s.pages++(enc s.frames.length++s.frames.flatMap NG)))))))
theorem NH (l:List (List UInt8)) (k:Nat):Bu l (k+1)=if ZV l k then Bu l k++ [k] else Bu l k:=by
 unfold Bu
 rw [List.range_succ,List.filter_append]
 cases h:ZV l k<;>simp [h]
theorem MQ (l:List (List UInt8)) (k:Nat):(Bu l k).length≤k:=by
 unfold Bu
 exact Nat.le_trans (List.length_filter_le _ _) (by simp)
theorem RY {l:List (List UInt8)} {k i:Nat} (h:i∈Bu l k):i<k:=by
 unfold Bu at h
 simpa using (List.mem_filter.1 h).1
structure R7 (s:FH):Prop where
 e0:1≤s.end_
 e1:s.end_≤3
 t0:0≤s.trap
 t1:s.trap≤6
 u0:0≤s.used
 u1:s.used≤4611686018427387904
 r0:0≤s.Bj
 res:s.res.length≤8
 globs:s.globs.length≤64
 pages:s.pages.length≤64
 page: ∀p∈s.pages,p.length=4096
 frames:s.frames.length≤64
 f0: ∀f∈s.frames,0≤f.f∧f.f<128
 p0: ∀f∈s.frames,0≤f.pc∧f.pc<2048
 loc: ∀f∈s.frames,f.loc.length≤64
 st: ∀f∈s.frames,f.st.length≤256
abbrev Ju (α:Type):=(Int×Int)⊕(α×Nat)
def FL {α β:Type} (x:Ju α) (f:Nat→Ju β):Ju β:=match x with
 | .inl e=> .inl e
 | .inr (_,p)=>f p
def EI {α:Type} (d:α) (x:Ju α):α:=match x with
 | .inl _=>d
 | .inr (a,_)=>a
def posR {α:Type} (x:Ju α):(Int×Int)⊕Nat:=match x with
 | .inl e=> .inl e
 | .inr (_,p)=> .inr p
def DN {β:Type} (st:(Int×Int)⊕Nat) (f:Nat→Ju β):Ju β:=match st with
 | .inl e=> .inl e
 | .inr p=>f p
theorem FZ {α β:Type} (x:Ju α) (f:Nat→Ju β):DN (posR x) f=FL x f:=by
 cases x<;>rfl
def DX (l:List UInt8) (most:Nat) (great:Int) (p:Nat):Ju Nat:=
 if(KC l p).2.2≠0 then .inl ((KC l p).2.2,p) else if most<(KC l p).1 then .inl (great,p) else .inr ((KC l p).1,(KC l p).2.1)
def L6 (l:List UInt8) (least most:Nat) (p:Nat):Ju Nat:=match l[p]? with
 | none=> .inl (10,p)
 | some c=>if c.toNat<least∨most<c.toNat then .inl (17,p) else .inr (c.toNat,p+1)
def P_ (l:List UInt8):Nat→List Nat→Nat→Ju (List Nat)
 | 0,acc,p=> .inr (acc,p)
 | n+1,acc,p=>match DX l 18446744073709551615 17 p with
  | .inl e=> .inl e
  | .inr (v,q)=>P_ l n (acc++ [v]) q
def II (l:List UInt8) (most:Nat) (p:Nat):Ju (List Nat):=match DX l most 20 p with
 | .inl e=> .inl e
 | .inr (n,q)=>P_ l n [] q
def ACv (l:List UInt8) (n:Nat) (pg:List (List UInt8)) (bh p:Nat):Ju (List (List UInt8)×Nat):=match DX l 18446744073709551615 17 p with
 | .inl e=> .inl e
 | .inr (i,q)=>
  if n≤i then .inl (17,p) else if i<bh then .inl (18,p) else if l.length<q+4096 then .inl (10,q) else
  if XW ((l.drop q).take 4096)=false then .inl (12,q) else .inr ((pg.set i ((l.drop q).take 4096),i+1),q+4096)
def bQ (l:List UInt8) (n:Nat):Nat→List (List UInt8)→Nat→Nat→Ju (List (List UInt8))
 | 0,pg,bh,p=> .inr (pg,p)
 | k+1,pg,bh,p=>match ACv l n pg bh p with
  | .inl e=> .inl e
  | .inr (x,q)=>bQ l n k x.1 x.2 q
def CB:List UInt8:=List.replicate 4096 0
def Iq (l:List UInt8) (p:Nat):Ju (List (List UInt8)):=match DX l 64 20 p with
 | .inl e=> .inl e
 | .inr (n,q)=>match DX l n 20 q with
  | .inl e=> .inl e
  | .inr (k,r)=>bQ l n k (List.replicate n CB) 0 r
def fr1 (l:List UInt8) (p:Nat):Ju Nat:=DX l 127 17 p
def fr2 (l:List UInt8) (p:Nat):Ju Nat:=FL (fr1 l p) (DX l 2047 17)
def zX (l:List UInt8) (p:Nat):Ju (List Nat):=FL (fr2 l p) (II l 64)
def fr4 (l:List UInt8) (p:Nat):Ju (List Nat):=FL (zX l p) (II l 256)
def OE (l:List UInt8) (p:Nat):Ju Jy:=match fr4 l p with
 | .inl e=> .inl e
 | .inr (st,q)=> .inr (⟨(EI 0 (fr1 l p):Nat),(EI 0 (fr2 l p):Nat),EI [] (zX l p),st⟩,q)
def Jg (l:List UInt8):Nat→List Jy→Nat→Ju (List Jy)
 | 0,acc,p=> .inr (acc,p)
 | n+1,acc,p=>match OE l p with
  | .inl e=> .inl e
  | .inr (f,q)=>Jg l n (acc++ [f]) q
def O1 (l:List UInt8) (p:Nat):Ju (List Jy):=match DX l 64 20 p with
 | .inl e=> .inl e
 | .inr (n,q)=>Jg l n [] q
def qh (l:List UInt8):Ju Nat:=L6 l 1 3 5
def kM (l:List UInt8):Ju Nat:=FL (qh l) (L6 l 0 6)
def jT (l:List UInt8):Ju Nat:=FL (kM l) (DX l 4611686018427387904 17)
def kN (l:List UInt8):Ju Nat:=FL (jT l) (DX l 9223372036854775807 17)
def kP (l:List UInt8):Ju (List Nat):=FL (kN l) (II l 8)
def bR (l:List UInt8):Ju (List Nat):=FL (kP l) (II l 64)
def T9 (l:List UInt8):Ju (List (List UInt8)):=FL (bR l) (Iq l)
def jU (l:List UInt8):Ju (List Jy):=FL (T9 l) (O1 l)
def R8 (l:List UInt8):FH:=⟨EI [] (jU l),EI [] (bR l),EI [] (T9 l),(EI 0 (kN l):Nat),(EI 0 (qh l):Nat),EI [] (kP l),(EI 0 (kM l):Nat),(EI 0 (jT l):Nat)⟩
def I6 (l:List UInt8):(Int×Int)⊕FH:=
 if 524288<l.length then .inl (13,0) else
 if l.take 5≠G5 then .inl (14,0) else
 match jU l with
 | .inl e=> .inl e
 | .inr (_,p)=>if p≠l.length then .inl (19,(p:Int)) else .inr (R8 l)
theorem XY {code:List Ad} {st:Ai} {pc:Nat} {e:Int×Int} (h:Ah code st pc= .inl e):e.1≠0:=by
 unfold Ah at h
 split at h
 ·injection h with h;subst h;simp
 split at h
 ·injection h with h;subst h;simp
 split at h
 ·split at h
  ·injection h with h;subst h;simp
  ·cases h
 split at h
 ·split at h
  ·injection h with h;subst h;simp
  split at h
  ·cases h
  ·injection h with h;subst h;simp
 split at h
 ·split at h<;>cases h
 ·cases h
theorem QA {code:List Ad}: ∀(n:Nat) {st:Ai} {e:Int×Int},IC code n st= .inl e→e.1≠0
 | 0,st,e,h=>by
  unfold IC at h
  split at h
  ·cases h
  ·injection h with h;subst h;simp
 | n+1,st,e,h=>by
  unfold IC at h
  cases hs:Ah code st (code.length-(n+1))with
  | inl e'=>rw [hs] at h;injection h with h;subst h;exact XY hs
  | inr st'=>rw [hs] at h;exact QA n h
theorem Uz {m:AP} {f:Bv} {AJ:List Int} {pc:Nat} {st:Cn} {x:Ad} {e:Int} (h:EF m f AJ pc st x= .inl e):e≠0:=by
 unfold EF at h
 cases hb:Cr st x with
 | inl e'=>
  rw [hb] at h
  injection h with h;subst h
  unfold Cr at hb
  split at hb
  ·split at hb
   ·injection hb with hb;subst hb;decide
   split at hb
   ·injection hb with hb;subst hb;decide
   ·cases hb
  ·cases hb
 | inr st1=>
  rw [hb] at h
  dsimp only at h
  unfold D_ at h
  split at h
  ·split at h
   ·injection h with h;subst h;simp
   split at h
   ·cases h
   split at h
   ·injection h with h;subst h;simp
   ·cases h
  ·split at h
   ·rename_i he
    injection h with h;subst h;exact he
   split at h
   ·injection h with h;subst h;simp
   split at h
   ·injection h with h;subst h;simp
   ·cases h
theorem Vk {m:AP} {f:Bv} {AJ:List Int}: ∀(n:Nat) {st:Cn} {e:Int×Int},P7 m f AJ n st= .inl e→e.1≠0
 | 0,st,e,h=>by cases h
 | n+1,st,e,h=>by
  unfold P7 at h
  split at h
  ·cases h
  ·rename_i x hx
   cases hs:EF m f AJ (f.code.length-(n+1)) st x with
   | inl e'=>rw [hs] at h;injection h with h;subst h;exact Uz hs
   | inr st'=>rw [hs] at h;exact Vk n h
theorem R9 {m:AP} {f:Bv} {e:Int×Int} (h:GY m f= .inl e):e.1≠0:=by
 unfold GY at h
 cases hc:ctl f.code with
 | inl e'=>rw [hc] at h;injection h with h;subst h;exact QA _ hc
 | inr c=>
  rw [hc] at h
  dsimp only at h
  cases hg:P7 m f c.AJ f.code.length (CY m f)with
  | inl e'=>rw [hg] at h;injection h with h;subst h;exact Vk _ hg
  | inr st=>rw [hg] at h;cases h
theorem R_ {m:AP}: ∀(n:Nat) {l:List Dz} {e:Int×Int×Int},Jd m n l= .inl e→e.1≠0
 | 0,l,e,h=>by cases h
 | n+1,l,e,h=>by
  unfold Jd at h
  split at h
  ·cases h
  ·rename_i f hf
   cases hs:GY m f with
   | inl e'=>rw [hs] at h;injection h with h;subst h;exact R9 hs
   | inr t=>rw [hs] at h;exact R_ n h
theorem MR {m:AP} {e:Int×Int×Int} (h:F7 m= .inl e):e.1≠0:=by
 unfold F7 at h
 split at h
 ·rename_i h0;injection h with h;subst h;exact h0
 ·exact R_ _ h
structure TbOk (m:AP) (f:Bv) (tb:Dz):Prop where
 n:tb.shapes.length=f.code.length
 low: ∀s∈tb.shapes,s.size≤256
 call: ∀(p:Nat) (x:Ad) (sh:ByteArray),f.code[p]?=some x→tb.shapes[p]?=some sh→x.op.toNat=11→(B_ m (RU m x.a).t).p.size≤sh.size
theorem Ke {m:AP} {t:List Dz} (h:F7 m= .inr t):Kc m∧t.length=m.fns.length∧ ∀(k:Nat) (f:Bv),m.fns[k]?=some f→ ∃tb:Dz,t[k]?=some tb∧TbOk m f tb:=by
 obtain⟨h0,h1,h2⟩:=rY h
 have hm:=Vi h0
 refine⟨hm,h1,fun k f hf=> ?_⟩
 obtain⟨tb,h3,h4⟩:=h2 k f hf
 have h5:=rX h4
 exact⟨tb,h3,h5.1,(AAF hm (hm.fns f (List.mem_of_getElem? hf)) h4).1,h5.2⟩
theorem Ed {n:Int} {c:Nat} (h:FE n c=true): ∃k:Nat,n=k∧k<c:=by
 have:=of_decide_eq_true h
 obtain⟨k,rfl⟩:=Int.eq_ofNat_of_zero_le this.1
 exact⟨k,rfl,by omega⟩
theorem OG {m:AP} {k:Nat} {f:Bv} (h:m.fns[k]?=some f):RU m (k:Int)=f:=by
 unfold RU;rw [Int.toNat_natCast,h];rfl
theorem FC {m:AP} {k:Nat} {x:Cg} (h:m.types[k]?=some x):B_ m (k:Int)=x:=by
 unfold B_;rw [Int.toNat_natCast,h];rfl
theorem ru {m:AP} {t:List Dz} {s:FH} (hv:F7 m= .inr t) (h:JD m t s=0):R7 s:=by
 obtain⟨hm,ht,htb⟩:=Ke hv
 obtain⟨ha,hf⟩:=fF h
 have a0:=ha 0 (by omega)
 have a1:=ha 1 (by omega)
 have a2:=ha 2 (by omega)
 have a3:=ha 3 (by omega)
 have a4:=ha 4 (by omega)
 have a5:=ha 5 (by omega)
 have a6:=ha 6 (by omega)
 have a7:=ha 7 (by omega)
 simp only [Ct,Nat.reduceEqDiff,Bool.and_eq_true,decide_eq_true_eq,reduceIte] at a0 a1 a2 a3 a4 a5 a6 a7
 have hfr: ∀f∈s.frames,(0≤f.f∧f.f<128)∧(0≤f.pc∧f.pc<2048)∧f.loc.length≤64∧f.st.length≤256:=by
  intro f hmem
  obtain⟨k,hk⟩:=List.getElem?_of_mem hmem
  have hok:=hf k (List.getElem?_eq_some_iff.1 hk).1
  unfold KZ at hok
  rw [hk] at hok
  dsimp only at hok
  obtain⟨hin,hst⟩:=(Bool.and_eq_true _ _).mp hok
  unfold UM at hin
  obtain⟨h1,hin⟩:=(Bool.and_eq_true _ _).mp hin
  obtain⟨h2,h3⟩:=(Bool.and_eq_true _ _).mp hin
  obtain⟨n,hn,hnl⟩:=Ed h1
  obtain⟨q,hq,hql⟩:=Ed h2
  obtain⟨fn,hfn⟩: ∃fn,m.fns[n]?=some fn:=⟨_,List.getElem?_eq_getElem hnl⟩
  obtain⟨tb,htk,hto⟩:=htb n fn hfn
  have hfo:=hm.fns fn (List.mem_of_getElem? hfn)
  have fH:RU m f.f=fn:=by rw [hn];exact OG hfn
  rw [fH] at h2 h3 hql
  have hnf:=hm.nf
  have Kg:=hfo.few
  have hl:=L_ _ _ h3
  have hls:(CS m fn).data.toList.length=(B_ m fn.t).p.size+fn.loc.size:=by
   have:(CS m fn).size=(B_ m fn.t).p.size+fn.loc.size:=by unfold CS;rw [ByteArray.size_append]
   simpa using this
  have hloc:=hfo.loc
  have hsh:(Ip t f.f f.pc).size≤256:=by
   unfold Ip
   rw [hn,hq,Int.toNat_natCast,Int.toNat_natCast,htk]
   obtain⟨sh,hsh⟩: ∃sh,tb.shapes[q]?=some sh:=⟨_,List.getElem?_eq_getElem (by rw [hto.n];exact hql)⟩
   show((tb.shapes)[q]?.getD Dm).size≤256
   rw [hsh]
   exact hto.low sh (List.mem_of_getElem? hsh)
  have hstl:f.st.length≤256:=by
   split at hst
   ·have:=L_ _ _ hst
    simp at this;omega
   ·obtain⟨_,hst⟩:=(Bool.and_eq_true _ _).mp hst
    have:=L_ _ _ hst
    simp at this;omega
  refine⟨by omega,by omega,by omega,hstl⟩
 have hgl:s.globs.length≤64:=by
  have h1:m.globs.length=s.globs.length:=by
   by_cases e:m.globs.length=s.globs.length
   ·exact e
   ·rw [JC e] at a6;cases a6
  have:=hm.ng
  omega
 have hf1:=hm.f2
 refine⟨by omega,by omega,by omega,by omega,by omega,by omega,a5,by omega,hgl,by omega,fun p hp=> ?_,by omega,fun f hm=>(hfr f hm).1,fun f hm=>(hfr f hm).2.1,fun f hm=>(hfr f hm).2.2.1,fun f hm=>(hfr f hm).2.2.2⟩
 have:=List.all_eq_true.1 a7.2 p hp
 simpa using this
theorem LW (c:Nat) (hc:c<256) (w:World):Calls prog 150 #[.int .u8 c] w fun e w'=>w=w'∧e= .returned (.bool (M9 c)):=by
 by_cases h1:c=119
 ·subst h1
  go_enter func150,ntmps150
  go_wp2
  go_ret
  exact⟨rfl,rfl⟩
 ·have h1':((c:Int)==119)=false:=by simp;omega
  by_cases h2:c=108
  ·subst h2
   go_enter func150,ntmps150
   go_wp2
   go_ret
   exact⟨rfl,rfl⟩
  ·have h2':((c:Int)==108)=false:=by simp;omega
   have HF:=AA (show M9 c=false by simp [M9,h1,h2])
   clear h1 h2
   go_enter func150,ntmps150
   go_wp2
   go_ret
   exact⟨rfl,by rw [HF.out];rfl⟩
def SA (s:ByteArray) (gd:Nat→UInt8→Bool) (w:World) (wr:World):Prop:=
 ∃k:Nat,Du wr w.heap.size s k∧Below w.heap.size w wr∧Fz gd k (s.data.toList.drop k)=Fz gd 0 s.data.toList
theorem Vl (s:ByteArray) (h47:s.size≤140737488351232) (caps:List Value) (w:World) (gd:Nat→UInt8→Bool)
 (hg: ∀(i:Nat) (W:World),i<s.size→UG (s.data.toList[i]?.getD 0)=true→Below w.heap.size w W→Calls prog 201 (Value.int .i64 i::Value.int .u8 ((s.data.toList[i]?.getD 0).toNat:Int)::caps).toArray W fun e w'=>W=w'∧e= .returned (.bool (gd i (s.data.toList[i]?.getD 0)))):
 Calls prog 122 #[.string s,.func (.func 201) #[] caps.toArray] w fun e w'=>Below w.heap.size w w'∧e= .returned (.bool (Fz gd 0 s.data.toList)):=by
 have Hg:=AA hg;clear hg
 go_enter func122,ntmps122
 go_wp2_with fail
 go_loopw [] (fun wr=>SA s gd w wr) (fun wr=>s.size-Oj wr w.heap.size)
 case atStart=>exact⟨0,Du.new w s 0,Ro w s 0,rfl⟩
 case round=>
  obtain⟨k,hit,hbel,hR⟩:=hrel
  have rz:=AA hit;clear hit
  have BM:=AA hbel;clear hbel
  have HR:=AA hR;clear hR
  by_cases hlt:k<s.size
  ·have hdrop:=drop_at s.data.toList k (by simpa using hlt)
   have Hd:=AA hdrop;clear hdrop
   have hnx:=fun ty=>bH (P:=prog) rz.out hlt ty
   by_cases hlow:(s.data.toList[k]?.getD 0).toNat<128
   ·rw [Rp s k hlt hlow] at hnx
    have Q_:=AA (Hg.out k)
    have xY:(s.data.toList[k]?.getD 0).toNat<256:=by omega
    have HE:Hid (UG (s.data.toList[k]?.getD 0)=M9 (s.data.toList[k]?.getD 0).toNat):=AA rfl
    generalize s.data.toList[k]?.getD 0=c8 at*
    generalize c8.toNat=c at*
    have HL:=AA (LW c (by omega) (setIter wr w.heap.size s (k+1)))
    have Kh:Hid (Below w.heap.size w (setIter wr w.heap.size s (k+1))):=AA (BM.out.trans (Fw _ (Nat.le_refl _)))
    have kQ:=AA (rz.out.set (k+1))
    have HR2:Hid ((M9 c&&(gd k c8&&Fz gd (k+1) (s.data.toList.drop (k+1))))=Fz gd 0 s.data.toList):=AA (by rw [←HR.out,Hd.out,←HE.out];rfl)
    have HG:Hid (M9 c=true→_):=AA (fun h=>Q_.out (setIter wr w.heap.size s (k+1)) hlt (by rw [HE.out,h]) Kh.out)
    clear Q_ HE Hd HR
    cases hb:M9 c with
    | false=>
     rw [hb] at HL HR2
     clear HG hb
     go_wp2_with (go_at_call 150;refine HL.out.mono ?_;rintro e w' ⟨rfl,rfl⟩)
     go_ret
     exact⟨Kh.out,by rw [←HR2.out];rfl⟩
    | true=>
     have HG2:=AA (HG.out hb)
     rw [hb] at HL HR2
     clear HG hb
     cases hgd:gd k c8 with
     | false=>
      rw [hgd] at HG2 HR2
      clear hgd
      go_wp2_with (first | (go_at_call 150;refine HL.out.mono ?_;rintro e w' ⟨rfl,rfl⟩) | (go_at_call 201;refine HG2.out.mono ?_;rintro e w' ⟨rfl,rfl⟩))
      go_ret
      exact⟨Kh.out,by rw [←HR2.out];rfl⟩
     | true=>
      rw [hgd] at HG2 HR2
      clear hgd
      go_wp2_with (first | (go_at_call 150;refine HL.out.mono ?_;rintro e w' ⟨rfl,rfl⟩) | (go_at_call 201;refine HG2.out.mono ?_;rintro e w' ⟨rfl,rfl⟩))
      exact⟨⟨k+1,kQ.out,Kh.out,HR2.out⟩,by rw [rz.out.pos,kQ.out.pos];omega⟩
   ·have hhi:=Ul s k hlt hlow
    have HF:Hid (Fz gd 0 s.data.toList=false):=AA (by
     rw [←HR.out,Hd.out]
     have h0:UG (s.data.toList[k]?.getD 0)=false:=j3 _ hlow
     rw [K8,h0]
     rfl)
    have hle:=decode_le s k
    generalize Utf8.decode s k=d at*
    obtain⟨r,wd⟩:=d
    simp only at hhi hle hnx
    have Kh:Hid (Below w.heap.size w (setIter wr w.heap.size s (k+wd))):=AA (BM.out.trans (Fw _ (Nat.le_refl _)))
    clear Hd hlow
    go_wp2_with fail
    go_ret
    exact⟨Kh.out,by rw [HF.out];rfl⟩
  ·have hnx:=fun ty=>XJ (P:=prog) rz.out hlt ty
   have HT:Hid (Fz gd 0 s.data.toList=true):=AA (by rw [←HR.out,List.drop_of_length_le (by simp;omega)];rfl)
   go_wp2_with fail
   go_ret
   exact⟨BM.out,by rw [HT.out];rfl⟩
def ZW (s:ByteArray) (gd:Nat→UInt8→Bool) (w:World) (wr:World):Prop:=
 ∃k:Nat,Du wr w.heap.size s k∧Below w.heap.size w wr∧Fz gd k (s.data.toList.drop k)=Fz gd 0 s.data.toList
theorem kR (s:ByteArray) (h47:s.size≤140737488351232) (caps:List Value) (w:World) (gd:Nat→UInt8→Bool)
 (hg: ∀(i:Nat) (W:World),i<s.size→UG (s.data.toList[i]?.getD 0)=true→Below w.heap.size w W→Calls prog 123 (Value.int .i64 i::Value.int .u8 ((s.data.toList[i]?.getD 0).toNat:Int)::caps).toArray W fun e w'=>W=w'∧e= .returned (.bool (gd i (s.data.toList[i]?.getD 0)))):
 Calls prog 122 #[.string s,.func (.func 123) #[] caps.toArray] w fun e w'=>Below w.heap.size w w'∧e= .returned (.bool (Fz gd 0 s.data.toList)):=by
 have Hg:=AA hg;clear hg
 go_enter func122,ntmps122
 go_wp2_with fail
 go_loopw [] (fun wr=>ZW s gd w wr) (fun wr=>s.size-Oj wr w.heap.size)
 case atStart=>exact⟨0,Du.new w s 0,Ro w s 0,rfl⟩
 case round=>
  obtain⟨k,hit,hbel,hR⟩:=hrel
  have rz:=AA hit;clear hit
  have BM:=AA hbel;clear hbel
  have HR:=AA hR;clear hR
  by_cases hlt:k<s.size
  ·have hdrop:=drop_at s.data.toList k (by simpa using hlt)
   have Hd:=AA hdrop;clear hdrop
   have hnx:=fun ty=>bH (P:=prog) rz.out hlt ty
   by_cases hlow:(s.data.toList[k]?.getD 0).toNat<128
   ·rw [Rp s k hlt hlow] at hnx
    have Q_:=AA (Hg.out k)
    have xY:(s.data.toList[k]?.getD 0).toNat<256:=by omega
    have HE:Hid (UG (s.data.toList[k]?.getD 0)=M9 (s.data.toList[k]?.getD 0).toNat):=AA rfl
    generalize s.data.toList[k]?.getD 0=c8 at*
    generalize c8.toNat=c at*
    have HL:=AA (LW c (by omega) (setIter wr w.heap.size s (k+1)))
    have Kh:Hid (Below w.heap.size w (setIter wr w.heap.size s (k+1))):=AA (BM.out.trans (Fw _ (Nat.le_refl _)))
    have kQ:=AA (rz.out.set (k+1))
    have HR2:Hid ((M9 c&&(gd k c8&&Fz gd (k+1) (s.data.toList.drop (k+1))))=Fz gd 0 s.data.toList):=AA (by rw [←HR.out,Hd.out,←HE.out];rfl)
    have HG:Hid (M9 c=true→_):=AA (fun h=>Q_.out (setIter wr w.heap.size s (k+1)) hlt (by rw [HE.out,h]) Kh.out)
    clear Q_ HE Hd HR
    cases hb:M9 c with
    | false=>
     rw [hb] at HL HR2
     clear HG hb
     go_wp2_with (go_at_call 150;refine HL.out.mono ?_;rintro e w' ⟨rfl,rfl⟩)
     go_ret
     exact⟨Kh.out,by rw [←HR2.out];rfl⟩
    | true=>
     have HG2:=AA (HG.out hb)
     rw [hb] at HL HR2
     clear HG hb
     cases hgd:gd k c8 with
     | false=>
      rw [hgd] at HG2 HR2
      clear hgd
      go_wp2_with (first | (go_at_call 150;refine HL.out.mono ?_;rintro e w' ⟨rfl,rfl⟩) | (go_at_call 123;refine HG2.out.mono ?_;rintro e w' ⟨rfl,rfl⟩))
      go_ret
      exact⟨Kh.out,by rw [←HR2.out];rfl⟩
     | true=>
      rw [hgd] at HG2 HR2
      clear hgd
      go_wp2_with (first | (go_at_call 150;refine HL.out.mono ?_;rintro e w' ⟨rfl,rfl⟩) | (go_at_call 123;refine HG2.out.mono ?_;rintro e w' ⟨rfl,rfl⟩))
      exact⟨⟨k+1,kQ.out,Kh.out,HR2.out⟩,by rw [rz.out.pos,kQ.out.pos];omega⟩
   ·have hhi:=Ul s k hlt hlow
    have HF:Hid (Fz gd 0 s.data.toList=false):=AA (by
     rw [←HR.out,Hd.out]
     have h0:UG (s.data.toList[k]?.getD 0)=false:=j3 _ hlow
     rw [K8,h0]
     rfl)
    have hle:=decode_le s k
    generalize Utf8.decode s k=d at*
    obtain⟨r,wd⟩:=d
    simp only at hhi hle hnx
    have Kh:Hid (Below w.heap.size w (setIter wr w.heap.size s (k+wd))):=AA (BM.out.trans (Fw _ (Nat.le_refl _)))
    clear Hd hlow
    go_wp2_with fail
    go_ret
    exact⟨Kh.out,by rw [HF.out];rfl⟩
  ·have hnx:=fun ty=>XJ (P:=prog) rz.out hlt ty
   have HT:Hid (Fz gd 0 s.data.toList=true):=AA (by rw [←HR.out,List.drop_of_length_le (by simp;omega)];rfl)
   go_wp2_with fail
   go_ret
   exact⟨BM.out,by rw [HT.out];rfl⟩
theorem XZ (i c:Int) (w:World):Calls prog 201 #[.int .i64 i,.int .u8 c] w fun e w'=>w=w'∧e= .returned (.bool true):=by
 go_enter func201,ntmps201
 go_wp2
 go_ret
 exact⟨rfl,rfl⟩
theorem UN (s:ByteArray) (m:Nat) (h47:s.size≤140737488351232) (hm:m≤1000) (w:World):
 Calls prog 195 #[.string s,.int .i64 m] w fun e w'=>Below w.heap.size w w'∧e= .returned (.bool (Nh m s.data.toList)):=by
 have hsz:s.data.toList.length=s.size:=by simp
 by_cases h:s.size≤m
 ·have HC:=AA (Vl s h47 [] w (fun _ _=>true) (fun i W _ _ _=>XZ _ _ W))
  have HR:Hid (Nh m s.data.toList=Fz (fun _ _=>true) 0 s.data.toList):=AA (by unfold Nh;rw [Rq,hsz];simp [h])
  clear hsz
  go_enter func195,ntmps195
  go_wp2_with fail
  refine HC.out.mono ?_
  rintro e w1 ⟨h1,rfl⟩
  go_wp2_with fail
  go_ret
  exact⟨h1,by rw [HR.out];rfl⟩
 ·have HR:Hid (Nh m s.data.toList=false):=AA (by unfold Nh;rw [hsz];simp [h])
  clear hsz
  go_enter func195,ntmps195
  go_wp2_with fail
  go_ret
  exact⟨Below.refl _ _,by rw [HR.out];rfl⟩
theorem Xa (s:ByteArray) (h47:s.size≤140737488351232) (w:World):
 Calls prog 183 #[.string s] w fun e w'=>Below w.heap.size w w'∧e= .returned (.bool (Nh 256 s.data.toList)):=by
 have HC:=AA (UN s 256 h47 (by omega) w)
 generalize Nh 256 s.data.toList=b at*
 go_enter func183,ntmps183
 go_wp2_with fail
 refine HC.out.mono ?_
 rintro e w1 ⟨h1,rfl⟩
 go_wp2_with fail
 go_ret
 exact⟨h1,rfl⟩
theorem OH (c:Nat) (hc:c<256) (w:World):Calls prog 174 #[.int .u8 c] w fun e w'=>w=w'∧e= .returned (.bool (M9 c)):=by
 by_cases h1:c=119
 ·subst h1
  go_enter func174,ntmps174
  go_wp2
  go_ret
  exact⟨rfl,rfl⟩
 ·have h1':((c:Int)==119)=false:=by simp;omega
  by_cases h2:c=108
  ·subst h2
   go_enter func174,ntmps174
   go_wp2
   go_ret
   exact⟨rfl,rfl⟩
  ·have h2':((c:Int)==108)=false:=by simp;omega
   have HF:=AA (show M9 c=false by simp [M9,h1,h2])
   clear h1 h2
   go_enter func174,ntmps174
   go_wp2
   go_ret
   exact⟨rfl,by rw [HF.out];rfl⟩
def ACx (l:List UInt8) (w:World) (i:Value) (wr:World):Prop:= ∃k:Nat,k≤l.length∧i= .int .i64 k∧wr=w∧(l.drop k).all UG=l.all UG
theorem Qj (s:ByteArray) (m:Nat) (h47:s.size≤140737488351232) (w:World):
 Calls prog 194 #[.string s,.int .i64 m] w fun e w'=>w=w'∧e= .returned (.bool (Nh m s.data.toList)):=by
 have hsz:s.data.toList.length=s.size:=by simp
 have Vm:=AA hsz;clear hsz
 by_cases h:s.size≤m
 ·have HR:Hid (Nh m s.data.toList=s.data.toList.all UG):=AA (by unfold Nh;rw [Vm.out];simp [h])
  have hdec:decide (m<s.size)=false:=by simp;omega
  go_enter func194,ntmps194
  go_wp2_with fail
  go_loopw [5] (fun i wr=>ACx s.data.toList w i wr) (fun i _=>s.size-(intOf i).toNat)
  case atStart=>exact⟨0,Nat.zero_le _,rfl,rfl,rfl⟩
  case round=>
   obtain⟨k,hk,rfl,hw,hR⟩:=hrel
   subst hw
   have HR2:=AA hR;clear hR
   rw [Vm.out] at hk
   by_cases hlt:k<s.size
   ·have Hd:=AA (drop_at s.data.toList k (by rw [Vm.out];exact hlt))
    have hb:=byte_at s k hlt
    have Hb:=AA hb;clear hb
    have hk0:(0:Int)≤k:=by omega
    have xY:(s.data.toList[k]?.getD 0).toNat<256:=UInt8.toNat_lt _
    have HE:Hid (UG (s.data.toList[k]?.getD 0)=M9 (s.data.toList[k]?.getD 0).toNat):=AA rfl
    have HR3:Hid ((UG (s.data.toList[k]?.getD 0)&&(s.data.toList.drop (k+1)).all UG)=s.data.toList.all UG):=AA (by rw [←HR2.out,Hd.out];rfl)
    clear Hd HR2
    go_wp2_with fail
    rw [Hb.out]
    refine(OH _ xY _).mono ?_
    rintro e w' ⟨rfl,rfl⟩
    rw [HE.out] at HR3
    cases hN:M9 (s.data.toList[k]?.getD 0).toNat with
    | false=>
     rw [hN] at HR3
     clear hN
     go_wp2_with fail
     go_ret
     exact⟨rfl,by rw [HR.out,←HR3.out];rfl⟩
    | true=>
     rw [hN] at HR3
     clear hN
     go_wp2_with fail
     exact⟨⟨k+1,by rw [Vm.out];omega,by go_num,rfl,HR3.out⟩,by simp [intOf];omega⟩
   ·have hge: ¬(k:Int)<s.size:=by omega
    have HT:Hid (s.data.toList.all UG=true):=AA (by rw [←HR2.out,List.drop_of_length_le (by rw [Vm.out];omega)];rfl)
    go_wp2_with fail
    go_ret
    exact⟨rfl,by rw [HR.out,HT.out];rfl⟩
 ·have HR:Hid (Nh m s.data.toList=false):=AA (by unfold Nh;rw [Vm.out];simp [h])
  go_enter func194,ntmps194
  go_wp2_with fail
  go_ret
  exact⟨rfl,by rw [HR.out];rfl⟩
theorem OI (v c:Nat) (hc:c<256) (w:World):Calls prog 119 #[.int .u64 v,.int .u8 c] w fun e w'=>w=w'∧e= .returned (.bool (Dr v c)):=by
 by_cases h1:c=108
 ·subst h1
  go_enter func119,ntmps119
  go_wp2
  go_ret
  exact⟨rfl,rfl⟩
 ·have h1':((c:Int)==108)=false:=by simp;omega
  by_cases h2:c=119
  ·subst h2
   by_cases hv:v<4294967296
   ·have hq:((v:Int)/4294967296==0)=true:=by simp;omega
    have HF:=AA (show Dr v 119=true by simp [Dr,hv])
    clear h1 h1'
    go_enter func119,ntmps119
    go_wp2
    go_ret
    exact⟨rfl,by rw [HF.out];rfl⟩
   ·have hq:((v:Int)/4294967296==0)=false:=by simp;omega
    have HF:=AA (show Dr v 119=false by simp [Dr,hv])
    clear h1 h1'
    go_enter func119,ntmps119
    go_wp2
    go_ret
    exact⟨rfl,by rw [HF.out];rfl⟩
  ·have h2':((c:Int)==119)=false:=by simp;omega
   have HF:=AA (show Dr v c=false by simp [Dr,h1,h2])
   clear h1 h2
   go_enter func119,ntmps119
   go_wp2
   go_ret
   exact⟨rfl,by rw [HF.out];rfl⟩
theorem SB (v c:Nat) (hc:c<256) (w:World):Calls prog 103 #[.int .u64 v,.int .u8 c] w fun e w'=>w=w'∧e= .returned (.bool (Dr v c)):=by
 by_cases h1:c=108
 ·subst h1
  go_enter func103,ntmps103
  go_wp2
  go_ret
  exact⟨rfl,rfl⟩
 ·have h1':((c:Int)==108)=false:=by simp;omega
  by_cases h2:c=119
  ·subst h2
   by_cases hv:v<4294967296
   ·have hq:((v:Int)/4294967296==0)=true:=by simp;omega
    have HF:=AA (show Dr v 119=true by simp [Dr,hv])
    clear h1 h1'
    go_enter func103,ntmps103
    go_wp2
    go_ret
    exact⟨rfl,by rw [HF.out];rfl⟩
   ·have hq:((v:Int)/4294967296==0)=false:=by simp;omega
    have HF:=AA (show Dr v 119=false by simp [Dr,hv])
    clear h1 h1'
    go_enter func103,ntmps103
    go_wp2
    go_ret
    exact⟨rfl,by rw [HF.out];rfl⟩
  ·have h2':((c:Int)==119)=false:=by simp;omega
   have HF:=AA (show Dr v c=false by simp [Dr,h1,h2])
   clear h1 h2
   go_enter func103,ntmps103
   go_wp2
   go_ret
   exact⟨rfl,by rw [HF.out];rfl⟩
def r9 (vs:List Nat) (l:List UInt8) (w:World) (i:Value) (wr:World):Prop:= ∃k m:Nat,k≤l.length∧i= .int .i64 k∧wr=w.drewN m∧EY (vs.drop k) (l.drop k)=EY vs l
theorem SC (A:Option Addr) (n c B:Nat) (s:ByteArray) (w:World) (vs:List Nat) (hn:n=vs.length) (h47:s.size≤140737488351232) (hn47:n≤140737488351232) (hr:Row w B A (vs.map uv)):
 Calls prog 104 #[.slice A n c,.string s] w fun e w'=>(∃k,w'=w.drewN k)∧e= .returned (.bool (EY vs s.data.toList)):=by
 have hsz:s.data.toList.length=s.size:=by simp
 have Vm:=AA hsz;clear hsz
 have Hn:=AA hn;clear hn
 have Hr:=AA hr;clear hr
 by_cases hnn:n=s.size
 ·subst hnn
  go_enter func104,ntmps104
  go_wp2_with fail
  go_loopw [5] (fun i wr=>r9 vs s.data.toList w i wr) (fun i _=>s.size-(intOf i).toNat)
  case atStart=>exact⟨0,0,Nat.zero_le _,rfl,rfl,rfl⟩
  case round=>
   obtain⟨k,m,hk,rfl,rfl,hR⟩:=hrel
   have HR2:=AA hR;clear hR
   rw [Vm.out] at hk
   by_cases hlt:k<s.size
   ·obtain⟨b,o,rfl,_,hcell⟩:=Hr.out.word (j:=k) (by rw [←Hn.out];exact hlt)
    have Hd:=AA (drop_at s.data.toList k (by rw [Vm.out];exact hlt))
    have Hdv:=AA (show vs.drop k=vs[k]?.getD 0::vs.drop (k+1)from by rw [List.drop_eq_getElem_cons (by rw [←Hn.out];exact hlt),List.getElem?_eq_getElem (by rw [←Hn.out];exact hlt)];rfl)
    have hb:=byte_at s k hlt
    have Hb:=AA hb;clear hb
    have hk0:(0:Int)≤k:=by omega
    have xY:(s.data.toList[k]?.getD 0).toNat<256:=UInt8.toNat_lt _
    have HE:Hid (Rs (vs[k]?.getD 0) (s.data.toList[k]?.getD 0)=Dr (vs[k]?.getD 0) (s.data.toList[k]?.getD 0).toNat):=AA rfl
    have HR3:Hid ((Rs (vs[k]?.getD 0) (s.data.toList[k]?.getD 0)&&EY (vs.drop (k+1)) (s.data.toList.drop (k+1)))=EY vs s.data.toList):=AA (by rw [←HR2.out,Hd.out,Hdv.out];rfl)
    clear Hd HR2 Hdv
    generalize vs[k]?.getD 0=v at*
    go_wp2_with fail
    cases hN:Dr v (s.data.toList[k]?.getD 0).toNat with
    | false=>
     rw [HE.out,hN] at HR3
     go_quiet ((go_at_call 103;rw [Hb.out];have hq:=SB v _ xY;rw [hN] at hq;exact BA (hq _)))
     clear hN
     go_wp2_with fail
     go_ret
     exact⟨⟨_,World.drewN_drewN _ _ _⟩,by rw [←HR3.out];rfl⟩
    | true=>
     rw [HE.out,hN] at HR3
     go_quiet ((go_at_call 103;rw [Hb.out];have hq:=SB v _ xY;rw [hN] at hq;exact BA (hq _)))
     clear hN
     go_wp2_with fail
     exact⟨⟨k+1,m+nq,by rw [Vm.out];omega,by go_num,rfl,HR3.out⟩,by simp [intOf];omega⟩
   ·have hge: ¬(k:Int)<s.size:=by omega
    have HT:Hid (EY vs s.data.toList=true):=AA (by rw [←HR2.out,List.drop_of_length_le (by rw [←Hn.out];omega),List.drop_of_length_le (by rw [Vm.out];omega)];rfl)
    go_wp2_with fail
    go_ret
    exact⟨⟨_,rfl⟩,by rw [HT.out];rfl⟩
 ·have HR:Hid (EY vs s.data.toList=false):=AA (bI _ _ (by rw [Vm.out,←Hn.out];exact hnn))
  have hne:((n:Int) !=s.size)=true:=by simp;omega
  go_enter func104,ntmps104
  go_wp2_with fail
  go_ret
  exact⟨⟨0,rfl⟩,by rw [HR.out];rfl⟩
end Go.Proofs.YtlagonfamllgjaaGreatDoor
