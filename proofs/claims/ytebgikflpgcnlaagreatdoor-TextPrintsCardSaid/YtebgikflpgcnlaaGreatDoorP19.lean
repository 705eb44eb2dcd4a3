/- Part 19 of the proof: CtlP CtlQ ValP ValQ FraP LabP CtlA CtlB EachZ TypesZ -/
import Derived.WalkMore
import Derived.Deep.LoopGhost
import Derived.Deep.RegionHeld
import Derived.Test.YtebgikflpgcnlaaGreatDoorP03
import Derived.Test.YtebgikflpgcnlaaGreatDoorP05
namespace Go.Proofs.YtebgikflpgcnlaaGreatDoor
set_option linter.unusedVariables false
set_option linter.unusedSimpArgs false
set_option maxRecDepth 100000
set_option maxHeartbeats 4000000
open Go.RowKit Tryz
structure FV where
 ends:List Int
 Ja:List Int
 JE:List Int
 op:List Nat
 done:Bool
def Yg (l:List Nat):Int:=match l with
 | []=> -1
 | p::_=>(p:Int)
def JF (o:UInt8):Bool:=decide (o.toNat=2∨o.toNat=3∨o.toNat=4)
def opAt (code:List Av) (p:Nat):Nat:=match code[p]? with
 | none=>0
 | some x=>x.op.toNat
def jC (st:FV) (p:Nat):Int:=st.Ja.getD p (-1)
def U0 (st:FV) (pc:Nat):FV:= {st with JE:=st.JE.set pc (Yg st.op)}
def aG (st:FV) (p:Nat) (r:List Nat) (pc:Nat):FV:=
 {st with ends:=if jC st p<0 then st.ends.set p (pc:Int) else(st.ends.set p (pc:Int)).set (jC st p).toNat (pc:Int),op:=r}
def Iw (code:List Av) (st:FV) (pc:Nat):(Int×Int)⊕FV:=
 if st.done then .inl (19,pc) else
 match code[pc]? with
 | none=> .inl (38,pc)
 | some x=>
  if JF x.op then(if 32≤st.op.length then .inl (35,pc) else .inr {U0 st pc with op:=pc::st.op})
  else if x.op.toNat=5 then
   match st.op with
   | []=> .inl (37,pc)
   | p::_=>if opAt code p=4∧jC st p<0 then .inr {U0 st pc with Ja:=st.Ja.set p (pc:Int)} else .inl (37,pc)
  else if x.op.toNat=6 then
   match st.op with
   | []=> .inr {U0 st pc with done:=true}
   | p::r=> .inr (aG (U0 st pc) p r pc)
  else .inr (U0 st pc)
def ZL (code:List Av):Nat→FV→(Int×Int)⊕FV
 | 0,st=>if st.done then .inr st else .inl (38,code.length)
 | n+1,st=>match Iw code st (code.length-(n+1))with
  | .inl e=> .inl e
  | .inr st'=>ZL code n st'
def wB (n:Nat):FV:=⟨List.replicate n (-1),List.replicate n (-1),List.replicate n (-1),[],false⟩
def ctl (code:List Av):(Int×Int)⊕FV:=ZL code code.length (wB code.length)
structure ko (n:Nat) (pc:Nat) (st:FV):Prop where
 ends:st.ends.length=n
 Ja:st.Ja.length=n
 JE:st.JE.length=n
 le:pc≤n
 few:st.op.length≤32
 low: ∀p∈st.op,p<pc
 bE: ∀v∈st.ends,-1≤v∧v<pc
 bL: ∀v∈st.Ja,-1≤v∧v<pc
 bO: ∀v∈st.JE,-1≤v∧v<pc
theorem Ml {l:List Int} {k:Nat} {x:Int} {a b b':Int} (h: ∀v∈l,a≤v∧v<b) (hb:b≤b') (h1:a≤x) (h2:x<b'): ∀v∈l.set k x,a≤v∧v<b':=by
 intro v hv
 rcases List.mem_or_eq_of_mem_set hv with h3 | rfl
 ·have:=h v h3;omega
 ·exact⟨h1,h2⟩
theorem eY {l:List Nat} {pc:Nat} (h: ∀p∈l,p<pc): -1≤Yg l∧Yg l<(pc+1:Nat):=by
 cases l with
 | nil=>simp [Yg];omega
 | cons p r=>have:=h p (List.mem_cons_self ..);simp [Yg];omega
theorem jD {code:List Av} {st st':FV} {pc:Nat} (h:ko code.length pc st) (hs:Iw code st pc= .inr st'):ko code.length (pc+1) st':=by
 unfold Iw at hs
 split at hs
 ·cases hs
 split at hs
 ·cases hs
 ·rename_i x hx
  have hlt:=(List.getElem?_eq_some_iff.1 hx).1
  have ho:=Ml h.bO (k:=pc) (x:=Yg st.op) (b':=((pc+1:Nat):Int)) (by omega) (eY h.low).1 (eY h.low).2
  have hE: ∀v∈st.ends,-1≤v∧v<((pc+1:Nat):Int):=fun v hv=>by have:=h.bE v hv;omega
  have hL: ∀v∈st.Ja,-1≤v∧v<((pc+1:Nat):Int):=fun v hv=>by have:=h.bL v hv;omega
  have hp: ∀p∈st.op,p<pc+1:=fun p hp=>by have:=h.low p hp;omega
  have hol:(st.JE.set pc (Yg st.op)).length=code.length:=by rw [List.length_set];exact h.JE
  split at hs
  ·split at hs
   ·cases hs
   ·injection hs with hs;subst hs
    exact⟨h.ends,h.Ja,hol,hlt,by simp;omega,fun p hp'=>by
     rcases List.mem_cons.1 hp' with rfl | h1
     ·omega
     ·exact hp p h1,hE,hL,ho⟩
  ·split at hs
   ·split at hs
    ·cases hs
    ·rename_i p r hop
     split at hs
     ·injection hs with hs;subst hs
      exact⟨h.ends,by simp [h.Ja],hol,hlt,h.few,hp,hE,Ml h.bL (by omega) (by omega) (by omega),ho⟩
     ·cases hs
   ·split at hs
    ·split at hs
     ·injection hs with hs;subst hs
      exact⟨h.ends,h.Ja,hol,hlt,h.few,hp,hE,hL,ho⟩
     ·rename_i p r hop
      injection hs with hs;subst hs
      have hE1:=Ml h.bE (k:=p) (x:=(pc:Int)) (b':=((pc+1:Nat):Int)) (by omega) (by omega) (by omega)
      refine⟨?_,h.Ja,hol,hlt,?_,fun q hq=>hp q ?_,?_,hL,ho⟩
      ·simp only [aG];split<;>simp [U0,h.ends]
      ·have:=h.few;rw [hop] at this;simp [aG] at this⊢;omega
      ·rw [hop];exact List.mem_cons_of_mem _ hq
      ·simp only [aG]
       split
       ·exact hE1
       ·exact Ml hE1 (by omega) (by omega) (by omega)
    ·injection hs with hs;subst hs
     exact⟨h.ends,h.Ja,hol,hlt,h.few,hp,hE,hL,ho⟩
theorem jE {code:List Av} {st st':FV} {pc:Nat} (hpc:pc<code.length) (hs:Iw code st pc= .inr st'):ZL code (code.length-pc) st=ZL code (code.length-(pc+1)) st':=by
 rw [show code.length-pc=(code.length-(pc+1))+1 from by omega]
 show(match Iw code st (code.length-(code.length-(pc+1)+1))with | .inl e=>_ | .inr st'=>_)=_
 rw [show code.length-(code.length-(pc+1)+1)=pc from by omega,hs]
theorem jF {code:List Av} {st:FV} {e:Int×Int} {pc:Nat} (hpc:pc<code.length) (hs:Iw code st pc= .inl e):ZL code (code.length-pc) st= .inl e:=by
 rw [show code.length-pc=(code.length-(pc+1))+1 from by omega]
 show(match Iw code st (code.length-(code.length-(pc+1)+1))with | .inl e=>_ | .inr st'=>_)=_
 rw [show code.length-(code.length-(pc+1)+1)=pc from by omega,hs]
def Chain (JE:List Int):List Nat→Prop
 | []=>True
 | p::r=>JE[p]?=some (Yg r)∧Chain JE r
theorem Chain.keep {o o':List Int}: ∀ {l:List Nat},Chain o l→(∀p∈l,o'[p]?=o[p]?)→Chain o' l
 | [],_,_=>trivial
 | p::r,h,hk=>⟨(hk p (List.mem_cons_self ..)).trans h.1,Chain.keep h.2 fun q hq=>hk q (List.mem_cons_of_mem _ hq)⟩
theorem X6 {code:List Av} {st st':FV} {pc:Nat} (hs:Iw code st pc= .inr st'):st'.JE=st.JE.set pc (Yg st.op):=by
 unfold Iw at hs
 split at hs
 ·cases hs
 split at hs
 ·cases hs
 split at hs
 ·split at hs
  ·cases hs
  ·injection hs with hs;subst hs;rfl
 split at hs
 ·split at hs
  ·cases hs
  split at hs
  ·injection hs with hs;subst hs;rfl
  ·cases hs
 split at hs
 ·split at hs
  ·injection hs with hs;subst hs;rfl
  ·injection hs with hs;subst hs;rfl
 ·injection hs with hs;subst hs;rfl
theorem X7 {code:List Av} {st st':FV} {pc:Nat} {x:Av} (hx:code[pc]?=some x) (hs:Iw code st pc= .inr st'):
 st.done=false∧((JF x.op=true∧st'.op=pc::st.op∧st'.done=false)∨
 (JF x.op=false∧x.op.toNat=6∧st.op= []∧st'.op= []∧st'.done=true)∨
 (JF x.op=false∧x.op.toNat=6∧(∃p,st.op=p::st'.op)∧st'.done=false)∨
 (JF x.op=false∧x.op.toNat=5∧st'.op=st.op∧st'.done=false∧ ∃p r,st.op=p::r∧opAt code p=4)∨
 (JF x.op=false∧x.op.toNat≠5∧x.op.toNat≠6∧st'.op=st.op∧st'.done=false)):=by
 unfold Iw at hs
 split at hs
 ·cases hs
 rename_i hd
 have hd:st.done=false:=by simpa using hd
 rw [hx] at hs
 dsimp only at hs
 refine⟨hd,?_⟩
 split at hs
 ·rename_i ho
  split at hs
  ·cases hs
  ·injection hs with hs;subst hs;exact .inl ⟨ho,rfl,hd⟩
 rename_i ho
 have ho:JF x.op=false:=by simpa using ho
 split at hs
 ·rename_i h5
  split at hs
  ·cases hs
  ·rename_i p r hop
   split at hs
   ·rename_i h4
    injection hs with hs;subst hs
    exact .inr (.inr (.inr (.inl ⟨ho,h5,rfl,hd,p,r,hop,h4.1⟩)))
   ·cases hs
 rename_i h5
 split at hs
 ·rename_i h6
  split at hs
  ·rename_i hop
   injection hs with hs;subst hs
   exact .inr (.inl ⟨ho,h6,hop,hop,rfl⟩)
  ·rename_i p r hop
   injection hs with hs;subst hs
   exact .inr (.inr (.inl ⟨ho,h6,⟨p,hop⟩,hd⟩))
 ·rename_i h6
  injection hs with hs;subst hs
  exact .inr (.inr (.inr (.inr ⟨ho,h5,h6,rfl,hd⟩)))
theorem jG {code:List Av} {st st':FV} {pc:Nat} {x:Av} (h:ko code.length pc st) (hx:code[pc]?=some x) (hs:Iw code st pc= .inr st') (hc:Chain st.JE st.op):Chain st'.JE st'.op:=by
 have hlt:=(List.getElem?_eq_some_iff.1 hx).1
 have hw:=X6 hs
 have hk:Chain st'.JE st.op:=hc.keep fun p hp=>by
  have:=h.low p hp
  rw [hw,List.getElem?_set_ne (by omega)]
 have hat:st'.JE[pc]?=some (Yg st.op):=by rw [hw,List.getElem?_set_self (by rw [h.JE];exact hlt)]
 rcases(X7 hx hs).2 with⟨_,e,_⟩ | ⟨_,_,_,e,_⟩ | ⟨_,_,⟨p,e⟩,_⟩ | ⟨_,_,e,_⟩ | ⟨_,_,_,e,_⟩
 ·rw [e];exact⟨hat,hk⟩
 ·rw [e];trivial
 ·rw [e] at hk;exact hk.2
 ·rw [e];exact hk
 ·rw [e];exact hk
structure Qb where
 s:Dl
 pc:Int
 o:UInt8
 base:ByteArray
structure WW where
 shape:ByteArray
 dead:Bool
 op:List Qb
 shapes:List ByteArray
 floors:List Int
 high:Nat
def U1:ByteArray:=ByteArray.empty
def wS:ByteArray:=⟨#[119]⟩
def wM:Dl:=⟨U1,U1⟩
def AAZ (o:Qb):ByteArray:=if o.o.toNat=3 then o.s.p else o.s.r
def YA (s:Dl):Qb:=⟨⟨U1,s.r⟩,-1,0,U1⟩
def Kc (st:WW):Qb:=st.op.headD (YA wM)
def OP (st:WW):ByteArray:=st.shape.extract (Kc st).base.size st.shape.size
def inI (n:Int) (c:Nat):Bool:=decide (0≤n∧n<c)
def Q6 (m:AQ) (t:Int):Dl:=m.types[t.toNat]?.getD wM
def fnV (m:AQ) (n:Int):FL:=m.fns[n.toNat]?.getD ⟨0,U1,[]⟩
def jL (l:List Qb) (n:Int):Option Qb:=if 0≤n then l[n.toNat]? else none
def AAa (l:List Qb) (n:Int):ByteArray:=match jL l n with
 | none=>U1
 | some o=>AAZ o
def RV (l:List Qb) (x:Av):ByteArray×Int:=
 if x.op.toNat≠9 then(if(jL l x.a).isSome then(AAa l x.a,0) else(U1,31)) else
 if x.l.all (fun n=>(jL l n).isSome) then
  (if x.l.all (fun n=>decide (AAa l n=AAa l (x.l.headD 0))) then(AAa l (x.l.headD 0),0) else(U1,32))
 else(U1,31)
def AFT (m:AQ) (f:FL):ByteArray:=(Q6 m f.t).p++f.loc
def QU (m:AQ) (f:FL) (x:Av):ByteArray×Int:=
 if x.op.toNat=18∨x.op.toNat=19∨x.op.toNat=20 then
  (if inI x.a (AFT m f).size then((AFT m f).extract x.a.toNat (x.a.toNat+1),0) else(U1,30))
 else match (if 0≤x.a then m.globs[x.a.toNat]? else none)with
  | none=>(U1,30)
  | some g=>if x.op.toNat=22∧g.m=false then(U1,39) else(⟨#[g.l]⟩,0)
def jM (m:AQ) (x:Av):Option Dl:=
 if x.op.toNat=11 then(if inI x.a m.fns.length then some (Q6 m (fnV m x.a).t) else none) else
 if x.op.toNat=12 then(if inI x.a m.hosts.length then some (Q6 m (m.hosts[x.a.toNat]?.getD 0)) else none) else
 if inI x.a m.types.length then some (Q6 m x.a) else none
def Rh (m:AQ) (f:FL) (st:WW) (x:Av):ByteArray×ByteArray×Int:=match CG x.op.toNat with
 | none=>(U1,U1,0)
 | some r=>
  if r.plain then(r.pops,r.pushes,0) else
  if x.op.toNat=0 then(U1,U1,0) else
  if x.op.toNat=2∨x.op.toNat=3∨x.op.toNat=4∨x.op.toNat=11∨x.op.toNat=12 then
   match jM m x with
   | none=>(U1,U1,30)
   | some t=>if x.op.toNat=4 then(t.p++wS,t.p,0) else if x.op.toNat<4 then(t.p,t.p,0) else(t.p,t.r,0)
  else
  if x.op.toNat=7 then((RV st.op x).1,(RV st.op x).1,(RV st.op x).2) else
  if x.op.toNat=8∨x.op.toNat=9 then((RV st.op x).1++wS,(RV st.op x).1,(RV st.op x).2) else
  if x.op.toNat=10 then((Q6 m f.t).r,(Q6 m f.t).r,0) else
  if x.op.toNat=16 then(if(OP st).size=0 then(wS,U1,0) else((OP st).extract ((OP st).size-1) (OP st).size,U1,0)) else
  if x.op.toNat=17 then(if(OP st).size<3 then(⟨#[119,119,119]⟩,wS,0) else
   (let y:=(OP st).extract ((OP st).size-2) ((OP st).size-1);(y++y++wS,y,0))) else
  if x.op.toNat=18∨x.op.toNat=21 then(U1,(QU m f x).1,(QU m f x).2) else
  if x.op.toNat=20 then((QU m f x).1,(QU m f x).1,(QU m f x).2) else
  ((QU m f x).1,U1,(QU m f x).2)
def AFU (o:UInt8):Bool:=decide (o.toNat=0∨o.toNat=7∨o.toNat=9∨o.toNat=10)
def jN (o:UInt8):Bool:=decide (o.toNat=5∨o.toNat=6)
def AFV (m:AQ) (f:FL) (Ja:List Int) (pc:Nat) (st:WW) (x:Av):Int⊕WW:=
 if jN x.op then
  (if st.shape≠(Kc st).base++(Kc st).s.r then .inl 33 else
   if x.op.toNat=5 then .inr {st with shape:=(Kc st).base++(Kc st).s.p,dead:=false} else
   if(Kc st).o.toNat=4∧Ja.getD (Kc st).pc.toNat (-1)<0∧(Kc st).s.p≠(Kc st).s.r then .inl 37 else
   .inr {st with op:=st.op.tail,dead:=false})
 else
  if(Rh m f st x).2.2≠0 then .inl (Rh m f st x).2.2 else
  if ends (OP st) (Rh m f st x).1=false then .inl 33 else
  if 256<(st.shape.size-(Rh m f st x).1.size)+(Rh m f st x).2.1.size then .inl 34 else
  .inr {st with
   shape:=st.shape.extract 0 (st.shape.size-(Rh m f st x).1.size)++(Rh m f st x).2.1
   dead:=AFU x.op
   op:=if JF x.op then⟨Q6 m x.a,pc,x.op,st.shape.extract 0 (st.shape.size-(Rh m f st x).1.size)⟩::st.op else st.op
   floors:=if JF x.op then st.floors.set pc ((st.shape.size-(Rh m f st x).1.size:Nat):Int) else st.floors}
def YB (st:WW) (x:Av):Int⊕WW:=
 if st.dead then
  (if jN x.op=false then .inl 36 else
   if 256<(Kc st).base.size+(Kc st).s.r.size then .inl 34 else .inr {st with shape:=(Kc st).base++(Kc st).s.r})
 else .inr st
def Ll (st:WW):WW:= {st with shapes:=st.shapes++ [st.shape],floors:=st.floors++ [-1],high:=max st.high st.shape.size}
def wN (m:AQ) (f:FL) (Ja:List Int) (pc:Nat) (st:WW) (x:Av):Int⊕WW:=
 match YB st x with
 | .inl e=> .inl e
 | .inr st1=>AFV m f Ja pc (Ll st1) x
def ownB (o:Nat):Bool:=decide (o=0∨(2≤o∧o≤12)∨(16≤o∧o≤22))
theorem kr: ∀r∈Dj,r.plain= !(ownB r.op):=by
 have h:Dj.all (fun r=>decide (r.plain= !(ownB r.op)))=true:=by kernel_rfl
 exact fun r hr=>of_decide_eq_true (List.all_eq_true.1 h r hr)
theorem YC {n:Nat} {r:ZR} (h:CG n=some r):r∈Dj∧r.op=n:=by
 unfold CG at h
 have h1:=List.mem_of_find?_eq_some h
 have h2:=List.find?_some h
 exact⟨h1,by simpa using h2⟩
def aI (m:AQ) (f:FL) (shapes:List ByteArray) (floors:List Int) (o:Qb):Prop:=
 o=YA (Q6 m f.t)∨ ∃(p n:Nat) (y:Av) (s:ByteArray),o.pc=p∧p<shapes.length∧f.code[p]?=some y∧JF y.op=true∧o.o=y.op∧inI y.a m.types.length=true∧o.s=Q6 m y.a∧
  shapes[p]?=some s∧floors[p]?=some (n:Int)∧n≤s.size∧o.base=s.extract 0 n∧n+o.s.p.size≤256
structure YD (m:AQ) (f:FL) (sc:FV) (pc:Nat) (st:WW):Prop where
 shapes:st.shapes.length=pc
 floors:st.floors.length=pc
 size:st.shape.size≤256
 pcs:st.op.map (·.pc)=sc.op.map Int.ofNat++(if sc.done then [] else [-1])
 each: ∀o∈st.op,aI m f st.shapes st.floors o
 mono:st.op.Pairwise (fun a b=>b.base.size≤a.base.size)
 top:st.dead=false→(Kc st).base.size≤st.shape.size
 bnd: ∀s∈st.shapes,s.size≤256
 high:st.high≤256
 fl: ∀v∈st.floors,-1≤v∧v≤256
theorem aI.keep {m:AQ} {f:FL} {l l':List ByteArray} {k k':List Int} {o:Qb} (h:aI m f l k o) (hl:l.length≤l'.length) (h1: ∀p,p<l.length→l'[p]?=l[p]?) (h2: ∀p,p<l.length→k'[p]?=k[p]?):aI m f l' k' o:=by
 rcases h with h | ⟨p,n,y,s,a1,a2,a3,a4,a5,a6,a7,a8,a9,a10,a11,a12⟩
 ·exact .inl h
 ·exact .inr ⟨p,n,y,s,a1,by omega,a3,a4,a5,a6,a7,by rw [h1 p a2];exact a8,by rw [h2 p a2];exact a9,a10,a11,a12⟩
theorem aI.size {m:AQ} {f:FL} {l:List ByteArray} {k:List Int} {o:Qb} (h:aI m f l k o) (hb: ∀s∈l,s.size≤256):o.base.size≤256:=by
 rcases h with rfl | ⟨p,n,y,s,a1,a2,a3,a4,a5,a6,a7,a8,a9,a10,a11,a12⟩
 ·simp [YA,U1]
 ·rw [a11,ByteArray.size_extract]
  have:=hb s (List.mem_of_getElem? a8)
  omega
theorem aI.room {m:AQ} {f:FL} {l:List ByteArray} {k:List Int} {o:Qb} (h:aI m f l k o):o.base.size+o.s.p.size≤256:=by
 rcases h with rfl | ⟨p,n,y,s,a1,a2,a3,a4,a5,a6,a7,a8,a9,a10,a11,a12⟩
 ·simp [YA,U1]
 ·rw [a11,ByteArray.size_extract];omega
theorem jO (st:WW):(OP st).size=st.shape.size-(Kc st).base.size:=by
 unfold OP
 rw [ByteArray.size_extract]
 omega
theorem YD.ne {m:AQ} {f:FL} {sc:FV} {pc:Nat} {st:WW} (h:YD m f sc pc st) (hd:sc.done=false): ∃o r,st.op=o::r:=by
 cases hop:st.op with
 | nil=>have:=h.pcs;rw [hop,hd] at this;simp at this
 | cons o r=>exact⟨o,r,rfl⟩
theorem pJ {m:AQ} {f:FL} {sc:FV} {pc:Nat} {st st1:WW} {x:Av} (h:YD m f sc pc st) (hb:YB st x= .inr st1):
 st1.op=st.op∧st1.shapes=st.shapes∧st1.floors=st.floors∧st1.high=st.high∧st1.shape.size≤256∧(Kc st).base.size≤st1.shape.size:=by
 unfold YB at hb
 split at hb
 ·split at hb
  ·cases hb
  split at hb
  ·cases hb
  ·injection hb with hb;subst hb
   refine⟨rfl,rfl,rfl,rfl,?_,?_⟩<;>simp only [ByteArray.size_append]<;>omega
 ·rename_i hd
  injection hb with hb;subst hb
  exact⟨rfl,rfl,rfl,rfl,h.size,h.top (by simpa using hd)⟩
theorem wO {m:AQ} {f:FL} {sc:FV} {pc:Nat} {st st1:WW} {x:Av} (h:YD m f sc pc st) (hb:YB st x= .inr st1):
 let s2:=Ll st1
 s2.op=st.op∧s2.shapes.length=pc+1∧s2.floors.length=pc+1∧s2.shapes[pc]?=some s2.shape∧s2.shape.size≤256∧(Kc s2).base.size≤s2.shape.size∧(∀o∈st.op,aI m f s2.shapes s2.floors o)∧
  (∀s∈s2.shapes,s.size≤256)∧s2.high≤256∧(∀v∈s2.floors,-1≤v∧v≤256):=by
 obtain⟨h1,h2,h3,h4,h5,h6⟩:=pJ h hb
 dsimp only
 refine⟨h1,?_,?_,?_,h5,?_,?_,?_,?_,?_⟩
 ·simp [Ll,h2,h.shapes]
 ·simp [Ll,h3,h.floors]
 ·simp only [Ll];rw [h2,List.getElem?_append_right (by rw [h.shapes];exact Nat.le_refl _),h.shapes,Nat.sub_self];rfl
 ·have:Kc (Ll st1)=Kc st:=by unfold Kc Ll;rw [h1]
  rw [this];exact h6
 ·intro o ho
  refine(h.each o ho).keep (by simp [Ll,h2]) (fun p hp=> ?_) (fun p hp=> ?_)
  ·simp only [Ll];rw [h2,List.getElem?_append_left hp]
  ·simp only [Ll];rw [h3,List.getElem?_append_left (by rw [h.floors,←h.shapes];exact hp)]
 ·intro s hs
  simp only [Ll,List.mem_append,List.mem_singleton] at hs
  rcases hs with hs | rfl
  ·exact h.bnd s (h2▸hs)
  ·exact h5
 ·simp only [Ll];rw [h4];have:=h.high;omega
 ·intro v hv
  simp only [Ll,List.mem_append,List.mem_singleton] at hv
  rcases hv with hv | rfl
  ·exact h.fl v (h3▸hv)
  ·omega
theorem wP {m:AQ} {f:FL} {st:WW} {x:Av} (hr:(CG x.op.toNat).isSome=true) (ho:JF x.op=true) (he:(Rh m f st x).2.2=0):inI x.a m.types.length=true:=by
 obtain⟨r,hr⟩:=Option.isSome_iff_exists.1 hr
 have hm:=YC hr
 have hp:=kr r hm.1
 unfold JF at ho
 have ho:=of_decide_eq_true ho
 have h1:ownB r.op=true:=by rw [hm.2];unfold ownB;exact decide_eq_true (by omega)
 rw [h1] at hp
 unfold Rh at he
 rw [hr] at he
 simp only [hp,Bool.not_true,Bool.false_eq_true,if_false] at he
 rw [if_neg (by omega),if_pos (by omega)] at he
 unfold jM at he
 rw [if_neg (by omega),if_neg (by omega)] at he
 by_cases hi:inI x.a m.types.length=true
 ·exact hi
 ·rw [if_neg hi] at he
  simp at he
theorem jP {m:AQ} {f:FL} {st:WW} {x:Av} (hr:(CG x.op.toNat).isSome=true) (ho:JF x.op=true) (hi:inI x.a m.types.length=true):
 Rh m f st x=(if x.op.toNat=4 then(Q6 m x.a).p++wS else(Q6 m x.a).p,(Q6 m x.a).p,0):=by
 obtain⟨r,hr⟩:=Option.isSome_iff_exists.1 hr
 have hm:=YC hr
 have hp:=kr r hm.1
 unfold JF at ho
 have ho:=of_decide_eq_true ho
 have h1:ownB r.op=true:=by rw [hm.2];unfold ownB;exact decide_eq_true (by omega)
 rw [h1] at hp
 unfold Rh
 rw [hr]
 simp only [hp,Bool.not_true,Bool.false_eq_true,if_false]
 rw [if_neg (by omega),if_pos (by omega)]
 unfold jM
 rw [if_neg (by omega),if_neg (by omega),if_pos hi]
 by_cases h4:x.op.toNat=4
 ·simp [h4]
 ·simp only [h4,if_false];rw [if_pos (by omega)]
theorem pK {s t:ByteArray} (h: ¬ends s t=false):t.size≤s.size:=xk s t (by simpa using h)
theorem jQ {m:AQ} {f:FL} {sc sc':FV} {pc:Nat} {st st':WW} {x:Av} {Ja:List Int} (h:YD m f sc pc st) (hx:f.code[pc]?=some x) (hc:Iw f.code sc pc= .inr sc') (hr:(CG x.op.toNat).isSome=true)
 (hty: ∀t:Dl,t∈m.types→t.p.size≤8∧t.r.size≤8) (hs:wN m f Ja pc st x= .inr st'):YD m f sc' (pc+1) st':=by
 unfold wN at hs
 cases hb:YB st x with
 | inl e=>rw [hb] at hs;cases hs
 | inr st1=>
  rw [hb] at hs
  dsimp only at hs
  obtain⟨hd,mI⟩:=X7 hx hc
  obtain⟨o,rr,hop⟩:=h.ne hd
  obtain⟨n1,n2,n3,n4,n5,n6,n7,n8,n9,n10⟩:=wO h hb
  generalize Ll st1=s2 at*
  have hto:Kc s2=o:=by unfold Kc;rw [n1,hop];rfl
  have AFX: ∀a,(Q6 m a).p.size≤8∧(Q6 m a).r.size≤8:=fun a=>by
   unfold Q6
   cases hg:m.types[a.toNat]? with
   | none=>simp [wM,U1]
   | some t=>exact hty t (List.mem_of_getElem? hg)
  have hosz:o.s.p.size≤8∧o.s.r.size≤8:=by
   rcases h.each o (by rw [hop];exact List.mem_cons_self ..)with e | ⟨p,n,y,s,a1,a2,a3,a4,a5,a6,a7,a8,a9,a10,a11,a12⟩
   ·rw [e];exact⟨by simp [YA,U1],(AFX f.t).2⟩
   ·rw [a7];exact AFX _
  have hpw:=h.mono
  rw [hop] at hpw
  unfold AFV at hs
  by_cases hcl:jN x.op=true
  ·rw [if_pos hcl] at hs
   have hcl':=of_decide_eq_true hcl
   have hno:JF x.op=false:=by unfold JF;exact decide_eq_false (by omega)
   split at hs
   ·cases hs
   rename_i hsh
   have hsh:s2.shape=(Kc s2).base++(Kc s2).s.r:=by simpa using hsh
   rw [hto] at hsh
   split at hs
   ·rename_i h5
    injection hs with hs;subst hs
    have hop':sc'.op=sc.op∧sc'.done=false:=by
     rcases mI with⟨a,_⟩ | ⟨_,a,_⟩ | ⟨_,a,_⟩ | ⟨_,_,a,b,_⟩ | ⟨_,a,_⟩
     ·rw [a] at hno;cases hno
     ·omega
     ·omega
     ·exact⟨a,b⟩
     ·omega
    refine⟨n2,n3,?_,?_,?_,?_,?_,n8,n9,n10⟩
    ·simp only [ByteArray.size_append,hto]
     exact(h.each o (by rw [hop];exact List.mem_cons_self ..)).room
    ·simp only [n1,hop'.1,hop'.2];have:=h.pcs;rw [hd] at this;exact this
    ·rw [show({s2 with shape:=(Kc s2).base++(Kc s2).s.p,dead:=false}:WW).op=st.op from n1];exact n7
    ·rw [show({s2 with shape:=(Kc s2).base++(Kc s2).s.p,dead:=false}:WW).op=st.op from n1];exact h.mono
    ·intro _
     show(Kc s2).base.size≤_
     simp
   ·split at hs
    ·cases hs
    rename_i h5 _
    injection hs with hs;subst hs
    have hop':sc'.op.map Int.ofNat++(if sc'.done then [] else [-1])=rr.map (·.pc):=by
     have hp:=h.pcs
     rw [hop,hd] at hp
     rcases mI with⟨a,_⟩ | ⟨_,_,a,b,c⟩ | ⟨_,_,⟨p,a⟩,b⟩ | ⟨_,a,_⟩ | ⟨_,a,b,_⟩
     ·rw [a] at hno;cases hno
     ·rw [a] at hp;simp at hp;simp [b,c,hp.2]
     ·rw [a] at hp;simp at hp;simp [b,hp.2]
     ·omega
     ·omega
    have htl:({s2 with op:=s2.op.tail,dead:=false}:WW).op=rr:=by show s2.op.tail=rr;rw [n1,hop];rfl
    refine⟨n2,n3,n5,?_,?_,?_,?_,n8,n9,n10⟩
    ·rw [htl];exact hop'.symm
    ·rw [htl];exact fun q hq=>n7 q (by rw [hop];exact List.mem_cons_of_mem _ hq)
    ·rw [htl];exact(List.pairwise_cons.1 hpw).2
    ·intro _
     unfold Kc
     rw [htl]
     show _≤s2.shape.size
     rw [hto] at n6
     cases rr with
     | nil=>simp [YA,U1]
     | cons q rr'=>
      have:=(List.pairwise_cons.1 hpw).1 q (List.mem_cons_self ..)
      simp;omega
  ·rw [if_neg hcl] at hs
   have hcl': ¬(x.op.toNat=5∨x.op.toNat=6):=fun e=>hcl (decide_eq_true e)
   split at hs
   ·cases hs
   rename_i he
   have he:(Rh m f s2 x).2.2=0:=by simpa using he
   split at hs
   ·cases hs
   rename_i hen
   split at hs
   ·cases hs
   rename_i hroom
   have hsz:=pK hen
   rw [jO,hto] at hsz
   rw [hto] at n6
   injection hs with hs;subst hs
   by_cases ho:JF x.op=true
   ·have hin:=wP hr ho he
    have hop':sc'.op=pc::sc.op∧sc'.done=false:=by
     rcases mI with⟨_,a⟩ | ⟨a,_⟩ | ⟨a,_⟩ | ⟨a,_⟩ | ⟨a,_⟩
     ·exact a
     all_goals rw [a] at ho;cases ho
    have hroom':=hroom
    have hpush:(Rh m f s2 x).2.1=(Q6 m x.a).p:=by rw [jP hr ho hin]
    simp only [ho,if_true]
    refine⟨n2,by simp [n3],?_,?_,?_,?_,?_,n8,n9,?_⟩
    ·simp only [ByteArray.size_append,ByteArray.size_extract];omega
    ·simp only [List.map_cons,n1,hop'.1,hop'.2]
     have hp:=h.pcs;rw [hd] at hp
     rw [hp];rfl
    ·intro q hq
     simp only [List.mem_cons] at hq
     rcases hq with rfl | hq
     ·refine .inr ⟨pc,s2.shape.size-(Rh m f s2 x).1.size,x,s2.shape,rfl,by rw [n2];omega,hx,ho,rfl,hin,rfl,n4,?_,by omega,rfl,?_⟩
      ·simp only [];rw [List.getElem?_set_self (by omega)]
      ·rw [hpush] at hroom;simp only [];omega
     ·rw [n1] at hq
      rcases n7 q hq with e | ⟨p,n,y,s,a1,a2,a3,a4,a5,a6,a7,a8,a9,a10,a11,a12⟩
      ·exact .inl e
      ·refine .inr ⟨p,n,y,s,a1,a2,a3,a4,a5,a6,a7,a8,?_,a10,a11,a12⟩
       have hlt:p<pc:=by
        rcases h.each q hq with e | ⟨p',n',y',s',b1,b2,_⟩
        ·rw [e] at a1;simp [YA] at a1
        ·rw [h.shapes] at b2;omega
       simp only [];rw [List.getElem?_set_ne (by omega)];exact a9
    ·simp only [n1]
     refine List.pairwise_cons.2 ⟨fun q hq=> ?_,h.mono⟩
     rw [hop] at hq
     have hq':q.base.size≤o.base.size:=by
      rcases List.mem_cons.1 hq with rfl | hq
      ·exact Nat.le_refl _
      ·exact(List.pairwise_cons.1 hpw).1 q hq
     simp only [ByteArray.size_extract];omega
    ·intro _
     simp only [Kc,List.headD_cons,ByteArray.size_append,ByteArray.size_extract];omega
    ·intro v hv
     rcases List.mem_or_eq_of_mem_set hv with hv | rfl
     ·exact n10 v hv
     ·omega
   ·have ho:JF x.op=false:=by simpa using ho
    have hop':sc'.op=sc.op∧sc'.done=false:=by
     rcases mI with⟨a,_⟩ | ⟨_,a,_⟩ | ⟨_,a,_⟩ | ⟨_,a,_⟩ | ⟨_,_,_,a,b⟩
     ·rw [a] at ho;cases ho
     ·omega
     ·omega
     ·omega
     ·exact⟨a,b⟩
    simp only [ho,Bool.false_eq_true,if_false]
    refine⟨n2,n3,?_,?_,?_,?_,?_,n8,n9,n10⟩
    ·simp only [ByteArray.size_append,ByteArray.size_extract];omega
    ·simp only [n1,hop'.1,hop'.2];have hp:=h.pcs;rw [hd] at hp;exact hp
    ·simp only [n1];exact n7
    ·simp only [n1];exact h.mono
    ·intro _
     unfold Kc at hto⊢
     simp only [hto,ByteArray.size_append,ByteArray.size_extract];omega

structure FnOk (m:AQ) (f:FL):Prop where
 t0:0≤f.t
 t1:f.t<m.types.length
 loc:f.loc.size+(Q6 m f.t).p.size≤64
 few:f.code.length≤2048
 ins: ∀x∈f.code,Aa x=0
structure MdOk (m:AQ):Prop where
 types: ∀t∈m.types,t.p.size≤8∧t.r.size≤8
 fns: ∀f∈m.fns,FnOk m f
 nf:m.fns.length≤128
 nt:m.types.length≤64
 nh:m.hosts.length≤32
 ng:m.globs.length≤64
 host: ∀t∈m.hosts,0≤t∧t<m.types.length
 f0:0≤m.first
 f1:m.first≤m.most
 f2:m.most≤64
 glob: ∀g∈m.globs,Qh g.l.toNat=true
structure Lock (m:AQ) (f:FL) (c:FV) (pc:Nat) (sc:FV) (st:WW):Prop where
 go:ZL f.code (f.code.length-pc) sc= .inr c
 ok:ko f.code.length pc sc
 chain:Chain sc.JE sc.op
 val:YD m f sc pc st
theorem Lock.step {m:AQ} {f:FL} {c:FV} {pc:Nat} {sc:FV} {st:WW} {x:Av} (h:Lock m f c pc sc st) (hx:f.code[pc]?=some x):
 ∃sc',Iw f.code sc pc= .inr sc'∧(MdOk m→Aa x=0→ ∀Ja st',wN m f Ja pc st x= .inr st'→Lock m f c (pc+1) sc' st'):=by
 have hlt:=(List.getElem?_eq_some_iff.1 hx).1
 cases hs:Iw f.code sc pc with
 | inl e=>have:=h.go;rw [jF hlt hs] at this;cases this
 | inr sc'=>
  refine⟨sc',rfl,fun hm hi Ja st' hv=>⟨?_,jD h.ok hs,jG h.ok hx hs h.chain,jQ h.val hx hs ?_ hm.types hv⟩⟩
  ·rw [←jE hlt hs];exact h.go
  ·unfold Aa at hi
   cases hr:CG x.op.toNat with
   | none=>rw [hr] at hi;cases hi
   | some r=>rfl
def iv (n:Int):Value:= .int .i64 n
theorem wC {w:World} {base size g n:Nat} {t e:TypeId} {xs ys:List Value} {v:Value} (h:w.ownsRow base e size v n ys) (h':AV w g t xs) (hne:e≠t):v.ownBlock≠some g:=by
 intro hb
 rcases h.2 with⟨hv,_⟩ | ⟨g',cap,cur,hv,_,hg,_⟩
 ·rw [hv] at hb;cases hb
 ·rw [hv] at hb
  injection hb with hb
  have hb:g'=g:=hb
  subst hb
  unfold AV at h'
  rw [hg] at h'
  injection h' with h'
  injection h' with h1 h2
  exact hne h2
def wD (l:List Int) (p:Nat):List Value:= [iv p,iv (l.getD p (-1))]
def ABN (st:FV):List Value:= [iv (-1),iv (-1)]++st.op.reverse.flatMap (wD st.Ja)
theorem ADa (st:FV):(ABN st).length=(st.op.length+1)*2:=by
 have: ∀l:List Nat,(l.flatMap (wD st.Ja)).length=l.length*2:=fun l=>by
  induction l with
  | nil=>rfl
  | cons a l ih=>rw [List.flatMap_cons,List.length_append,ih];simp [wD];omega
 unfold ABN
 rw [List.length_append,this]
 simp;omega
def Desc (l:List Nat):Prop:=l.Pairwise (fun a b=>b<a)
section
variable {w wr w':World} {b1 b2 b3:Nat} {st:FV} {A:Option Addr} {c:Nat}
end
section
variable {w wr w':World} {b1 b2 b3:Nat} {st:FV} {A:Option Addr} {c:Nat}
end

def zs (n:Nat):List Value:=List.replicate n (.int .u64 0)
end Go.Proofs.YtebgikflpgcnlaaGreatDoor
