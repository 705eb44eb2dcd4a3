/- Part 4 of the proof: ModP ValP CtlQ ValQ FraP -/
import Derived.Test.YtlagonfamllgjaaGreatDoorK03
namespace Go.Proofs.YtlagonfamllgjaaGreatDoor
set_option linter.unusedVariables false
set_option linter.unusedSimpArgs false
set_option maxRecDepth 100000
set_option maxHeartbeats 4000000
open Go.RowKit Tryz
def Cq (a b:Int):Int:=if a=0 then b else a
theorem AV {a b:Int} (h:Cq a b=0):a=0∧b=0:=by
 unfold Cq at h
 by_cases h0:a=0
 ·rw [if_pos h0] at h;exact⟨h0,h⟩
 ·rw [if_neg h0] at h;exact absurd h h0
theorem Br {a b:Int} (h:a≠0):Cq a b=a:=if_neg h
theorem AY {a b:Int} (h:a=0):Cq a b=b:=if_pos h
theorem EM (a b c:Int):Cq (Cq a b) c=Cq a (Cq b c):=by
 unfold Cq;by_cases h:a=0<;>simp [h]
def Aa:Nat→(Nat→Int)→Int
 | 0,_=>0
 | n+1,f=>Cq (Aa n f) (f n)
theorem Cc {k:Nat} {f:Nat→Int} (h0:Aa k f=0) (h:f k=0):Aa (k+1) f=0:=by
 show Cq _ _=0
 rw [h0,AY rfl,h]
theorem Dc {k:Nat} {f:Nat→Int} (h0:Aa k f=0) (h:f k≠0): ∀n,k<n→Aa n f=f k
 | 0,hn=>absurd hn (Nat.not_lt_zero _)
 | n+1,hn=>by
  show Cq _ _=_
  by_cases e:k=n
  ·subst e;rw [h0,AY rfl]
  ·rw [Dc h0 h n (by omega),Br h]
theorem BQ: ∀ {n:Nat} {f:Nat→Int},Aa n f=0→ ∀j,j<n→f j=0
 | 0,_,_,_,hj=>absurd hj (Nat.not_lt_zero _)
 | n+1,f,h,j,hj=>by
  have:=AV (a:=Aa n f) (b:=f n) h
  by_cases e:j=n
  ·subst e;exact this.2
  ·exact BQ this.1 j (by omega)
def Ae (b:Bool) (e:Int):Int:=if b then 0 else e
theorem BX {b:Bool} {e:Int} (h:b=true):Ae b e=0:=by rw [h];rfl
theorem CJ {b:Bool} {e:Int} (h:b=false):Ae b e=e:=by rw [h];rfl
def CK (s:ByteArray) (most:Int):Int:=Cq (Ae (decide ((s.size:Int)≤most)) 13) (Ae (ZR s) 15)
def KW (x y:Cg):Bool:=decide (x.p=y.p)&&decide (x.r=y.r)
def ZA (l:List Cg) (k:Nat):Int:=match l[k]? with
 | none=>0
 | some x=>Cq (CK x.p 8) (Cq (CK x.r 8) (Ae (!(l.take k).any (fun y=>KW y x)) 16))
def IE (m:AP) (k:Nat):Int:=match m.hosts[k]? with
 | none=>0
 | some t=>Ae (decide (0≤t∧t<m.types.length)) 30
def IG (m:AP) (k:Nat):Int:=match m.globs[k]? with
 | none=>0
 | some x=>Cq (Ae (M9 x.l.toNat) 15) (Ae (Dr x.v x.l.toNat) 17)
def Fu (m:AP):Int:=Ae (decide (0≤m.first∧m.first≤64∧m.first≤m.most∧m.most≤64)) 17
def KH (m:AP) (t:Int):Nat:=match m.types[t.toNat]? with
 | none=>0
 | some x=>x.p.size
def KX (f:Bv) (j:Nat):Int:=match f.code[j]? with
 | none=>0
 | some x=>Ar x
def FJ (m:AP) (k:Nat):Nat:=BG (fun f:Bv=>f.code.length) (m.fns.take k)
def UL (m:AP) (k:Nat):Int:=match m.fns[k]? with
 | none=>0
 | some f=>Cq (Ae (decide (0≤f.t∧f.t<m.types.length)) 30) (Cq (CK f.loc (64-KH m f.t)) (Cq (Ae (decide (f.code.length≤2048)) 20) (Cq (Ae (decide (FJ m (k+1)≤16384)) 20) (Aa f.code.length (KX f)))))
def LQ (m:AP) (k:Nat):Int:=match m.dat[k]? with
 | none=>0
 | some d=>Cq (Ae (decide (0≤d.at_∧d.at_≤m.first*4096)) 17) (Cq (if k=0 then 0 else match m.dat[k-1]? with | none=>0 | some y=>Ae (decide (y.at_+y.b.length<d.at_)) 18) (Cq (Ae (decide ((d.b.length:Int)≤m.first*4096-d.at_)) 13) (Ae (decide (0<d.b.length)) 17)))
def Ox (a b:ByteArray):Bool:=Op.bytesLess a.toList b.toList||a.toList==b.toList
def P5 (c:UInt8):Bool:=decide (32<c.toNat∧c.toNat<127)
def Np (s:ByteArray):Int:=Cq (Ae (decide (s.size≤32)) 13) (Cq (Ae (decide (0<s.size)) 23) (Ae (s.data.toList.all P5) 23))
def R3 (l:List KU) (k:Nat) (s:ByteArray):Int:=if k=0 then 0 else match l[k-1]? with
 | none=>0
 | some y=>Ae (!(Ox s y.n)) 18
def P6 (m:AP) (k:Nat):Int:=match m.Au[k]? with
 | none=>0
 | some x=>Cq (Np x.n) (Cq (R3 m.Au k x.n) (Ae (decide (0≤x.f∧x.f<m.fns.length)) 30))
def Dl (m:AP):Int:=Cq (Ae (decide (m.types.length≤64)) 20) (Aa m.types.length (ZA m.types))
def Dv (m:AP):Int:=Cq (Ae (decide (m.hosts.length≤32)) 20) (Aa m.hosts.length (IE m))
def FK (m:AP):Int:=Cq (Ae (decide (m.globs.length≤64)) 20) (Aa m.globs.length (IG m))
def I4 (m:AP):Int:=Cq (Dl m) (Cq (Dv m) (Cq (FK m) (Fu m)))
def Ja (m:AP):Int:=Cq (Ae (decide (m.fns.length≤128)) 20) (Aa m.fns.length (UL m))
def F5 (m:AP):Int:=Cq (Ae (decide (m.dat.length≤64)) 20) (Aa m.dat.length (LQ m))
def I5 (m:AP):Int:=Cq (Ae (decide (m.Au.length≤64)) 20) (Aa m.Au.length (P6 m))
def Ii (m:AP):Int:=Cq (Ja m) (Cq (F5 m) (I5 m))
def KI (m:AP):Int:=Cq (I4 m) (Ii m)
def Fp (s:ByteArray):List UInt8:=enc s.size++s.data.toList
def Lx (x:Cg):List UInt8:=Fp x.p++Fp x.r
def E_ (x:ED):Int:=if x.l.toNat=119∧2147483648≤x.v then(x.v:Int)-4294967296 else if x.v<9223372036854775808 then(x.v:Int) else(x.v:Int)-18446744073709551616
def F6 (x:ED):List UInt8:= [x.l,if x.m then 1 else 0]++enc (folded (E_ x))
def G_ (x:Ad):List UInt8:=match Aq x.op.toNat with
 | none=> []
 | some r=>x.op::(if r.takes=0 then [] else if r.takes=8 then enc (folded x.a) else if r.takes=3 then enc x.l.length++x.l.flatMap (fun n=>enc n.toNat) else enc x.a.toNat)
def Uv (f:Bv):List UInt8:=enc f.t.toNat++Fp f.loc++enc f.code.length++f.code.flatMap G_
def Jb (d:Gh):List UInt8:=enc d.at_.toNat++(enc d.b.length++d.b)
def KJ (x:KU):List UInt8:=Fp x.n++enc x.f.toNat
def N8 (m:AP):List UInt8:=enc m.types.length++m.types.flatMap Lx
def N9 (m:AP):List UInt8:=enc m.hosts.length++m.hosts.flatMap (fun t=>enc t.toNat)
def N_ (m:AP):List UInt8:=enc m.globs.length++m.globs.flatMap F6
def Nq (m:AP):List UInt8:=N8 m++(N9 m++(N_ m++(enc m.first.toNat++enc m.most.toNat)))
def R4 (m:AP):List UInt8:=(enc m.fns.length++m.fns.flatMap Uv)++((enc m.dat.length++m.dat.flatMap Jb)++(enc m.Au.length++m.Au.flatMap KJ))
def MO:List UInt8:= [70,76,71,78,1]
def KY (m:AP):List UInt8:=MO++(Nq m++R4 m)
def Gj (m:AP):Int:=Cq (KI m) (Ae (decide ((KY m).length≤65536)) 13)
theorem EN {α:Type} {f:α→List UInt8} {l:List α} {k:Nat} {x:α} (h:l[k]?=some x):(l.take (k+1)).flatMap f=(l.take k).flatMap f++f x:=by
 have hk:=(List.getElem?_eq_some_iff.1 h)
 rw [List.take_succ_eq_append_getElem hk.1,hk.2,List.flatMap_append]
 simp
theorem kG {α:Type} {f:α→List UInt8} {l:List α} {k:Nat} (h:k=l.length):(l.take k).flatMap f=l.flatMap f:=by
 rw [List.take_of_length_le (by omega)]
theorem Oy {α:Type} {f:α→List UInt8} {c:Nat}: ∀ {l:List α},(∀x∈l,(f x).length≤c)→(l.flatMap f).length≤l.length*c
 | [],_=>by simp
 | x::l,h=>by
  rw [List.flatMap_cons,List.length_append,List.length_cons,Nat.add_mul,Nat.one_mul]
  have h1:=h x (List.mem_cons_self ..)
  have h2:=Oy (fun y hy=>h y (List.mem_cons_of_mem _ hy)) (l:=l)
  omega
structure Bt where
 s:Cg
 pc:Int
 o:UInt8
 base:ByteArray
structure Cn where
 shape:ByteArray
 dead:Bool
 op:List Bt
 shapes:List ByteArray
 floors:List Int
 high:Nat
def Dm:ByteArray:=ByteArray.empty
def wS:ByteArray:=⟨#[119]⟩
def bP:Cg:=⟨Dm,Dm⟩
def Bo (o:Bt):ByteArray:=if o.o.toNat=3 then o.s.p else o.s.r
def Jc (s:Cg):Bt:=⟨⟨Dm,s.r⟩,-1,0,Dm⟩
def BU (st:Cn):Bt:=st.op.headD (Jc bP)
def AX (st:Cn):ByteArray:=st.shape.extract (BU st).base.size st.shape.size
def FE (n:Int) (c:Nat):Bool:=decide (0≤n∧n<c)
def B_ (m:AP) (t:Int):Cg:=m.types[t.toNat]?.getD bP
def RU (m:AP) (n:Int):Bv:=m.fns[n.toNat]?.getD ⟨0,Dm,[]⟩
def BL (l:List Bt) (n:Int):Option Bt:=if 0≤n then l[n.toNat]? else none
def Gl (l:List Bt) (n:Int):ByteArray:=match BL l n with
 | none=>Dm
 | some o=>Bo o
def BH (l:List Bt) (x:Ad):ByteArray×Int:=
 if x.op.toNat≠9 then(if(BL l x.a).isSome then(Gl l x.a,0) else(Dm,31)) else
 if x.l.all (fun n=>(BL l n).isSome) then
  (if x.l.all (fun n=>decide (Gl l n=Gl l (x.l.headD 0))) then(Gl l (x.l.headD 0),0) else(Dm,32))
 else(Dm,31)
def CS (m:AP) (f:Bv):ByteArray:=(B_ m f.t).p++f.loc
def BR (m:AP) (f:Bv) (x:Ad):ByteArray×Int:=
 if x.op.toNat=18∨x.op.toNat=19∨x.op.toNat=20 then
  (if FE x.a (CS m f).size then((CS m f).extract x.a.toNat (x.a.toNat+1),0) else(Dm,30))
 else match (if 0≤x.a then m.globs[x.a.toNat]? else none)with
  | none=>(Dm,30)
  | some g=>if x.op.toNat=22∧g.m=false then(Dm,39) else(⟨#[g.l]⟩,0)
def CO (m:AP) (x:Ad):Option Cg:=
 if x.op.toNat=11 then(if FE x.a m.fns.length then some (B_ m (RU m x.a).t) else none) else
 if x.op.toNat=12 then(if FE x.a m.hosts.length then some (B_ m (m.hosts[x.a.toNat]?.getD 0)) else none) else
 if FE x.a m.types.length then some (B_ m x.a) else none
def BI (m:AP) (f:Bv) (st:Cn) (x:Ad):ByteArray×ByteArray×Int:=match Aq x.op.toNat with
 | none=>(Dm,Dm,0)
 | some r=>
  if r.plain then(r.pops,r.pushes,0) else
  if x.op.toNat=0 then(Dm,Dm,0) else
  if x.op.toNat=2∨x.op.toNat=3∨x.op.toNat=4∨x.op.toNat=11∨x.op.toNat=12 then
   match CO m x with
   | none=>(Dm,Dm,30)
   | some t=>if x.op.toNat=4 then(t.p++wS,t.p,0) else if x.op.toNat<4 then(t.p,t.p,0) else(t.p,t.r,0)
  else
  if x.op.toNat=7 then((BH st.op x).1,(BH st.op x).1,(BH st.op x).2) else
  if x.op.toNat=8∨x.op.toNat=9 then((BH st.op x).1++wS,(BH st.op x).1,(BH st.op x).2) else
  if x.op.toNat=10 then((B_ m f.t).r,(B_ m f.t).r,0) else
  if x.op.toNat=16 then(if(AX st).size=0 then(wS,Dm,0) else((AX st).extract ((AX st).size-1) (AX st).size,Dm,0)) else
  if x.op.toNat=17 then(if(AX st).size<3 then(⟨#[119,119,119]⟩,wS,0) else
   (let y:=(AX st).extract ((AX st).size-2) ((AX st).size-1);(y++y++wS,y,0))) else
  if x.op.toNat=18∨x.op.toNat=21 then(Dm,(BR m f x).1,(BR m f x).2) else
  if x.op.toNat=20 then((BR m f x).1,(BR m f x).1,(BR m f x).2) else
  ((BR m f x).1,Dm,(BR m f x).2)
def DF (o:UInt8):Bool:=decide (o.toNat=0∨o.toNat=7∨o.toNat=9∨o.toNat=10)
def AZ (o:UInt8):Bool:=decide (o.toNat=5∨o.toNat=6)
def D_ (m:AP) (f:Bv) (AJ:List Int) (pc:Nat) (st:Cn) (x:Ad):Int⊕Cn:=
 if AZ x.op then
  (if st.shape≠(BU st).base++(BU st).s.r then .inl 33 else
   if x.op.toNat=5 then .inr {st with shape:=(BU st).base++(BU st).s.p,dead:=false} else
   if(BU st).o.toNat=4∧AJ.getD (BU st).pc.toNat (-1)<0∧(BU st).s.p≠(BU st).s.r then .inl 37 else
   .inr {st with op:=st.op.tail,dead:=false})
 else
  if(BI m f st x).2.2≠0 then .inl (BI m f st x).2.2 else
  if ends (AX st) (BI m f st x).1=false then .inl 33 else
  if 256<(st.shape.size-(BI m f st x).1.size)+(BI m f st x).2.1.size then .inl 34 else
  .inr {st with
   shape:=st.shape.extract 0 (st.shape.size-(BI m f st x).1.size)++(BI m f st x).2.1
   dead:=DF x.op
   op:=if Aw x.op then⟨B_ m x.a,pc,x.op,st.shape.extract 0 (st.shape.size-(BI m f st x).1.size)⟩::st.op else st.op
   floors:=if Aw x.op then st.floors.set pc ((st.shape.size-(BI m f st x).1.size:Nat):Int) else st.floors}
def Cr (st:Cn) (x:Ad):Int⊕Cn:=
 if st.dead then
  (if AZ x.op=false then .inl 36 else
   if 256<(BU st).base.size+(BU st).s.r.size then .inl 34 else .inr {st with shape:=(BU st).base++(BU st).s.r})
 else .inr st
def Cy (st:Cn):Cn:= {st with shapes:=st.shapes++ [st.shape],floors:=st.floors++ [-1],high:=max st.high st.shape.size}
def EF (m:AP) (f:Bv) (AJ:List Int) (pc:Nat) (st:Cn) (x:Ad):Int⊕Cn:=
 match Cr st x with
 | .inl e=> .inl e
 | .inr st1=>D_ m f AJ pc (Cy st1) x
def P7 (m:AP) (f:Bv) (AJ:List Int):Nat→Cn→(Int×Int)⊕Cn
 | 0,st=> .inr st
 | n+1,st=>match f.code[f.code.length-(n+1)]? with
  | none=> .inr st
  | some x=>match EF m f AJ (f.code.length-(n+1)) st x with
   | .inl e=> .inl (e,((f.code.length-(n+1):Nat):Int))
   | .inr st'=>P7 m f AJ n st'
def CY (m:AP) (f:Bv):Cn:=⟨Dm,false,[Jc (B_ m f.t)],[],[],0⟩
def GY (m:AP) (f:Bv):(Int×Int)⊕Dz:=match ctl f.code with
 | .inl e=> .inl e
 | .inr c=>match P7 m f c.AJ f.code.length (CY m f)with
  | .inl e=> .inl e
  | .inr st=> .inr ⟨st.shapes,c.ends,c.AJ,st.floors,st.high⟩
def Jd (m:AP):Nat→List Dz→(Int×Int×Int)⊕List Dz
 | 0,l=> .inr l
 | n+1,l=>match m.fns[m.fns.length-(n+1)]? with
  | none=> .inr l
  | some f=>match GY m f with
   | .inl e=> .inl (e.1,((m.fns.length-(n+1):Nat):Int),e.2)
   | .inr t=>Jd m n (l++ [t])
def F7 (m:AP):(Int×Int×Int)⊕List Dz:=
 if Gj m≠0 then .inl (Gj m,-1,0) else Jd m m.fns.length []
def Chain (A_:List Int):List Nat→Prop
 | []=>True
 | p::r=>A_[p]?=some (EL r)∧Chain A_ r
theorem Chain.keep {o o':List Int}: ∀ {l:List Nat},Chain o l→(∀p∈l,o'[p]?=o[p]?)→Chain o' l
 | [],_,_=>trivial
 | p::r,h,hk=>⟨(hk p (List.mem_cons_self ..)).trans h.1,Chain.keep h.2 fun q hq=>hk q (List.mem_cons_of_mem _ hq)⟩
theorem Je {code:List Ad} {st st':Ai} {pc:Nat} (hs:Ah code st pc= .inr st'):st'.A_=st.A_.set pc (EL st.op):=by
 unfold Ah at hs
 split at hs
 ·cases hs
 split at hs
 ·cases hs
 split at hs
 ·split at hs
  ·cases hs
  ·injection hs with hs;subst hs;rfl
 split at hs
 ·split at hs
  ·cases hs
  split at hs
  ·injection hs with hs;subst hs;rfl
  ·cases hs
 split at hs
 ·split at hs
  ·injection hs with hs;subst hs;rfl
  ·injection hs with hs;subst hs;rfl
 ·injection hs with hs;subst hs;rfl
theorem LU {code:List Ad}: ∀(n:Nat) {st c:Ai},n≤code.length→IC code n st= .inr c→ ∀j,j<code.length-n→c.A_[j]?=st.A_[j]?
 | 0,st,c,_,h,j,_=>by
  unfold IC at h
  split at h
  ·injection h with h;rw [h]
  ·cases h
 | n+1,st,c,hn,h,j,hj=>by
  unfold IC at h
  cases hs:Ah code st (code.length-(n+1))with
  | inl e=>rw [hs] at h;cases h
  | inr st'=>
   rw [hs] at h
   rw [LU n (by omega) h j (by omega),Je hs,List.getElem?_set_ne (by omega)]
theorem OA {code:List Ad} {st st':Ai} {pc:Nat} {x:Ad} (hx:code[pc]?=some x) (hs:Ah code st pc= .inr st'):
 st.done=false∧((Aw x.op=true∧st'.op=pc::st.op∧st'.done=false)∨
 (Aw x.op=false∧x.op.toNat=6∧st.op= []∧st'.op= []∧st'.done=true)∨
 (Aw x.op=false∧x.op.toNat=6∧(∃p,st.op=p::st'.op)∧st'.done=false)∨
 (Aw x.op=false∧x.op.toNat=5∧st'.op=st.op∧st'.done=false∧ ∃p r,st.op=p::r∧opAt code p=4)∨
 (Aw x.op=false∧x.op.toNat≠5∧x.op.toNat≠6∧st'.op=st.op∧st'.done=false)):=by
 unfold Ah at hs
 split at hs
 ·cases hs
 rename_i hd
 have hd:st.done=false:=by simpa using hd
 rw [hx] at hs
 dsimp only at hs
 refine⟨hd,?_⟩
 split at hs
 ·rename_i ho
  split at hs
  ·cases hs
  ·injection hs with hs;subst hs;exact .inl ⟨ho,rfl,hd⟩
 rename_i ho
 have ho:Aw x.op=false:=by simpa using ho
 split at hs
 ·rename_i h5
  split at hs
  ·cases hs
  ·rename_i p r hop
   split at hs
   ·rename_i h4
    injection hs with hs;subst hs
    exact .inr (.inr (.inr (.inl ⟨ho,h5,rfl,hd,p,r,hop,h4.1⟩)))
   ·cases hs
 rename_i h5
 split at hs
 ·rename_i h6
  split at hs
  ·rename_i hop
   injection hs with hs;subst hs
   exact .inr (.inl ⟨ho,h6,hop,hop,rfl⟩)
  ·rename_i p r hop
   injection hs with hs;subst hs
   exact .inr (.inr (.inl ⟨ho,h6,⟨p,hop⟩,hd⟩))
 ·rename_i h6
  injection hs with hs;subst hs
  exact .inr (.inr (.inr (.inr ⟨ho,h5,h6,rfl,hd⟩)))
theorem ZT {code:List Ad} {st st':Ai} {pc:Nat} {x:Ad} (h:MJ code.length pc st) (hx:code[pc]?=some x) (hs:Ah code st pc= .inr st') (hc:Chain st.A_ st.op):Chain st'.A_ st'.op:=by
 have hlt:=(List.getElem?_eq_some_iff.1 hx).1
 have hw:=Je hs
 have hk:Chain st'.A_ st.op:=hc.keep fun p hp=>by
  have:=h.low p hp
  rw [hw,List.getElem?_set_ne (by omega)]
 have hat:st'.A_[pc]?=some (EL st.op):=by rw [hw,List.getElem?_set_self (by rw [h.A_];exact hlt)]
 rcases(OA hx hs).2 with⟨_,e,_⟩ | ⟨_,_,_,e,_⟩ | ⟨_,_,⟨p,e⟩,_⟩ | ⟨_,_,e,_⟩ | ⟨_,_,_,e,_⟩
 ·rw [e];exact⟨hat,hk⟩
 ·rw [e];trivial
 ·rw [e] at hk;exact hk.2
 ·rw [e];exact hk
 ·rw [e];exact hk
def ownB (o:Nat):Bool:=decide (o=0∨(2≤o∧o≤12)∨(16≤o∧o≤22))
theorem RV: ∀r∈Dn,r.plain= !(ownB r.op):=by
 have h:Dn.all (fun r=>decide (r.plain= !(ownB r.op)))=true:=by kernel_rfl
 exact fun r hr=>of_decide_eq_true (List.all_eq_true.1 h r hr)
theorem Jf {n:Nat} {r:ZL} (h:Aq n=some r):r∈Dn∧r.op=n:=by
 unfold Aq at h
 have h1:=List.mem_of_find?_eq_some h
 have h2:=List.find?_some h
 exact⟨h1,by simpa using h2⟩
def OC (m:AP) (f:Bv) (shapes:List ByteArray) (floors:List Int) (o:Bt):Prop:=
 o=Jc (B_ m f.t)∨ ∃(p n:Nat) (y:Ad) (s:ByteArray),o.pc=p∧p<shapes.length∧f.code[p]?=some y∧Aw y.op=true∧o.o=y.op∧FE y.a m.types.length=true∧o.s=B_ m y.a∧
  shapes[p]?=some s∧floors[p]?=some (n:Int)∧n≤s.size∧o.base=s.extract 0 n∧n+o.s.p.size≤256
structure Qh (m:AP) (f:Bv) (sc:Ai) (pc:Nat) (st:Cn):Prop where
 shapes:st.shapes.length=pc
 floors:st.floors.length=pc
 size:st.shape.size≤256
 xX:st.op.map (·.pc)=sc.op.map Int.ofNat++(if sc.done then [] else [-1])
 each: ∀o∈st.op,OC m f st.shapes st.floors o
 mono:st.op.Pairwise (fun a b=>b.base.size≤a.base.size)
 top:st.dead=false→(BU st).base.size≤st.shape.size
 bnd: ∀s∈st.shapes,s.size≤256
 high:st.high≤256
 fl: ∀v∈st.floors,-1≤v∧v≤256
theorem OC.keep {m:AP} {f:Bv} {l l':List ByteArray} {k k':List Int} {o:Bt} (h:OC m f l k o) (hl:l.length≤l'.length) (h1: ∀p,p<l.length→l'[p]?=l[p]?) (h2: ∀p,p<l.length→k'[p]?=k[p]?):OC m f l' k' o:=by
 rcases h with h | ⟨p,n,y,s,a1,a2,a3,a4,a5,a6,a7,a8,a9,XF,Uw,a12⟩
 ·exact .inl h
 ·exact .inr ⟨p,n,y,s,a1,by omega,a3,a4,a5,a6,a7,by rw [h1 p a2];exact a8,by rw [h2 p a2];exact a9,XF,Uw,a12⟩
theorem OC.size {m:AP} {f:Bv} {l:List ByteArray} {k:List Int} {o:Bt} (h:OC m f l k o) (hb: ∀s∈l,s.size≤256):o.base.size≤256:=by
 rcases h with rfl | ⟨p,n,y,s,a1,a2,a3,a4,a5,a6,a7,a8,a9,XF,Uw,a12⟩
 ·simp [Jc,Dm]
 ·rw [Uw,ByteArray.size_extract]
  have:=hb s (List.mem_of_getElem? a8)
  omega
theorem OC.room {m:AP} {f:Bv} {l:List ByteArray} {k:List Int} {o:Bt} (h:OC m f l k o):o.base.size+o.s.p.size≤256:=by
 rcases h with rfl | ⟨p,n,y,s,a1,a2,a3,a4,a5,a6,a7,a8,a9,XF,Uw,a12⟩
 ·simp [Jc,Dm]
 ·rw [Uw,ByteArray.size_extract];omega
theorem XU (m:AP) (f:Bv) (n:Nat):Qh m f (Cw n) 0 (CY m f):=
 ⟨rfl,rfl,by simp [CY,Dm],by simp [CY,Cw,Jc],fun o ho=> .inl (by simpa [CY] using ho),by simp [CY],fun _=>by simp [BU,CY,Jc,Dm],fun s hs=>by simp [CY] at hs,by simp [CY],fun v hv=>by simp [CY] at hv⟩
theorem DR (st:Cn):(AX st).size=st.shape.size-(BU st).base.size:=by
 unfold AX
 rw [ByteArray.size_extract]
 omega
theorem Qh.ne {m:AP} {f:Bv} {sc:Ai} {pc:Nat} {st:Cn} (h:Qh m f sc pc st) (hd:sc.done=false): ∃o r,st.op=o::r:=by
 cases hop:st.op with
 | nil=>have:=h.xX;rw [hop,hd] at this;simp at this
 | cons o r=>exact⟨o,r,rfl⟩
theorem P8 {m:AP} {f:Bv} {sc:Ai} {pc:Nat} {st st1:Cn} {x:Ad} (h:Qh m f sc pc st) (hb:Cr st x= .inr st1):
 st1.op=st.op∧st1.shapes=st.shapes∧st1.floors=st.floors∧st1.high=st.high∧st1.shape.size≤256∧(BU st).base.size≤st1.shape.size:=by
 unfold Cr at hb
 split at hb
 ·split at hb
  ·cases hb
  split at hb
  ·cases hb
  ·injection hb with hb;subst hb
   refine⟨rfl,rfl,rfl,rfl,?_,?_⟩<;>simp only [ByteArray.size_append]<;>omega
 ·rename_i hd
  injection hb with hb;subst hb
  exact⟨rfl,rfl,rfl,rfl,h.size,h.top (by simpa using hd)⟩
theorem R5 {m:AP} {f:Bv} {sc:Ai} {pc:Nat} {st st1:Cn} {x:Ad} (h:Qh m f sc pc st) (hb:Cr st x= .inr st1):
 let s2:=Cy st1
 s2.op=st.op∧s2.shapes.length=pc+1∧s2.floors.length=pc+1∧s2.shapes[pc]?=some s2.shape∧s2.shape.size≤256∧(BU s2).base.size≤s2.shape.size∧(∀o∈st.op,OC m f s2.shapes s2.floors o)∧
  (∀s∈s2.shapes,s.size≤256)∧s2.high≤256∧(∀v∈s2.floors,-1≤v∧v≤256):=by
 obtain⟨h1,h2,h3,h4,h5,h6⟩:=P8 h hb
 dsimp only
 refine⟨h1,?_,?_,?_,h5,?_,?_,?_,?_,?_⟩
 ·simp [Cy,h2,h.shapes]
 ·simp [Cy,h3,h.floors]
 ·simp only [Cy];rw [h2,List.getElem?_append_right (by rw [h.shapes];exact Nat.le_refl _),h.shapes,Nat.sub_self];rfl
 ·have:BU (Cy st1)=BU st:=by unfold BU Cy;rw [h1]
  rw [this];exact h6
 ·intro o ho
  refine(h.each o ho).keep (by simp [Cy,h2]) (fun p hp=> ?_) (fun p hp=> ?_)
  ·simp only [Cy];rw [h2,List.getElem?_append_left hp]
  ·simp only [Cy];rw [h3,List.getElem?_append_left (by rw [h.floors,←h.shapes];exact hp)]
 ·intro s hs
  simp only [Cy,List.mem_append,List.mem_singleton] at hs
  rcases hs with hs | rfl
  ·exact h.bnd s (h2▸hs)
  ·exact h5
 ·simp only [Cy];rw [h4];have:=h.high;omega
 ·intro v hv
  simp only [Cy,List.mem_append,List.mem_singleton] at hv
  rcases hv with hv | rfl
  ·exact h.fl v (h3▸hv)
  ·omega
theorem kH {m:AP} {f:Bv} {st:Cn} {x:Ad} (hr:(Aq x.op.toNat).isSome=true) (ho:Aw x.op=true) (he:(BI m f st x).2.2=0):FE x.a m.types.length=true:=by
 obtain⟨r,hr⟩:=Option.isSome_iff_exists.1 hr
 have hm:=Jf hr
 have hp:=RV r hm.1
 unfold Aw at ho
 have ho:=of_decide_eq_true ho
 have h1:ownB r.op=true:=by rw [hm.2];unfold ownB;exact decide_eq_true (by omega)
 rw [h1] at hp
 unfold BI at he
 rw [hr] at he
 simp only [hp,Bool.not_true,Bool.false_eq_true,if_false] at he
 rw [if_neg (by omega),if_pos (by omega)] at he
 unfold CO at he
 rw [if_neg (by omega),if_neg (by omega)] at he
 by_cases hi:FE x.a m.types.length=true
 ·exact hi
 ·rw [if_neg hi] at he
  simp at he
theorem R6 {m:AP} {f:Bv} {st:Cn} {x:Ad} (hr:(Aq x.op.toNat).isSome=true) (ho:Aw x.op=true) (hi:FE x.a m.types.length=true):
 BI m f st x=(if x.op.toNat=4 then(B_ m x.a).p++wS else(B_ m x.a).p,(B_ m x.a).p,0):=by
 obtain⟨r,hr⟩:=Option.isSome_iff_exists.1 hr
 have hm:=Jf hr
 have hp:=RV r hm.1
 unfold Aw at ho
 have ho:=of_decide_eq_true ho
 have h1:ownB r.op=true:=by rw [hm.2];unfold ownB;exact decide_eq_true (by omega)
 rw [h1] at hp
 unfold BI
 rw [hr]
 simp only [hp,Bool.not_true,Bool.false_eq_true,if_false]
 rw [if_neg (by omega),if_pos (by omega)]
 unfold CO
 rw [if_neg (by omega),if_neg (by omega),if_pos hi]
 by_cases h4:x.op.toNat=4
 ·simp [h4]
 ·simp only [h4,if_false];rw [if_pos (by omega)]
theorem Ux {s t:ByteArray} (h: ¬ends s t=false):t.size≤s.size:=LP s t (by simpa using h)
theorem ZU {m:AP} {f:Bv} {sc sc':Ai} {pc:Nat} {st st':Cn} {x:Ad} {AJ:List Int} (h:Qh m f sc pc st) (hx:f.code[pc]?=some x) (hc:Ah f.code sc pc= .inr sc') (hr:(Aq x.op.toNat).isSome=true)
 (hty: ∀t:Cg,t∈m.types→t.p.size≤8∧t.r.size≤8) (hs:EF m f AJ pc st x= .inr st'):Qh m f sc' (pc+1) st':=by
 unfold EF at hs
 cases hb:Cr st x with
 | inl e=>rw [hb] at hs;cases hs
 | inr st1=>
  rw [hb] at hs
  dsimp only at hs
  obtain⟨hd,rW⟩:=OA hx hc
  obtain⟨o,rr,hop⟩:=h.ne hd
  obtain⟨n1,n2,n3,n4,n5,n6,n7,n8,n9,n10⟩:=R5 h hb
  generalize Cy st1=s2 at*
  have hto:BU s2=o:=by unfold BU;rw [n1,hop];rfl
  have ACu: ∀a,(B_ m a).p.size≤8∧(B_ m a).r.size≤8:=fun a=>by
   unfold B_
   cases hg:m.types[a.toNat]? with
   | none=>simp [bP,Dm]
   | some t=>exact hty t (List.mem_of_getElem? hg)
  have hosz:o.s.p.size≤8∧o.s.r.size≤8:=by
   rcases h.each o (by rw [hop];exact List.mem_cons_self ..)with e | ⟨p,n,y,s,a1,a2,a3,a4,a5,a6,a7,a8,a9,XF,Uw,a12⟩
   ·rw [e];exact⟨by simp [Jc,Dm],(ACu f.t).2⟩
   ·rw [a7];exact ACu _
  have hpw:=h.mono
  rw [hop] at hpw
  unfold D_ at hs
  by_cases hcl:AZ x.op=true
  ·rw [if_pos hcl] at hs
   have hcl':=of_decide_eq_true hcl
   have hno:Aw x.op=false:=by unfold Aw;exact decide_eq_false (by omega)
   split at hs
   ·cases hs
   rename_i hsh
   have hsh:s2.shape=(BU s2).base++(BU s2).s.r:=by simpa using hsh
   rw [hto] at hsh
   split at hs
   ·rename_i h5
    injection hs with hs;subst hs
    have hop':sc'.op=sc.op∧sc'.done=false:=by
     rcases rW with⟨a,_⟩ | ⟨_,a,_⟩ | ⟨_,a,_⟩ | ⟨_,_,a,b,_⟩ | ⟨_,a,_⟩
     ·rw [a] at hno;cases hno
     ·omega
     ·omega
     ·exact⟨a,b⟩
     ·omega
    refine⟨n2,n3,?_,?_,?_,?_,?_,n8,n9,n10⟩
    ·simp only [ByteArray.size_append,hto]
     exact(h.each o (by rw [hop];exact List.mem_cons_self ..)).room
    ·simp only [n1,hop'.1,hop'.2];have:=h.xX;rw [hd] at this;exact this
    ·rw [show({s2 with shape:=(BU s2).base++(BU s2).s.p,dead:=false}:Cn).op=st.op from n1];exact n7
    ·rw [show({s2 with shape:=(BU s2).base++(BU s2).s.p,dead:=false}:Cn).op=st.op from n1];exact h.mono
    ·intro _
     show(BU s2).base.size≤_
     simp
   ·split at hs
    ·cases hs
    rename_i h5 _
    injection hs with hs;subst hs
    have hop':sc'.op.map Int.ofNat++(if sc'.done then [] else [-1])=rr.map (·.pc):=by
     have hp:=h.xX
     rw [hop,hd] at hp
     rcases rW with⟨a,_⟩ | ⟨_,_,a,b,c⟩ | ⟨_,_,⟨p,a⟩,b⟩ | ⟨_,a,_⟩ | ⟨_,a,b,_⟩
     ·rw [a] at hno;cases hno
     ·rw [a] at hp;simp at hp;simp [b,c,hp.2]
     ·rw [a] at hp;simp at hp;simp [b,hp.2]
     ·omega
     ·omega
    have htl:({s2 with op:=s2.op.tail,dead:=false}:Cn).op=rr:=by show s2.op.tail=rr;rw [n1,hop];rfl
    refine⟨n2,n3,n5,?_,?_,?_,?_,n8,n9,n10⟩
    ·rw [htl];exact hop'.symm
    ·rw [htl];exact fun q hq=>n7 q (by rw [hop];exact List.mem_cons_of_mem _ hq)
    ·rw [htl];exact(List.pairwise_cons.1 hpw).2
    ·intro _
     unfold BU
     rw [htl]
     show _≤s2.shape.size
     rw [hto] at n6
     cases rr with
     | nil=>simp [Jc,Dm]
     | cons q rr'=>
      have:=(List.pairwise_cons.1 hpw).1 q (List.mem_cons_self ..)
      simp;omega
  ·rw [if_neg hcl] at hs
   have hcl': ¬(x.op.toNat=5∨x.op.toNat=6):=fun e=>hcl (decide_eq_true e)
   split at hs
   ·cases hs
   rename_i he
   have he:(BI m f s2 x).2.2=0:=by simpa using he
   split at hs
   ·cases hs
   rename_i hen
   split at hs
   ·cases hs
   rename_i hroom
   have hsz:=Ux hen
   rw [DR,hto] at hsz
   rw [hto] at n6
   injection hs with hs;subst hs
   by_cases ho:Aw x.op=true
   ·have hin:=kH hr ho he
    have hop':sc'.op=pc::sc.op∧sc'.done=false:=by
     rcases rW with⟨_,a⟩ | ⟨a,_⟩ | ⟨a,_⟩ | ⟨a,_⟩ | ⟨a,_⟩
     ·exact a
     all_goals rw [a] at ho;cases ho
    have hroom':=hroom
    have hpush:(BI m f s2 x).2.1=(B_ m x.a).p:=by rw [R6 hr ho hin]
    simp only [ho,if_true]
    refine⟨n2,by simp [n3],?_,?_,?_,?_,?_,n8,n9,?_⟩
    ·simp only [ByteArray.size_append,ByteArray.size_extract];omega
    ·simp only [List.map_cons,n1,hop'.1,hop'.2]
     have hp:=h.xX;rw [hd] at hp
     rw [hp];rfl
    ·intro q hq
     simp only [List.mem_cons] at hq
     rcases hq with rfl | hq
     ·refine .inr ⟨pc,s2.shape.size-(BI m f s2 x).1.size,x,s2.shape,rfl,by rw [n2];omega,hx,ho,rfl,hin,rfl,n4,?_,by omega,rfl,?_⟩
      ·simp only [];rw [List.getElem?_set_self (by omega)]
      ·rw [hpush] at hroom;simp only [];omega
     ·rw [n1] at hq
      rcases n7 q hq with e | ⟨p,n,y,s,a1,a2,a3,a4,a5,a6,a7,a8,a9,XF,Uw,a12⟩
      ·exact .inl e
      ·refine .inr ⟨p,n,y,s,a1,a2,a3,a4,a5,a6,a7,a8,?_,XF,Uw,a12⟩
       have hlt:p<pc:=by
        rcases h.each q hq with e | ⟨p',n',y',s',b1,b2,_⟩
        ·rw [e] at a1;simp [Jc] at a1
        ·rw [h.shapes] at b2;omega
       simp only [];rw [List.getElem?_set_ne (by omega)];exact a9
    ·simp only [n1]
     refine List.pairwise_cons.2 ⟨fun q hq=> ?_,h.mono⟩
     rw [hop] at hq
     have hq':q.base.size≤o.base.size:=by
      rcases List.mem_cons.1 hq with rfl | hq
      ·exact Nat.le_refl _
      ·exact(List.pairwise_cons.1 hpw).1 q hq
     simp only [ByteArray.size_extract];omega
    ·intro _
     simp only [BU,List.headD_cons,ByteArray.size_append,ByteArray.size_extract];omega
    ·intro v hv
     rcases List.mem_or_eq_of_mem_set hv with hv | rfl
     ·exact n10 v hv
     ·omega
   ·have ho:Aw x.op=false:=by simpa using ho
    have hop':sc'.op=sc.op∧sc'.done=false:=by
     rcases rW with⟨a,_⟩ | ⟨_,a,_⟩ | ⟨_,a,_⟩ | ⟨_,a,_⟩ | ⟨_,_,_,a,b⟩
     ·rw [a] at ho;cases ho
     ·omega
     ·omega
     ·omega
     ·exact⟨a,b⟩
    simp only [ho,Bool.false_eq_true,if_false]
    refine⟨n2,n3,?_,?_,?_,?_,?_,n8,n9,n10⟩
    ·simp only [ByteArray.size_append,ByteArray.size_extract];omega
    ·simp only [n1,hop'.1,hop'.2];have hp:=h.xX;rw [hd] at hp;exact hp
    ·simp only [n1];exact n7
    ·simp only [n1];exact h.mono
    ·intro _
     unfold BU at hto⊢
     simp only [hto,ByteArray.size_append,ByteArray.size_extract];omega
theorem kI {m:AP} {f:Bv} {AJ:List Int} {pc:Nat} {st st':Cn} {x:Ad} (h:EF m f AJ pc st x= .inr st'):
 ∃sh,st'.shapes=st.shapes++ [sh]∧(x.op.toNat=11→(B_ m (RU m x.a).t).p.size≤sh.size):=by
 unfold EF at h
 cases hb:Cr st x with
 | inl e=>rw [hb] at h;cases h
 | inr st1=>
  rw [hb] at h
  dsimp only at h
  have hs1:st1.shapes=st.shapes:=by
   unfold Cr at hb
   split at hb
   ·split at hb
    ·cases hb
    split at hb
    ·cases hb
    ·injection hb with hb;subst hb;rfl
   ·injection hb with hb;subst hb;rfl
  have hn:(Cy st1).shapes=st.shapes++ [st1.shape]:=by show st1.shapes++ [st1.shape]=_;rw [hs1]
  have hsh:(Cy st1).shape=st1.shape:=rfl
  refine⟨st1.shape,?_,fun h11=> ?_⟩
  ·rw [←hn]
   generalize Cy st1=s2 at h
   unfold D_ at h
   split at h
   ·split at h
    ·cases h
    split at h
    ·injection h with h;subst h;rfl
    split at h
    ·cases h
    ·injection h with h;subst h;rfl
   ·split at h
    ·cases h
    split at h
    ·cases h
    split at h
    ·cases h
    ·injection h with h;subst h;rfl
  ·rw [←hsh]
   generalize Cy st1=s2 at h
   unfold D_ at h
   have hc:AZ x.op=false:=by unfold AZ;exact decide_eq_false (by omega)
   rw [if_neg (by rw [hc];decide)] at h
   split at h
   ·cases h
   rename_i he
   split at h
   ·cases h
   rename_i hen
   have hsz:=Ux hen
   rw [DR] at hsz
   have hr:(Aq 11).map (·.plain)=some false:=by kernel_rfl
   obtain⟨r,hr1,hr2⟩:=Option.map_eq_some_iff.1 hr
   have hef:BI m f s2 x=match CO m x with
    | none=>(Dm,Dm,30)
    | some t=>(t.p,t.r,0):=by
    unfold BI
    rw [h11,hr1]
    simp only [hr2]
    cases CO m x<;>rfl
   have hty:CO m x=if FE x.a m.fns.length then some (B_ m (RU m x.a).t) else none:=by
    unfold CO;rw [if_pos h11]
   rw [hef,hty] at he hsz
   by_cases hi:FE x.a m.fns.length=true
   ·rw [if_pos hi] at hsz;dsimp only at hsz;omega
   ·rw [if_neg hi] at he;exact absurd he (by decide)
theorem kJ {m:AP} {f:Bv} {AJ:List Int}: ∀(n:Nat) (st st':Cn),P7 m f AJ n st= .inr st'→n≤f.code.length→st.shapes.length=f.code.length-n→
 st'.shapes.length=f.code.length∧(∀p,p<f.code.length-n→st'.shapes[p]?=st.shapes[p]?)∧
 ∀(p:Nat) (x:Ad) (sh:ByteArray),f.code.length-n≤p→f.code[p]?=some x→st'.shapes[p]?=some sh→x.op.toNat=11→(B_ m (RU m x.a).t).p.size≤sh.size
 | 0,st,st',h,hn,hl=>by
  injection h with h;subst h
  refine⟨by omega,fun _ _=>rfl,fun p x sh hp hx=> ?_⟩
  have:=(List.getElem?_eq_some_iff.1 hx).1
  omega
 | n+1,st,st',h,hn,hl=>by
  have hlt:f.code.length-(n+1)<f.code.length:=by omega
  have hx:f.code[f.code.length-(n+1)]?=some f.code[f.code.length-(n+1)]:=List.getElem?_eq_getElem hlt
  unfold P7 at h
  rw [hx] at h
  dsimp only at h
  cases hs:EF m f AJ (f.code.length-(n+1)) st f.code[f.code.length-(n+1)] with
  | inl e=>rw [hs] at h;cases h
  | inr s1=>
   rw [hs] at h
   dsimp only at h
   obtain⟨sh,h1,h2⟩:=kI hs
   have hl1:s1.shapes.length=f.code.length-n:=by rw [h1,List.length_append,hl];simp;omega
   obtain⟨g1,g2,g3⟩:=kJ n s1 st' h (by omega) hl1
   have hq:f.code.length-n=f.code.length-(n+1)+1:=by omega
   refine⟨g1,fun p hp=> ?_,fun p x sh' hp hxp hsp h11=> ?_⟩
   ·rw [g2 p (by omega),h1,List.getElem?_append_left (by omega)]
   ·by_cases e:p=f.code.length-(n+1)
    ·subst e
     rw [g2 _ (by omega),h1,List.getElem?_append_right (by omega),hl,Nat.sub_self] at hsp
     injection hsp with hsp
     rw [hx] at hxp
     injection hxp with hxp
     subst hxp
     rw [←hsp]
     exact h2 h11
    ·exact g3 p x sh' (by omega) hxp hsp h11
theorem rX {m:AP} {f:Bv} {tb:Dz} (h:GY m f= .inr tb):
 tb.shapes.length=f.code.length∧ ∀(p:Nat) (x:Ad) (sh:ByteArray),f.code[p]?=some x→tb.shapes[p]?=some sh→x.op.toNat=11→(B_ m (RU m x.a).t).p.size≤sh.size:=by
 unfold GY at h
 cases hc:ctl f.code with
 | inl e=>rw [hc] at h;cases h
 | inr c=>
  rw [hc] at h
  dsimp only at h
  cases hg:P7 m f c.AJ f.code.length (CY m f)with
  | inl e=>rw [hg] at h;cases h
  | inr st=>
   rw [hg] at h
   injection h with h;subst h
   obtain⟨g1,g2,g3⟩:=kJ f.code.length _ st hg (Nat.le_refl _) (by simp [CY])
   exact⟨g1,fun p x sh hx hs h11=>g3 p x sh (by omega) hx hs h11⟩
theorem Uy {m:AP}: ∀(n:Nat) (l t:List Dz),Jd m n l= .inr t→n≤m.fns.length→l.length=m.fns.length-n→
 (∀(k:Nat) (f:Bv),k<m.fns.length-n→m.fns[k]?=some f→ ∃tb:Dz,l[k]?=some tb∧GY m f= .inr tb)→
 t.length=m.fns.length∧ ∀(k:Nat) (f:Bv),m.fns[k]?=some f→ ∃tb:Dz,t[k]?=some tb∧GY m f= .inr tb
 | 0,l,t,h,hn,hl,ha=>by
  injection h with h;subst h
  exact⟨by omega,fun k f hf=>ha k f (by have:=(List.getElem?_eq_some_iff.1 hf).1;omega) hf⟩
 | n+1,l,t,h,hn,hl,ha=>by
  have hlt:m.fns.length-(n+1)<m.fns.length:=by omega
  have hx:m.fns[m.fns.length-(n+1)]?=some m.fns[m.fns.length-(n+1)]:=List.getElem?_eq_getElem hlt
  unfold Jd at h
  rw [hx] at h
  dsimp only at h
  cases hs:GY m m.fns[m.fns.length-(n+1)] with
  | inl e=>rw [hs] at h;cases h
  | inr tb=>
   rw [hs] at h
   dsimp only at h
   refine Uy n (l++ [tb]) t h (by omega) (by rw [List.length_append,hl];simp;omega) fun k f hk hf=> ?_
   by_cases e:k=m.fns.length-(n+1)
   ·subst e
    rw [hx] at hf;injection hf with hf;subst hf
    exact⟨tb,by rw [List.getElem?_append_right (by omega),hl,Nat.sub_self];rfl,hs⟩
   ·obtain⟨tb',h1,h2⟩:=ha k f (by omega) hf
    exact⟨tb',by rw [List.getElem?_append_left (by omega)];exact h1,h2⟩
theorem rY {m:AP} {t:List Dz} (h:F7 m= .inr t):Gj m=0∧t.length=m.fns.length∧ ∀(k:Nat) (f:Bv),m.fns[k]?=some f→ ∃tb:Dz,t[k]?=some tb∧GY m f= .inr tb:=by
 unfold F7 at h
 split at h
 ·cases h
 ·rename_i h0
  obtain⟨a,b⟩:=Uy m.fns.length [] t h (Nat.le_refl _) (by simp) (fun k f hk=>by omega)
  exact⟨by simpa using h0,a,b⟩
def FB (g:ED) (v:Nat):Bool:=Dr v g.l.toNat&&(g.m||decide (v=g.v))
def Cz:List ED→List Nat→Bool
 | [],[]=>true
 | g::gs,v::vs=>FB g v&&Cz gs vs
 | _,_=>false
theorem JC: ∀ {gs:List ED} {vs:List Nat},gs.length≠vs.length→Cz gs vs=false
 | [],[],h=>absurd rfl h
 | [],_::_,_=>rfl
 | _::_,[],_=>rfl
 | g::gs,v::vs,h=>by
  unfold Cz
  rw [JC (by simpa using h),Bool.and_false]
theorem Qi {gs:List ED} {vs:List Nat} {k:Nat} {g:ED} {v:Nat} (hg:gs[k]?=some g) (hv:vs[k]?=some v):
 Cz (gs.drop k) (vs.drop k)=(FB g v&&Cz (gs.drop (k+1)) (vs.drop (k+1))):=by
 obtain⟨h1,rfl⟩:=List.getElem?_eq_some_iff.1 hg
 obtain⟨h2,rfl⟩:=List.getElem?_eq_some_iff.1 hv
 rw [List.drop_eq_getElem_cons h1,List.drop_eq_getElem_cons h2]
 rfl
def Ct (m:AP) (s:FH) (i:Nat):Bool:=
 if i=0 then decide (s.end_=1∨s.end_=2∨s.end_=3) else
 if i=1 then decide (s.end_=1∧1≤s.frames.length∧s.frames.length≤64∨s.end_≠1∧s.frames.length=0) else
 if i=2 then decide (s.res.length=0∨s.end_=2∧s.res.length≤8) else
 if i=3 then decide (s.end_=3∧1≤s.trap∧s.trap≤6∨s.end_≠3∧s.trap=0) else
 if i=4 then decide (0≤s.used∧s.used≤4611686018427387904) else
 if i=5 then decide (0≤s.Bj) else
 if i=6 then Cz m.globs s.globs else
 decide (m.first≤s.pages.length∧(s.pages.length:Int)≤m.most)&&s.pages.all (fun p=>decide (p.length=4096))
def Ip (t:List Dz) (f pc:Int):ByteArray:=((t[f.toNat]?.map (·.shapes)).getD [])[pc.toNat]?.getD Dm
def fD (fn:Bv) (pc:Int):Ad:=fn.code[pc.toNat]?.getD ⟨0,0,[]⟩
def UM (m:AP) (f:Jy):Bool:=
 FE f.f m.fns.length&&(FE f.pc (RU m f.f).code.length&&EY f.loc (CS m (RU m f.f)).data.toList)
def P9 (m:AP) (f:Jy) (nx:Int):Bool:=
 FE nx m.fns.length&&(decide ((fD (RU m f.f) f.pc).op.toNat=11)&&decide ((fD (RU m f.f) f.pc).a=nx))
def KZ (m:AP) (t:List Dz) (s:FH) (k:Nat):Bool:=match s.frames[k]? with
 | none=>true
 | some f=>UM m f&&match s.frames[k+1]? with
  | none=>EY f.st (Ip t f.f f.pc).data.toList
  | some g=>P9 m f g.f&&EY f.st ((Ip t f.f f.pc).extract 0 ((Ip t f.f f.pc).size-(B_ m (RU m g.f).t).p.size)).data.toList
def Bz (m:AP) (s:FH) (i:Nat):Int:=if Ct m s i then 0 else(i:Int)+1
def MP (m:AP) (t:List Dz) (s:FH) (k:Nat):Int:=if KZ m t s k then 0 else 9+(k:Int)
def JD (m:AP) (t:List Dz) (s:FH):Int:=Cq (Aa 8 (Bz m s)) (Aa s.frames.length (MP m t s))
def DW (m:AP) (s:FH):Int×Int:=match F7 m with
 | .inl e=>(e.1,0)
 | .inr t=>if JD m t s=0 then(0,0) else(44,JD m t s)
theorem kK {m:AP} {t:List Dz} {s:FH} {i:Nat} (hi:i<8) (h0:Aa i (Bz m s)=0) (h:Ct m s i=false):JD m t s=(i:Int)+1:=by
 have hat:Bz m s i=(i:Int)+1:=by unfold Bz;rw [h];rfl
 have hne:Bz m s i≠0:=by rw [hat];omega
 have h8:=Dc h0 hne 8 hi
 unfold JD
 rw [Br (by rw [h8];exact hne),h8,hat]
theorem Gb {m:AP} {s:FH} {i:Nat} (h0:Aa i (Bz m s)=0) (h:Ct m s i=true):Aa (i+1) (Bz m s)=0:=
 Cc h0 (by unfold Bz;rw [h];rfl)
theorem RX {m:AP} {t:List Dz} {s:FH} {k:Nat} (h8:Aa 8 (Bz m s)=0) (h0:Aa k (MP m t s)=0) (hk:k<s.frames.length) (h:KZ m t s k=false):JD m t s=9+(k:Int):=by
 have hat:MP m t s k=9+(k:Int):=by unfold MP;rw [h];rfl
 have hne:MP m t s k≠0:=by rw [hat];omega
 unfold JD
 rw [AY h8,Dc h0 hne _ hk,hat]
theorem fE {m:AP} {t:List Dz} {s:FH} {k:Nat} (h0:Aa k (MP m t s)=0) (h:KZ m t s k=true):Aa (k+1) (MP m t s)=0:=
 Cc h0 (by unfold MP;rw [h];rfl)
theorem rZ {m:AP} {t:List Dz} {s:FH} (h8:Aa 8 (Bz m s)=0) (h0:Aa s.frames.length (MP m t s)=0):JD m t s=0:=by
 unfold JD;rw [AY h8];exact h0
theorem fF {m:AP} {t:List Dz} {s:FH} (h:JD m t s=0):(∀i,i<8→Ct m s i=true)∧ ∀k,k<s.frames.length→KZ m t s k=true:=by
 have h2:=AV h
 refine⟨fun i hi=> ?_,fun k hk=> ?_⟩
 ·have:=BQ h2.1 i hi
  unfold Bz at this
  cases hb:Ct m s i with
  | true=>rfl
  | false=>rw [hb] at this;simp at this;omega
 ·have:=BQ h2.2 k hk
  unfold MP at this
  cases hb:KZ m t s k with
  | true=>rfl
  | false=>rw [hb] at this;simp at this;omega
end Go.Proofs.YtlagonfamllgjaaGreatDoor
