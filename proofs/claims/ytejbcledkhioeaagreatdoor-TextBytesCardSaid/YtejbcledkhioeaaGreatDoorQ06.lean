/- Part 6 of the proof: CopyB Size SizeM ModP SizeS TxtP Long ModA ModB -/
import Derived.Laws.ResultCell
import Derived.Laws.Rows
import Derived.Deep.CutBlock
import Derived.Deep.DeepCutAuto
import Derived.Lib.Join
import Derived.Defers
import Derived.Recover
import Derived.WalkSmall
import Derived.Deep.DrawnRows
import Derived.Deep.RegionHeldLaw
import Derived.Test.YtejbcledkhioeaaGreatDoorQ05
namespace Go.Proofs.YtejbcledkhioeaaGreatDoor
set_option linter.unusedVariables false
set_option linter.unusedSimpArgs false
set_option maxRecDepth 100000
set_option maxHeartbeats 4000000
open Go.RowKit Tryz
def WK (x:DL):Prop:=x.l.length≤2147483647
def xU (x:GR):Prop:=x.code.length≤2147483647∧ ∀i∈x.code,WK i
def Yu (x:EU):Prop:=x.b.length≤2147483647
def vY (x:AP):Prop:=x.types.length≤2147483647∧x.hosts.length≤2147483647∧x.globs.length≤2147483647∧(x.fns.length≤2147483647∧ ∀i∈x.fns,xU i)∧(x.dat.length≤2147483647∧ ∀i∈x.dat,Yu i)∧x.AU.length≤2147483647
structure Zy (T:TypeId) (w W:World) (cs zs:List Value) (Q:World→Prop):Prop where
 b:AL W w.heap.size T cs
 r:AL W (w.heap.size+1) T zs
 H:Below w.heap.size w W
 s:w.heap.size+2≤W.heap.size
 q:Q W
 st: ∀W1 W2,Q W1→w.heap.size+2≤W1.heap.size→(Below W1.heap.size W1 W2∨ ∃p u,p.block<w.heap.size+2∧W2=W1.setCell p u)→Q W2
section
variable {T:TypeId} {w W W':World} {cs zs:List Value} {Q:World→Prop}
theorem Zy.init (T:TypeId) (w:World) (cs zs:List Value):Zy T w ((w.alloc (.cells cs.toArray T)).alloc (.cells zs.toArray T)) cs zs (fun _=>True):=
 ⟨(AL.new w T cs).alloc _,by have:=AL.new (w.alloc (.cells cs.toArray T)) T zs;rwa [World.size_alloc] at this,((Below.refl _ _).alloc (Nat.le_refl _) _).alloc (by simp) _,by simp,trivial,fun _ _ _ _ _=>trivial⟩
theorem Zy.below (h:Zy T w W cs zs Q) (hb:Below W.heap.size W W'):Zy T w W' cs zs Q:=
 ⟨h.b.below hb h.b.lt,h.r.below hb h.r.lt,h.H.trans (hb.mono h.H.size),Nat.le_trans h.s hb.size,h.st _ _ h.q h.s (.inl hb),h.st⟩
theorem Zy.put (h:Zy T w W cs zs Q) {α:Type} (r:Rd α) {v:Value} {x:α} (h2:r.R W' W.heap.size W'.heap.size [v] x) (hb:Below W.heap.size W W') (j:Nat):
 Zy T w (W'.setCell ⟨w.heap.size,j,none⟩ v) (cs.set j v) zs (fun W=>Q W∧r.R W (w.heap.size+2) W.heap.size [v] x):=by
 have h':=h.below hb
 have hs:=h.s
 have key: ∀W1 W2,r.R W1 (w.heap.size+2) W1.heap.size [v] x→(Below W1.heap.size W1 W2∨ ∃p u,p.block<w.heap.size+2∧W2=W1.setCell p u)→r.R W2 (w.heap.size+2) W2.heap.size [v] x:=by
  rintro W1 W2 h1 (h3 | ⟨p,u,hp,rfl⟩)
  ·exact r.more (Nat.le_refl _) h3.size (Rd.below h1 h3 (Nat.le_refl _))
  ·exact r.more (Nat.le_refl _) (by simp [World.setCell]) (Rd.set h1 u (.inl hp))
 exact⟨h'.b.set j v,h'.r.far (p:=⟨w.heap.size,j,none⟩) (by simp) v,h'.H.setCell (p:=⟨w.heap.size,j,none⟩) (Nat.le_refl _) v,by simpa [World.setCell] using h'.s,⟨h'.st _ _ h'.q h'.s (.inr ⟨_,v,by simp,rfl⟩),key _ _ (r.more hs (Nat.le_refl _) h2) (.inr ⟨_,v,by simp,rfl⟩)⟩,fun W1 W2 h1 h2 h3=>⟨h.st _ _ h1.1 h2 h3,key _ _ h1.2 h3⟩⟩
end
def Cap (n N:Nat):Prop:=n=N∨(2147483647<n∧2147483647<N)
def A_ {α:Type} (f:α→Nat) (l:List α):Nat:=(l.map f).sum
theorem Cap.step {n N m g:Nat} (h:Cap n N) (h2:Cap m g):Cap (n+m) (N+g):=by unfold Cap at*;omega
theorem Cap.stop {n N M:Nat} (h:Cap n N) (hn:2147483647<n) (hM:N≤M):Cap n M:=by unfold Cap at*;omega
theorem Cap.iff {n N:Nat} (h:Cap n N):n≤2147483647↔N≤2147483647:=by unfold Cap at*;omega
theorem QM {α:Type} (f:α→Nat) (l:List α) (k:Nat):A_ f (l.take k)≤A_ f l:=by
 have:=List.take_append_drop k l
 conv=>rhs;rw [←this]
 unfold A_
 rw [List.map_append,List.sum_append]
 omega
theorem UY {α:Type} (f:α→Nat) {l:List α} {k:Nat} {x:α} (h:l[k]?=some x):A_ f (l.take (k+1))=A_ f (l.take k)+f x:=by
 rw [List.take_add_one,h]
 simp [A_]
def Ng (l:List DL):Nat:=l.length+A_ (fun i=>i.l.length) l
def J2 (x:GR):Nat:=x.loc.size+Ng x.code
def Ap (m:AP):Nat:=m.types.length+m.hosts.length+m.globs.length+m.fns.length+m.dat.length+m.AU.length+A_ (fun t=>t.p.size+t.r.size) m.types+A_ J2 m.fns+A_ (fun d=>d.b.length) m.dat+A_ (fun e=>e.n.size) m.AU
def Es:Nat→List Nat→Nat
 | n,[]=>n
 | n,g::gs=>if n≤2147483647 then Es (n+g) gs else n
theorem XE {n:Nat} (h:2147483647<n) (gs:List Nat):Es n gs=n:=by cases gs with | nil=>rfl | cons g gs=>unfold Es;rw [if_neg (by omega)]
def lG {α:Type} (f:α→Nat) (n0:Nat) (l:List α) (w:World) (x i:Value) (wr:World):Prop:= ∃k m:Nat,k≤l.length∧i= .int .i64 k∧x= .int .i64 m∧wr=w∧Es m ((l.drop k).map f)=Es n0 (l.map f)∧m≤281474976710656
theorem lG.next {α:Type} {f:α→Nat} {n0:Nat} {l:List α} {k m:Nat} {x:α} (h:Es m ((l.drop k).map f)=Es n0 (l.map f)) (hx:l[k]?=some x) (hm:m≤2147483647):Es (m+f x) ((l.drop (k+1)).map f)=Es n0 (l.map f):=by
 obtain⟨hk,he⟩:=List.getElem?_eq_some_iff.1 hx
 rw [List.drop_eq_getElem_cons hk,List.map_cons,he] at h
 rw [←h]
 conv=>rhs;unfold Es
 rw [if_pos hm]
theorem lG.stop {α:Type} {f:α→Nat} {n0:Nat} {l:List α} {k m:Nat} (h:Es m ((l.drop k).map f)=Es n0 (l.map f)) (hm:2147483647<m):m=Es n0 (l.map f):=by rwa [XE hm] at h
theorem lG.all {α:Type} {f:α→Nat} {n0:Nat} {l:List α} {k m:Nat} (h:Es m ((l.drop k).map f)=Es n0 (l.map f)) (hk:k=l.length):m=Es n0 (l.map f):=by
 subst hk
 rw [List.drop_length] at h
 exact h
def SzC (w1:World) (N:Nat) (s:Value) (wx:World):Prop:= ∃(m q:Nat),s= .int .i64 m∧wx=w1.drewN q∧Cap m N∧m≤1125899906842624
def lQ (w1:World) (N:Nat) {α:Type} (f:α→Nat) (l:List α) (x i:Value) (wr:World):Prop:= ∃k m q:Nat,k≤l.length∧i= .int .i64 k∧x= .int .i64 m∧wr=w1.drewN q∧Cap m (N+A_ f (l.take k))∧m≤1125899906842624
theorem lQ.stop {w1:World} {N k m q:Nat} {α:Type} {f:α→Nat} {l:List α} (hm:Cap m (N+A_ f (l.take k))) (hn:2147483647<m) (h5:m≤1125899906842624):SzC w1 (N+A_ f l) (.int .i64 m) (w1.drewN q):=
 ⟨m,q,rfl,rfl,hm.stop hn (by have:=QM f l k;omega),h5⟩
theorem lQ.all {w1:World} {N k m q:Nat} {α:Type} {f:α→Nat} {l:List α} (hm:Cap m (N+A_ f (l.take k))) (hk:k=l.length) (h5:m≤1125899906842624):SzC w1 (N+A_ f l) (.int .i64 m) (w1.drewN q):=
 ⟨m,q,rfl,rfl,by rwa [List.take_of_length_le (by rw [hk];exact Nat.le_refl _)] at hm,h5⟩
theorem lQ.next {α:Type} {f:α→Nat} {l:List α} {N k m g:Nat} {x:α} (hm:Cap m (N+A_ f (l.take k))) (hx:l[k]?=some x) (hg:Cap g (f x)):Cap (m+g) (N+A_ f (l.take (k+1))):=by
 rw [UY _ hx,←Nat.add_assoc]
 exact hm.step hg
def II (a b:Int):Int:=if a=0 then b else a
theorem AQ {a b:Int} (h:II a b=0):a=0∧b=0:=by
 unfold II at h
 by_cases h0:a=0
 ·rw [if_pos h0] at h;exact⟨h0,h⟩
 ·rw [if_neg h0] at h;exact absurd h h0
theorem DR {a b:Int} (h:a≠0):II a b=a:=if_neg h
theorem AZ {a b:Int} (h:a=0):II a b=b:=if_pos h
theorem EG (a b c:Int):II (II a b) c=II a (II b c):=by
 unfold II;by_cases h:a=0<;>simp [h]
def Ad:Nat→(Nat→Int)→Int
 | 0,_=>0
 | n+1,f=>II (Ad n f) (f n)
theorem IJ {k:Nat} {f:Nat→Int} (h0:Ad k f=0) (h:f k=0):Ad (k+1) f=0:=by
 show II _ _=0
 rw [h0,AZ rfl,h]
theorem IK {k:Nat} {f:Nat→Int} (h0:Ad k f=0) (h:f k≠0): ∀n,k<n→Ad n f=f k
 | 0,hn=>absurd hn (Nat.not_lt_zero _)
 | n+1,hn=>by
  show II _ _=_
  by_cases e:k=n
  ·subst e;rw [h0,AZ rfl]
  ·rw [IK h0 h n (by omega),DR h]
theorem Ca: ∀ {n:Nat} {f:Nat→Int},Ad n f=0→ ∀j,j<n→f j=0
 | 0,_,_,_,hj=>absurd hj (Nat.not_lt_zero _)
 | n+1,f,h,j,hj=>by
  have:=AQ (a:=Ad n f) (b:=f n) h
  by_cases e:j=n
  ·subst e;exact this.2
  ·exact Ca this.1 j (by omega)
theorem Qk {f g:Nat→Int}: ∀n,(∀j,j<n→f j=g j)→Ad n f=Ad n g
 | 0,_=>rfl
 | n+1,h=>by
  show II _ _=II _ _
  rw [Qk n (fun j hj=>h j (by omega)),h n (by omega)]
def Ae (b:Bool) (e:Int):Int:=if b then 0 else e
theorem EL {b:Bool} {e:Int} (h:b=true):Ae b e=0:=by rw [h];rfl
theorem QN {b:Bool} {e:Int} (h:b=false):Ae b e=e:=by rw [h];rfl
def Bq (s:ByteArray) (most:Int):Int:=II (Ae (decide ((s.size:Int)≤most)) 13) (Ae (Ry s) 15)
def Lg (x y:DI):Bool:=decide (x.p=y.p)&&decide (x.r=y.r)
def YO (l:List DI) (k:Nat):Int:=match l[k]? with
 | none=>0
 | some x=>II (Bq x.p 8) (II (Bq x.r 8) (Ae (!(l.take k).any (fun y=>Lg y x)) 16))
def Ji (m:AP) (k:Nat):Int:=match m.hosts[k]? with
 | none=>0
 | some t=>Ae (decide (0≤t∧t<m.types.length)) 30
def KI (m:AP) (k:Nat):Int:=match m.globs[k]? with
 | none=>0
 | some x=>II (Ae (Qg x.l.toNat) 15) (Ae (Je x.v x.l.toNat) 17)
def Oa (m:AP):Int:=Ae (decide (0≤m.first∧m.first≤64∧m.first≤m.most∧m.most≤64)) 17
def J3 (m:AP) (t:Int):Nat:=match m.types[t.toNat]? with
 | none=>0
 | some x=>x.p.size
def S9 (f:GR) (j:Nat):Int:=match f.code[j]? with
 | none=>0
 | some x=>Ai x
def LB (m:AP) (k:Nat):Nat:=A_ (fun f:GR=>f.code.length) (m.fns.take k)
def Ye (m:AP) (k:Nat):Int:=match m.fns[k]? with
 | none=>0
 | some f=>II (Ae (decide (0≤f.t∧f.t<m.types.length)) 30) (II (Bq f.loc (64-J3 m f.t)) (II (Ae (decide (f.code.length≤2048)) 20) (II (Ae (decide (LB m (k+1)≤16384)) 20) (Ad f.code.length (S9 f)))))
def Nh (m:AP) (k:Nat):Int:=match m.dat[k]? with
 | none=>0
 | some d=>II (Ae (decide (0≤d.at_∧d.at_≤m.first*4096)) 17) (II (if k=0 then 0 else match m.dat[k-1]? with | none=>0 | some y=>Ae (decide (y.at_+y.b.length<d.at_)) 18) (II (Ae (decide ((d.b.length:Int)≤m.first*4096-d.at_)) 13) (Ae (decide (0<d.b.length)) 17)))
def UZ (a b:ByteArray):Bool:=Op.bytesLess a.toList b.toList||a.toList==b.toList
def Qe (c:UInt8):Bool:=decide (32<c.toNat∧c.toNat<127)
def Ql (s:ByteArray):Int:=II (Ae (decide (s.size≤32)) 13) (II (Ae (decide (0<s.size)) 23) (Ae (s.data.toList.all Qe) 23))
def Ni (l:List Jy) (k:Nat) (s:ByteArray):Int:=if k=0 then 0 else match l[k-1]? with
 | none=>0
 | some y=>Ae (!(UZ s y.n)) 18
def Po (m:AP) (k:Nat):Int:=match m.AU[k]? with
 | none=>0
 | some x=>II (Ql x.n) (II (Ni m.AU k x.n) (Ae (decide (0≤x.f∧x.f<m.fns.length)) 30))
def KW (m:AP):Int:=II (Ae (decide (m.types.length≤64)) 20) (Ad m.types.length (YO m.types))
def KX (m:AP):Int:=II (Ae (decide (m.hosts.length≤32)) 20) (Ad m.hosts.length (Ji m))
def Lh (m:AP):Int:=II (Ae (decide (m.globs.length≤64)) 20) (Ad m.globs.length (KI m))
def JG (m:AP):Int:=II (KW m) (II (KX m) (II (Lh m) (Oa m)))
def TS (m:AP):Int:=II (Ae (decide (m.fns.length≤128)) 20) (Ad m.fns.length (Ye m))
def QB (m:AP):Int:=II (Ae (decide (m.dat.length≤64)) 20) (Ad m.dat.length (Nh m))
def Ua (m:AP):Int:=II (Ae (decide (m.AU.length≤64)) 20) (Ad m.AU.length (Po m))
def I_ (m:AP):Int:=II (TS m) (II (QB m) (Ua m))
def Rz (m:AP):Int:=II (JG m) (I_ m)
def EX (s:ByteArray):List UInt8:=enc s.size++s.data.toList
def R3 (x:DI):List UInt8:=EX x.p++EX x.r
def BK (x:EJ):Int:=if x.l.toNat=119∧2147483648≤x.v then(x.v:Int)-4294967296 else if x.v<9223372036854775808 then(x.v:Int) else(x.v:Int)-18446744073709551616
def Jj (x:EJ):List UInt8:= [x.l,if x.m then 1 else 0]++enc (folded (BK x))
def Iw (x:DL):List UInt8:=match DU x.op.toNat with
 | none=> []
 | some r=>x.op::(if r.takes=0 then [] else if r.takes=8 then enc (folded x.a) else if r.takes=3 then enc x.l.length++x.l.flatMap (fun n=>enc n.toNat) else enc x.a.toNat)
def XF (f:GR):List UInt8:=enc f.t.toNat++EX f.loc++enc f.code.length++f.code.flatMap Iw
def M5 (d:EU):List UInt8:=enc d.at_.toNat++(enc d.b.length++d.b)
def Pp (x:Jy):List UInt8:=EX x.n++enc x.f.toNat
def Ob (m:AP):List UInt8:=enc m.types.length++m.types.flatMap R3
def Oc (m:AP):List UInt8:=enc m.hosts.length++m.hosts.flatMap (fun t=>enc t.toNat)
def Od (m:AP):List UInt8:=enc m.globs.length++m.globs.flatMap Jj
def Li (m:AP):List UInt8:=Ob m++(Oc m++(Od m++(enc m.first.toNat++enc m.most.toNat)))
def Oe (m:AP):List UInt8:=(enc m.fns.length++m.fns.flatMap XF)++((enc m.dat.length++m.dat.flatMap M5)++(enc m.AU.length++m.AU.flatMap Pp))
def KY:List UInt8:= [70,76,71,78,1]
def LU (m:AP):List UInt8:=KY++(Li m++Oe m)
def GU (m:AP):Int:=II (Rz m) (Ae (decide ((LU m).length≤65536)) 13)
theorem Ev {α:Type} {f:α→List UInt8} {l:List α} {k:Nat} {x:α} (h:l[k]?=some x):(l.take (k+1)).flatMap f=(l.take k).flatMap f++f x:=by
 have hk:=(List.getElem?_eq_some_iff.1 h)
 rw [List.take_succ_eq_append_getElem hk.1,hk.2,List.flatMap_append]
 simp
theorem Ub {α:Type} {f:α→List UInt8} {c:Nat}: ∀ {l:List α},(∀x∈l,(f x).length≤c)→(l.flatMap f).length≤l.length*c
 | [],_=>by simp
 | x::l,h=>by
  rw [List.flatMap_cons,List.length_append,List.length_cons,Nat.add_mul,Nat.one_mul]
  have h1:=h x (List.mem_cons_self ..)
  have h2:=Ub (fun y hy=>h y (List.mem_cons_of_mem _ hy)) (l:=l)
  omega

def Fq (s:ByteArray):List UInt8:=if s.size=0 then [45] else s.data.toList
def Vm (x:DI):List UInt8:=Fq x.p++([32,45,62,32]++Fq x.r)
def Bv (ps:List (List UInt8)):List UInt8:=Lib.join ps [32]++ [10]
def MS (op:Nat):List UInt8:=match DU op with
 | some r=>r.word.data.toList
 | none=> []
def Jk (op:Nat):Int:=match DU op with
 | some r=>r.takes
 | none=>0
def R4 (x:DL):List UInt8:=
 MS x.op.toNat++((if Jk x.op.toNat≠0∧Jk x.op.toNat≠3 then 32::Lib.itoa x.a else [])++x.l.flatMap fun n=>32::Lib.itoa n)
def OP (n:Nat):UInt8:=UInt8.ofNat (if n<10 then 48+n else 87+n)
def KJ (b:List UInt8):List UInt8:=b.flatMap fun c=> [OP (c.toNat/16),OP (c.toNat%16)]
def KG:List UInt8:= [102,108,97,103,111,110]
def S_:List UInt8:= [116,121,112,101]
def MU:List UInt8:= [101,120,116,101,114,110]
def JK:List UInt8:= [103,108,111,98,97,108]
def KZ:List UInt8:= [99,111,110,115,116]
def TT:List UInt8:= [118,97,114]
def JL:List UInt8:= [109,101,109,111,114,121]
def WC:List UInt8:= [102,117,110,99]
def Yf:List UInt8:= [100,97,116,97]
def Qm:List UInt8:= [101,120,112,111,114,116]
def JH (x:EJ):List UInt8:=Bv [JK,[x.l],if x.m then TT else KZ,Lib.itoa (BK x)]
def Zw (f:GR):List UInt8:=Bv [WC,Lib.itoa f.t,Fq f.loc]++f.code.flatMap fun x=>Bv [[32,32]++R4 x]
def R5 (d:EU):List UInt8:=Bv [Yf,Lib.itoa d.at_,KJ d.b]
def R6 (x:Jy):List UInt8:=Bv [Qm,x.n.data.toList,Lib.itoa x.f]
def dM (m:AP):List UInt8:=Bv [KG]++(m.types.flatMap (fun x=>Bv [S_,Vm x])++(m.hosts.flatMap (fun t=>Bv [MU,Lib.itoa t])++(m.globs.flatMap JH++Bv [JL,Lib.itoa m.first,Lib.itoa m.most])))
def dN (m:AP):List UInt8:=m.fns.flatMap Zw++(m.dat.flatMap R5++m.AU.flatMap R6)
def Gb (m:AP):List UInt8:=dM m++dN m
theorem WE (a:List UInt8):Bv [a]=a++ [10]:=by unfold Bv;rw [Lib.join_one]
theorem WG (a b:List UInt8):Bv [a,b]=a++(32::b++ [10]):=by simp [Bv,Lib.join,List.intercalate]
theorem MV (a b c:List UInt8):Bv [a,b,c]=a++(32::b++(32::c++ [10])):=by simp [Bv,Lib.join,List.intercalate]
theorem aG (a b c d:List UInt8):Bv [a,b,c,d]=a++(32::b++(32::c++(32::d++ [10]))):=by simp [Bv,Lib.join,List.intercalate]

def fault (e at_:Int):Value:= .iface 152 (.agg #[.int .i64 e,.int .i64 at_])
def thrown (e at_:Int):List PanicEntry:= [{v:=fault e at_,recovered:=false}]
def Ends (err at_:Int) (e:Ending):Prop:=(err=0∧e= .returned (.tuple #[]))∨(err≠0∧e= .panicked (thrown err at_))
theorem Af (e at_:Int) (w:World):Calls prog 68 #[.bool true,.int .i64 e,.int .i64 at_] w fun en w'=>w=w'∧en= .returned (.tuple #[]):=by
 go_enter func68,ntmps68
 go_wp2
 go_end0
 exact⟨rfl,rfl⟩
theorem Ah (e at_:Int) (w:World):Calls prog 68 #[.bool false,.int .i64 e,.int .i64 at_] w fun en w'=>w=w'∧en= .panicked (thrown e at_):=by
 go_enter func68,ntmps68
 go_wp2
 exact⟨rfl,rfl,rfl⟩
theorem DT (b:Bool) (e at_:Int) (he:e≠0) (w:World):Calls prog 68 #[.bool b,.int .i64 e,.int .i64 at_] w fun en w'=>w=w'∧Ends (Ae b e) at_ en:=by
 cases b with
 | true=>exact(Af e at_ w).mono fun en w' h=>⟨h.1,.inl ⟨rfl,h.2⟩⟩
 | false=>exact(Ah e at_ w).mono fun en w' h=>⟨h.1,.inr ⟨he,h.2⟩⟩
theorem TN (pe pa:Addr) (w:World):
 CallsD prog 62 #[.pointer (some pe),.pointer (some pa)] .returning w fun e u' w'=>e= .returned (.tuple #[])∧u'= .returning∧w'=w:=by
 refine callsD_of_wpS func62 rfl fun c₀ cs hu=> ?_
 apply wpS_seq
 apply wpS_region
 simp [wpOpsS,go_sem,recoverD,hu,ntmps62,Exit.thenS,Array.replicate]
 have Hu:=AA hu;clear hu
 refine wpS_of_wp ?_
 go_wp2_with fail
 simp [bodyPostS,results,results62,←Hu.out]
theorem Xe (v:Value) (W:World):(Instr.typeAssert (.iface 152 v) 20 152 true).run prog W= .ok (.tuple #[v,.bool true]) W:=by kernel_rfl
theorem Jp (err at_:Int) (ge ga:Nat) (e0 a0:Int) (w:World) (he:AL w ge 33 [.int .i64 e0]) (ha:AL w ga 3 [.int .i64 a0]) (hne:ge≠ga):
 CallsD prog 62 #[.pointer (some ⟨ge,0,none⟩),.pointer (some ⟨ga,0,none⟩)] (.panicking (thrown err at_)) w fun e u' w'=>
  e= .returned (.tuple #[])∧u'= .panicking [{v:=fault err at_,recovered:=true}]∧Keep (fun k=>k≠ge∧k≠ga) w w'∧AL w' ge 33 [.int .i64 err]∧AL w' ga 3 [.int .i64 at_]:=by
 refine callsD_of_wpS func62 rfl fun c₀ cs hu=> ?_
 apply wpS_seq
 apply wpS_region
 simp [wpOpsS,go_sem,recoverD,hu,ntmps62,Exit.thenS,thrown,Array.replicate]
 have Hu:=AA hu;clear hu
 refine wpS_of_wp ?_
 have He:=AA he;have Ha:=AA ha
 have hge:=he.lt
 have hga:=ha.lt
 have hc1:=he.q 0 rfl
 have hc2:=ha.q 0 rfl
 have hf1:=he.frozen 0
 have hf2:=ha.frozen 0
 clear he ha
 unfold fault
 have has:=Xe (.agg #[.int .i64 err,.int .i64 at_])
 go_wp2_with fail
 go_region
 all_goals go_wp2_with fail
 have hk:Keep (fun k=>k≠ge∧k≠ga) w ((((w.setCell ⟨ge,0,none⟩ (.int .i64 err)).setCell ⟨ga,0,none⟩ (.int .i64 at_)).alloc (.cells #[.int .i64 err,.int .i64 at_] 152)).drew):=
  ((((Keep.refl _ w).setCell (p:=⟨ge,0,none⟩) (by simp) _).setCell (p:=⟨ga,0,none⟩) (by simp) _).alloc _).drew
 have hb1:AL ((((w.setCell ⟨ge,0,none⟩ (.int .i64 err)).setCell ⟨ga,0,none⟩ (.int .i64 at_)).alloc (.cells #[.int .i64 err,.int .i64 at_] 152)).drew) ge 33 [.int .i64 err]:=
  (((He.out.set 0 (.int .i64 err)).far (p:=⟨ga,0,none⟩) hne _).alloc _).drewN 1
 have hb2:AL ((((w.setCell ⟨ge,0,none⟩ (.int .i64 err)).setCell ⟨ga,0,none⟩ (.int .i64 at_)).alloc (.cells #[.int .i64 err,.int .i64 at_] 152)).drew) ga 3 [.int .i64 at_]:=
  (((Ha.out.far (p:=⟨ge,0,none⟩) (Ne.symm hne) _).set 0 (.int .i64 at_)).alloc _).drewN 1
 refine⟨rfl,_,rfl,.tuple #[],?_,rfl,rfl,hk,hb1,hb2⟩
 simp [results,results62]
theorem Mf (u:FrameMode) (ge gb:Nat) (e0:Int) (v:Value) (w:World) (he:AL w ge 33 [.int .i64 e0]) (hb:AL w gb 41 [v]):
 CallsD prog 65 #[.pointer (some ⟨ge,0,none⟩),.pointer (some ⟨gb,0,none⟩)] u w fun e u' w'=>
  u'=u∧(e= .returned (.tuple #[])∧Keep (fun k=>k≠gb) w w'∧AL w' gb 41 [if e0=0 then v else .slice none 0 0]):=by
 have He:=AA he;have Hb:=AA hb
 have hge:=he.lt
 have hgb:=hb.lt
 have hc1:=he.q 0 rfl
 have hc2:=hb.q 0 rfl
 have hf2:=hb.frozen 0
 clear he hb
 by_cases h0:e0=0
 ·subst h0
  go_enter_d func65,ntmps65
  go_wp2_with fail
  go_end0
  exact⟨rfl,Keep.refl _ _,Hb.out⟩
 ·have hne:(e0 !=0)=true:=by simpa using h0
  rw [if_neg h0]
  go_enter_d func65,ntmps65
  go_wp2_with fail
  go_end0
  exact⟨rfl,(Keep.refl _ _).setCell (by simp) _,Hb.out.set 0 _⟩
structure tL (W:World) (base g:Nat) (K:Nat→Prop) (mp:Value) (all:Int) (l:List UInt8) (A:Option Addr) (c:Nat):Prop where
 blk:AL W g 124 [mp,.int .i64 all,.slice A l.length c]
 own:Ls W base 5 (.slice A l.length c) l.length (l.map bv)
 low:base≤g
 kg: ¬K g
 apart: ∀k,(Value.slice A l.length c).ownBlock=some k→ ¬K k∧k≠g
 lt: ∀k,K k→k<W.heap.size
def Wr (W:World) (base g:Nat) (K:Nat→Prop) (mp:Value) (all:Int) (l:List UInt8):Prop:= ∃A c,tL W base g K mp all l A c
section
variable {W W':World} {base g:Nat} {K:Nat→Prop} {mp:Value} {all:Int} {l:List UInt8} {A:Option Addr} {c:Nat}
theorem tL.Ej (h:tL W base g K mp all l A c) (hb:Below W.heap.size W W'):tL W' base g K mp all l A c:=
 ⟨h.blk.below hb h.blk.lt,h.own.wF hb,h.low,h.kg,h.apart,fun k hk=>Nat.lt_of_lt_of_le (h.lt k hk) hb.size⟩
theorem Wr.Ej (h:Wr W base g K mp all l) (hb:Below W.heap.size W W'):Wr W' base g K mp all l:=let ⟨A,c,h⟩:=h;⟨A,c,h.Ej hb⟩
theorem tL.put (h:tL W base g K mp all l A c) {news:List UInt8} {A':Option Addr} {c' m:Nat} (hm:m=news.length) (hg:W.grownBy W' (Value.slice A l.length c).ownBlock)
 (ho:W'.ownsRow base 5 1 (.slice A' (l.length+m) c') (l.length+m) (l.map bv++news.map bv))
 (hb:(Value.slice A' (l.length+m) c').ownBlock=(Value.slice A l.length c).ownBlock∨(Value.slice A' (l.length+m) c').ownBlock=some W.heap.size):
 Keep K W (W'.setCell ⟨g,2,none⟩ (.slice A' (l.length+m) c'))∧Wr (W'.setCell ⟨g,2,none⟩ (.slice A' (l.length+m) c')) base g K mp all (l++news):=by
 subst hm
 have hgl:=h.blk.lt
 have hap: ∀k,(Value.slice A' (l.length+news.length) c').ownBlock=some k→ ¬K k∧k≠g:=fun k hk=>by
  rcases hb with e | e
  ·exact h.apart k (e▸hk)
  ·rw [e] at hk;injection hk with hk;subst hk
   exact⟨fun hK=>by have:=h.lt _ hK;omega,by omega⟩
 have hblk:AL W' g 124 [mp,.int .i64 all,.slice A l.length c]:=(hg.block g hgl (fun e=>(h.apart g e.symm).2 rfl)).trans h.blk
 refine⟨((Keep.refl K W).grown hg (fun k hk=>(h.apart k hk).1)).setCell h.kg _,A',c',⟨?_,?_,h.low,h.kg,?_,fun k hk=> ?_⟩⟩
 ·rw [List.length_append];exact hblk.set 2 _
 ·rw [List.length_append,List.map_append]
  exact .inl (IU ho (fun e=>(hap g e).2 rfl) _)
 ·rw [List.length_append];exact hap
 ·have h1:=h.lt k hk
  have h2:=hg.size
  simp [World.setCell];omega
end
def Oo (err:Int) (e:Ending) (P:Prop):Prop:=(err=0∧e= .returned (.tuple #[])∧P)∨(err≠0∧e= .panicked (thrown err 0))
theorem SL (n:Nat) (hn:n<9223372036854775808) (base g:Nat) (K:Nat→Prop) (mp:Value) (all:Int) (l:List UInt8) (w:World) (h:Wr w base g K mp all l) (hl:l.length≤1099511627776) (hbase:base≤w.heap.size):
 Calls prog 119 #[.pointer (some ⟨g,0,none⟩),.int .i64 n] w fun e w'=>e= .returned (.tuple #[])∧Keep K w w'∧Wr w' base g K mp all (l++enc n):=by
 obtain⟨A,c,h⟩:=h
 have H:=AA h
 have hc0:=h.blk.q 2 rfl
 have hlt:=h.blk.lt
 have hf:=h.blk.frozen 2
 have henc:=BA n (by omega)
 have hwr:IntKind.u64.wrap (n:Int)=(n:Int):=by rw [IntKind.wrap_u64];omega
 clear h
 obtain⟨i0,hi0,hz,hs',hby⟩:=info_parts Jl
 go_enter func119,ntmps119
 go_wp2_with fail
 go_region_law
  (first
   | (go_simp;go_at_call 159;refine(La n (by omega) _).mono ?_;rintro e w1 ⟨A1,c1,rfl,h2,h3⟩;have hb1:Below w.heap.size w w1:=⟨h3.os,h3.tape,h3.output,h3.size,h3.block⟩;have HR:=AA (Row.own h2);have H1:=AA (H.out.Ej hb1);have HB1:=AA hb1;have fC:Hid (Keep K w w1):=AA (Keep.Aq hb1);have hc1:=H1.out.blk.q 2 rfl;have hf1:=H1.out.blk.frozen 2;clear h2 h3 hb1)
   | (refine PU rfl (.tmp 8) (.tmp 11) 41 rfl base 5 i0 _ 1 underlying41 hi0 hz hs' hby rfl _ l.length (l.map bv) rfl (by exact H1.out.own) _ A1 (enc n).length c1 ((enc n).map bv) (EW n) rfl (by rw [List.length_map,Nat.mul_one]) (by exact HR.out) (Nc _) (by unfold maxLen;omega) (by omega) (Nat.le_trans hbase HB1.out.size) ?_;intro A4 c4 w4 h2 h3 h4;have HP:=AA (H1.out.put rfl h3 h2 h4);have TJ:=(JZ h3 H1.out.blk (fun e=>(H1.out.apart g e).2 rfl)).frozen 2;have hc4:=(JZ h3 H1.out.blk (fun e=>(H1.out.apart g e).2 rfl)).cell 2;clear h2 h3 h4))
 all_goals
  go_end0
  exact⟨rfl,fC.out.trans HP.out.1,HP.out.2⟩
theorem tN (s:ByteArray) (h47:s.size≤70368744177664) (base g:Nat) (K:Nat→Prop) (mp:Value) (all:Int) (l:List UInt8) (w:World) (h:Wr w base g K mp all l) (hl:l.length≤1099511627776) (hbase:base≤w.heap.size):
 Calls prog 115 #[.pointer (some ⟨g,0,none⟩),.string s] w fun e w'=>e= .returned (.tuple #[])∧Keep K w w'∧Wr w' base g K mp all (l++EX s):=by
 obtain⟨A,c,h⟩:=h
 have H:=AA h
 have hc0:=h.blk.q 2 rfl
 have hlt:=h.blk.lt
 have hf:=h.blk.frozen 2
 have henc:(EX s).length=(enc s.size).length+s.size:=by unfold EX;rw [List.length_append];simp
 have henc2:=BA s.size (by omega)
 clear h
 obtain⟨i0,hi0,hz,hs',hby⟩:=info_parts Jl
 go_enter func115,ntmps115
 go_wp2_with fail
 go_region_law
  (first
   | (go_simp;go_at_call 157;refine(jO s h47 _).mono ?_;rintro e w1 ⟨A1,c1,rfl,h2,h3⟩;have hb1:Below w.heap.size w w1:=⟨h3.os,h3.tape,h3.output,h3.size,h3.block⟩;have HR:=AA (Row.own h2);have H1:=AA (H.out.Ej hb1);have HB1:=AA hb1;have fC:Hid (Keep K w w1):=AA (Keep.Aq hb1);have hc1:=H1.out.blk.q 2 rfl;have hf1:=H1.out.blk.frozen 2;clear h2 h3 hb1)
   | (refine PU rfl (.tmp 8) (.tmp 10) 41 rfl base 5 i0 _ 1 underlying41 hi0 hz hs' hby rfl _ l.length (l.map bv) rfl (by exact H1.out.own) _ A1 ((enc s.size).length+s.size) c1 ((enc s.size++s.data.toList).map bv) (by have:=EW s.size;omega) rfl (by rw [List.length_map,Nat.mul_one,List.length_append];simp) (by exact HR.out) (Nc _) (by unfold maxLen;omega) (by omega) (Nat.le_trans hbase HB1.out.size) ?_;intro A4 c4 w4 h2 h3 h4;have HP:=AA (H1.out.put henc.symm h3 h2 h4);have TJ:=(JZ h3 H1.out.blk (fun e=>(H1.out.apart g e).2 rfl)).frozen 2;have hc4:=(JZ h3 H1.out.blk (fun e=>(H1.out.apart g e).2 rfl)).cell 2;clear h2 h3 h4))
 all_goals
  go_end0
  exact⟨rfl,fC.out.trans HP.out.1,HP.out.2⟩
end Go.Proofs.YtejbcledkhioeaaGreatDoor
