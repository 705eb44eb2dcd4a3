/- Part 7 of the proof: ModP TxtP PrsP TxtA WrapS PrsW Keep -/
import Derived.Lib.Join
import Derived.Lib.FieldsP
import Derived.Lib.Split
import Derived.WalkSmall
import Derived.Lib.AppendIntMem
import Derived.Handed
import Derived.HandedShaped
import Derived.Test.YtebgikflpgcnlaaGreatDoorT03
import Derived.Test.YtebgikflpgcnlaaGreatDoorT06
namespace Go.Proofs.YtebgikflpgcnlaaGreatDoor
set_option linter.unusedVariables false
set_option linter.unusedSimpArgs false
set_option maxRecDepth 100000
set_option maxHeartbeats 4000000
open Go.RowKit Tryz
def orE (a b:Int):Int:=if a=0 then b else a
theorem orE_zero {a b:Int} (h:orE a b=0):a=0∧b=0:=by
 unfold orE at h
 by_cases h0:a=0
 ·rw [if_pos h0] at h;exact⟨h0,h⟩
 ·rw [if_neg h0] at h;exact absurd h h0
theorem orE_l {a b:Int} (h:a≠0):orE a b=a:=if_neg h
theorem orE_r {a b:Int} (h:a=0):orE a b=b:=if_pos h
theorem orE_assoc (a b c:Int):orE (orE a b) c=orE a (orE b c):=by
 unfold orE;by_cases h:a=0<;>simp [h]
def firstE:Nat→(Nat→Int)→Int
 | 0,_=>0
 | n+1,f=>orE (firstE n f) (f n)
theorem firstE_next {k:Nat} {f:Nat→Int} (h0:firstE k f=0) (h:f k=0):firstE (k+1) f=0:=by
 show orE _ _=0
 rw [h0,orE_r rfl,h]
theorem firstE_hit {k:Nat} {f:Nat→Int} (h0:firstE k f=0) (h:f k≠0): ∀n,k<n→firstE n f=f k
 | 0,hn=>absurd hn (Nat.not_lt_zero _)
 | n+1,hn=>by
  show orE _ _=_
  by_cases e:k=n
  ·subst e;rw [h0,orE_r rfl]
  ·rw [firstE_hit h0 h n (by omega),orE_l h]
theorem firstE_zero: ∀ {n:Nat} {f:Nat→Int},firstE n f=0→ ∀j,j<n→f j=0
 | 0,_,_,_,hj=>absurd hj (Nat.not_lt_zero _)
 | n+1,f,h,j,hj=>by
  have:=orE_zero (a:=firstE n f) (b:=f n) h
  by_cases e:j=n
  ·subst e;exact this.2
  ·exact firstE_zero this.1 j (by omega)
theorem firstE_congr {f g:Nat→Int}: ∀n,(∀j,j<n→f j=g j)→firstE n f=firstE n g
 | 0,_=>rfl
 | n+1,h=>by
  show orE _ _=orE _ _
  rw [firstE_congr n (fun j hj=>h j (by omega)),h n (by omega)]
def askE (b:Bool) (e:Int):Int:=if b then 0 else e
theorem askE_t {b:Bool} {e:Int} (h:b=true):askE b e=0:=by rw [h];rfl
theorem askE_f {b:Bool} {e:Int} (h:b=false):askE b e=e:=by rw [h];rfl
def letErr (s:ByteArray) (most:Int):Int:=orE (askE (decide ((s.size:Int)≤most)) 13) (askE (letS s) 15)
def sigEq (x y:SigV):Bool:=decide (x.p=y.p)&&decide (x.r=y.r)
def tyE (l:List SigV) (k:Nat):Int:=match l[k]? with
 | none=>0
 | some x=>orE (letErr x.p 8) (orE (letErr x.r 8) (askE (!(l.take k).any (fun y=>sigEq y x)) 16))
def hostE (m:ModV) (k:Nat):Int:=match m.hosts[k]? with
 | none=>0
 | some t=>askE (decide (0≤t∧t<m.types.length)) 30
def globE (m:ModV) (k:Nat):Int:=match m.globs[k]? with
 | none=>0
 | some x=>orE (askE (isN x.l.toNat) 15) (askE (fitN x.v x.l.toNat) 17)
def pagesE (m:ModV):Int:=askE (decide (0≤m.first∧m.first≤64∧m.first≤m.most∧m.most≤64)) 17
def parLen (m:ModV) (t:Int):Nat:=match m.types[t.toNat]? with
 | none=>0
 | some x=>x.p.size
def codeE (f:FnV) (j:Nat):Int:=match f.code[j]? with
 | none=>0
 | some x=>insChk x
def allTo (m:ModV) (k:Nat):Nat:=sumBy (fun f:FnV=>f.code.length) (m.fns.take k)
def fnE (m:ModV) (k:Nat):Int:=match m.fns[k]? with
 | none=>0
 | some f=>orE (askE (decide (0≤f.t∧f.t<m.types.length)) 30) (orE (letErr f.loc (64-parLen m f.t)) (orE (askE (decide (f.code.length≤2048)) 20) (orE (askE (decide (allTo m (k+1)≤16384)) 20) (firstE f.code.length (codeE f)))))
def datE (m:ModV) (k:Nat):Int:=match m.dat[k]? with
 | none=>0
 | some d=>orE (askE (decide (0≤d.at_∧d.at_≤m.first*4096)) 17) (orE (if k=0 then 0 else match m.dat[k-1]? with | none=>0 | some y=>askE (decide (y.at_+y.b.length<d.at_)) 18) (orE (askE (decide ((d.b.length:Int)≤m.first*4096-d.at_)) 13) (askE (decide (0<d.b.length)) 17)))
def leStr (a b:ByteArray):Bool:=Op.bytesLess a.toList b.toList||a.toList==b.toList
def chE (c:UInt8):Bool:=decide (32<c.toNat∧c.toNat<127)
def nameE (s:ByteArray):Int:=orE (askE (decide (s.size≤32)) 13) (orE (askE (decide (0<s.size)) 23) (askE (s.data.toList.all chE) 23))
def ordE (l:List ExpV) (k:Nat) (s:ByteArray):Int:=if k=0 then 0 else match l[k-1]? with
 | none=>0
 | some y=>askE (!(leStr s y.n)) 18
def expE (m:ModV) (k:Nat):Int:=match m.exps[k]? with
 | none=>0
 | some x=>orE (nameE x.n) (orE (ordE m.exps k x.n) (askE (decide (0≤x.f∧x.f<m.fns.length)) 30))
def typesE (m:ModV):Int:=orE (askE (decide (m.types.length≤64)) 20) (firstE m.types.length (tyE m.types))
def hostsE (m:ModV):Int:=orE (askE (decide (m.hosts.length≤32)) 20) (firstE m.hosts.length (hostE m))
def globsE (m:ModV):Int:=orE (askE (decide (m.globs.length≤64)) 20) (firstE m.globs.length (globE m))
def headE (m:ModV):Int:=orE (typesE m) (orE (hostsE m) (orE (globsE m) (pagesE m)))
def fnsE (m:ModV):Int:=orE (askE (decide (m.fns.length≤128)) 20) (firstE m.fns.length (fnE m))
def datsE (m:ModV):Int:=orE (askE (decide (m.dat.length≤64)) 20) (firstE m.dat.length (datE m))
def expsE (m:ModV):Int:=orE (askE (decide (m.exps.length≤64)) 20) (firstE m.exps.length (expE m))
def bodyE (m:ModV):Int:=orE (fnsE m) (orE (datsE m) (expsE m))
def partsE (m:ModV):Int:=orE (headE m) (bodyE m)
def textB (s:ByteArray):List UInt8:=enc s.size++s.data.toList
def sigB (x:SigV):List UInt8:=textB x.p++textB x.r
def signB (x:GlobV):Int:=if x.l.toNat=119∧2147483648≤x.v then(x.v:Int)-4294967296 else if x.v<9223372036854775808 then(x.v:Int) else(x.v:Int)-18446744073709551616
def globB (x:GlobV):List UInt8:= [x.l,if x.m then 1 else 0]++enc (folded (signB x))
def insB (x:InsV):List UInt8:=match opRow x.op.toNat with
 | none=> []
 | some r=>x.op::(if r.takes=0 then [] else if r.takes=8 then enc (folded x.a) else if r.takes=3 then enc x.l.length++x.l.flatMap (fun n=>enc n.toNat) else enc x.a.toNat)
def fnB (f:FnV):List UInt8:=enc f.t.toNat++textB f.loc++enc f.code.length++f.code.flatMap insB
def datB (d:DatV):List UInt8:=enc d.at_.toNat++(enc d.b.length++d.b)
def expB (x:ExpV):List UInt8:=textB x.n++enc x.f.toNat
def typesB (m:ModV):List UInt8:=enc m.types.length++m.types.flatMap sigB
def hostsB (m:ModV):List UInt8:=enc m.hosts.length++m.hosts.flatMap (fun t=>enc t.toNat)
def globsB (m:ModV):List UInt8:=enc m.globs.length++m.globs.flatMap globB
def headB (m:ModV):List UInt8:=typesB m++(hostsB m++(globsB m++(enc m.first.toNat++enc m.most.toNat)))
def bodyB (m:ModV):List UInt8:=(enc m.fns.length++m.fns.flatMap fnB)++((enc m.dat.length++m.dat.flatMap datB)++(enc m.exps.length++m.exps.flatMap expB))
def magicB:List UInt8:= [70,76,71,78,1]
def modB (m:ModV):List UInt8:=magicB++(headB m++bodyB m)
def modE (m:ModV):Int:=orE (partsE m) (askE (decide ((modB m).length≤65536)) 13)
theorem flat_next {α:Type} {f:α→List UInt8} {l:List α} {k:Nat} {x:α} (h:l[k]?=some x):(l.take (k+1)).flatMap f=(l.take k).flatMap f++f x:=by
 have hk:=(List.getElem?_eq_some_iff.1 h)
 rw [List.take_succ_eq_append_getElem hk.1,hk.2,List.flatMap_append]
 simp
theorem flat_all {α:Type} {f:α→List UInt8} {l:List α} {k:Nat} (h:k=l.length):(l.take k).flatMap f=l.flatMap f:=by
 rw [List.take_of_length_le (by omega)]
theorem flat_len {α:Type} {f:α→List UInt8} {c:Nat}: ∀ {l:List α},(∀x∈l,(f x).length≤c)→(l.flatMap f).length≤l.length*c
 | [],_=>by simp
 | x::l,h=>by
  rw [List.flatMap_cons,List.length_append,List.length_cons,Nat.add_mul,Nat.one_mul]
  have h1:=h x (List.mem_cons_self ..)
  have h2:=flat_len (fun y hy=>h y (List.mem_cons_of_mem _ hy)) (l:=l)
  omega
def sideT (s:ByteArray):List UInt8:=if s.size=0 then [45] else s.data.toList
def sigT (x:SigV):List UInt8:=sideT x.p++([32,45,62,32]++sideT x.r)
def lineT (ps:List (List UInt8)):List UInt8:=Lib.join ps [32]++ [10]
def wordT (op:Nat):List UInt8:=match opRow op with
 | some r=>r.word.data.toList
 | none=> []
def takesT (op:Nat):Int:=match opRow op with
 | some r=>r.takes
 | none=>0
def insT (x:InsV):List UInt8:=
 wordT x.op.toNat++((if takesT x.op.toNat≠0∧takesT x.op.toNat≠3 then 32::Lib.itoa x.a else [])++x.l.flatMap fun n=>32::Lib.itoa n)
def hexD (n:Nat):UInt8:=UInt8.ofNat (if n<10 then 48+n else 87+n)
def hexT (b:List UInt8):List UInt8:=b.flatMap fun c=> [hexD (c.toNat/16),hexD (c.toNat%16)]
def flagonT:List UInt8:= [102,108,97,103,111,110]
def typeT:List UInt8:= [116,121,112,101]
def externT:List UInt8:= [101,120,116,101,114,110]
def globalT:List UInt8:= [103,108,111,98,97,108]
def constT:List UInt8:= [99,111,110,115,116]
def varT:List UInt8:= [118,97,114]
def memoryT:List UInt8:= [109,101,109,111,114,121]
def funcT:List UInt8:= [102,117,110,99]
def dataT:List UInt8:= [100,97,116,97]
def exportT:List UInt8:= [101,120,112,111,114,116]
def globT (x:GlobV):List UInt8:=lineT [globalT,[x.l],if x.m then varT else constT,Lib.itoa (signB x)]
def fnT (f:FnV):List UInt8:=lineT [funcT,Lib.itoa f.t,sideT f.loc]++f.code.flatMap fun x=>lineT [[32,32]++insT x]
def datT (d:DatV):List UInt8:=lineT [dataT,Lib.itoa d.at_,hexT d.b]
def expT (x:ExpV):List UInt8:=lineT [exportT,x.n.data.toList,Lib.itoa x.f]
def headT (m:ModV):List UInt8:=lineT [flagonT]++(m.types.flatMap (fun x=>lineT [typeT,sigT x])++(m.hosts.flatMap (fun t=>lineT [externT,Lib.itoa t])++(m.globs.flatMap globT++lineT [memoryT,Lib.itoa m.first,Lib.itoa m.most])))
def bodyT (m:ModV):List UInt8:=m.fns.flatMap fnT++(m.dat.flatMap datT++m.exps.flatMap expT)
def printT (m:ModV):List UInt8:=headT m++bodyT m
theorem lineT_one (a:List UInt8):lineT [a]=a++ [10]:=by unfold lineT;rw [Lib.join_one]
theorem lineT_two (a b:List UInt8):lineT [a,b]=a++(32::b++ [10]):=by simp [lineT,Lib.join,List.intercalate]
theorem lineT_three (a b c:List UInt8):lineT [a,b,c]=a++(32::b++(32::c++ [10])):=by simp [lineT,Lib.join,List.intercalate]
theorem lineT_four (a b c d:List UInt8):lineT [a,b,c,d]=a++(32::b++(32::c++(32::d++ [10]))):=by simp [lineT,Lib.join,List.intercalate]
def blankR (r:Nat):Bool:=r==32||r==9||r==13
def wdsV (s:ByteArray):List ByteArray:=Lib.goFieldsP blankR s
def nlB:ByteArray:=⟨#[10]⟩
def linesV (s:ByteArray):List ByteArray:=Lib.splitB nlB 0 (Lib.countB s nlB) s
structure RdV where
 m:ModV
 st:Nat
def mod0:ModV:=⟨[],[],[],0,0,[],[],[]⟩
def rd0:RdV:=⟨mod0,0⟩
def numW (s:ByteArray):Option Int:=numTxt s.data.toList
def flagonW:ByteArray:=⟨#[102,108,97,103,111,110]⟩
def typeW:ByteArray:=⟨#[116,121,112,101]⟩
def externW:ByteArray:=⟨#[101,120,116,101,114,110]⟩
def globalW:ByteArray:=⟨#[103,108,111,98,97,108]⟩
def constW:ByteArray:=⟨#[99,111,110,115,116]⟩
def varW:ByteArray:=⟨#[118,97,114]⟩
def memoryW:ByteArray:=⟨#[109,101,109,111,114,121]⟩
def funcW:ByteArray:=⟨#[102,117,110,99]⟩
def dataW:ByteArray:=⟨#[100,97,116,97]⟩
def exportW:ByteArray:=⟨#[101,120,112,111,114,116]⟩
def wW:ByteArray:=⟨#[119]⟩
def lW:ByteArray:=⟨#[108]⟩
def kinds:List ByteArray:= [flagonW,typeW,externW,globalW,memoryW,funcW,dataW,exportW]
def kindW (w:ByteArray):Nat:=match kinds.idxOf? w with
 | some i=>i+1
 | none=>0
def okSt (p st:Nat):Bool:=decide (st≤p)&&(!(p==1||p==5)||decide (st<p))&&(!(st==0)||p==1)&&(decide (p≤5)||decide (5≤st))
def joinW (ws:List ByteArray):ByteArray:=⟨(Lib.join (ws.map (·.data.toList)) [32]).toArray⟩
def hexV (c:UInt8):Option Nat:=if 48≤c.toNat∧c.toNat≤57 then some (c.toNat-48) else if 97≤c.toNat∧c.toNat≤102 then some (c.toNat-87) else none
def hexR:List UInt8→Option (List UInt8)
 | []=>some []
 | [_]=>none
 | a::b::t=>match hexV a,hexV b with
  | some x,some y=>(hexR t).map (UInt8.ofNat (16*x+y):: ·)
  | _,_=>none
def globR (a b:ByteArray) (n:Int):Option GlobV:=
 if(a=wW∨a=lW)∧(b=varW∨b=constW) then
  (if a=wW then(if-2147483648≤n∧n<2147483648 then some ⟨119,decide (b=varW),(n%4294967296).toNat⟩ else none)
   else some ⟨108,decide (b=varW),(n%18446744073709551616).toNat⟩)
 else none
def locR (l:ByteArray):ByteArray:=if l=dash then none_ else l
def readK (p:Nat) (m:ModV) (ws:List ByteArray):Option ModV:=match p,ws with
 | 1,[]=>some m
 | 2,ws=>if(readS (joinW ws)).2.2=0 then some {m with types:=m.types++ [⟨(readS (joinW ws)).1,(readS (joinW ws)).2.1⟩]} else none
 | 3,[a]=>(numW a).map fun n=> {m with hosts:=m.hosts++ [n]}
 | 4,[a,b,c]=>(numW c).bind fun n=>(globR a b n).map fun g=> {m with globs:=m.globs++ [g]}
 | 5,[a,b]=>(numW a).bind fun x=>(numW b).map fun y=> {m with first:=x,most:=y}
 | 6,[a,l]=>(numW a).map fun t=> {m with fns:=m.fns++ [⟨t,locR l,[]⟩]}
 | 7,[a,x]=>(numW a).bind fun n=>(hexR x.data.toList).map fun b=> {m with dat:=m.dat++ [⟨n,b⟩]}
 | 8,[n,f]=>(numW f).map fun k=> {m with exps:=m.exps++ [⟨n,k⟩]}
 | _,_=>none
def opFind (w:ByteArray):Option OpV:=opTab.find? (fun r=>decide (r.word=w))
def insR (r:OpV) (ws:List ByteArray):Option InsV:=
 if r.takes=0 then(match ws with | []=>some ⟨UInt8.ofNat r.op,0,[]⟩ | _=>none)
 else if r.takes=3 then(ws.mapM numW).map fun l=>⟨UInt8.ofNat r.op,0,l⟩
 else(match ws with | [a]=>(numW a).map fun n=>⟨UInt8.ofNat r.op,n,[]⟩ | _=>none)
def putIns (fns:List FnV) (x:InsV):List FnV:=match fns.getLast? with
 | none=>fns
 | some f=>fns.dropLast++ [{f with code:=f.code++ [x]}]
def lineV (r:RdV) (l:List ByteArray):Option RdV:=match l with
 | []=>some r
 | w::ws=>
  if kindW w=0 then
   (if r.st=6 then(opFind w).bind fun o=>(insR o ws).map fun x=>⟨{r.m with fns:=putIns r.m.fns x},6⟩ else none)
  else if okSt (kindW w) r.st=true then(readK (kindW w) r.m ws).map (⟨·,kindW w⟩) else none
def skipW:List ByteArray→Bool
 | []=>true
 | w::_=>w.data.toList.head?==some 59
def goL:List ByteArray→RdV→Nat→RdV⊕Nat
 | [],r,_=> .inl r
 | s::t,r,k=>if skipW (wdsV s)=true then goL t r (k+1) else match lineV r (wdsV s)with
  | none=> .inr (k+1)
  | some r'=>goL t r' (k+1)
def parseV (s:ByteArray):ModV×Int×Nat:=
 if 1048576<s.size then(mod0,13,0) else match goL (linesV s) rd0 0 with
  | .inr k=>(mod0,22,k)
  | .inl r=>if r.st<5 then(mod0,22,(linesV s).length) else if modE r.m=0 then(r.m,0,0) else(mod0,modE r.m,0)
def goW:List (List ByteArray)→RdV→Option RdV
 | [],r=>some r
 | l::t,r=>if skipW l=true then goW t r else(lineV r l).bind (goW t)
theorem goW_of: ∀(ls:List ByteArray) (r r':RdV) (k:Nat),goW (ls.map wdsV) r=some r'→goL ls r k= .inl r'
 | [],r,r',k,h=>by
  injection h with h
  subst h
  rfl
 | s::t,r,r',k,h=>by
  have h:(if skipW (wdsV s)=true then goW (t.map wdsV) r else(lineV r (wdsV s)).bind (goW (t.map wdsV)))=some r':=h
  show(if skipW (wdsV s)=true then goL t r (k+1) else _)=_
  by_cases hs:skipW (wdsV s)=true
  ·rw [if_pos hs] at h⊢
   exact goW_of t r r' _ h
  ·rw [if_neg hs] at h⊢
   cases hl:lineV r (wdsV s)with
   | none=>rw [hl] at h;cases h
   | some x=>
    rw [hl] at h
    exact goW_of t x r' _ h
theorem goW_app: ∀(a b:List (List ByteArray)) (r r':RdV),goW a r=some r'→goW (a++b) r=goW b r'
 | [],b,r,r',h=>by
  injection h with h
  subst h
  rfl
 | l::t,b,r,r',h=>by
  have h:(if skipW l=true then goW t r else(lineV r l).bind (goW t))=some r':=h
  show(if skipW l=true then goW (t++b) r else(lineV r l).bind (goW (t++b)))=_
  by_cases hs:skipW l=true
  ·rw [if_pos hs] at h⊢
   exact goW_app t b r r' h
  ·rw [if_neg hs] at h⊢
   cases hl:lineV r l with
   | none=>rw [hl] at h;cases h
   | some x=>
    rw [hl] at h
    exact goW_app t b x r' h
theorem parseV_ok {s:ByteArray} {m:ModV} {st:Nat} (hs:s.size≤1048576) (h:goW ((linesV s).map wdsV) rd0=some ⟨m,st⟩) (hst:5≤st) (hm:modE m=0):parseV s=(m,0,0):=by
 unfold parseV
 rw [if_neg (by omega),goW_of _ _ _ _ h]
 simp only
 rw [if_neg (by omega),if_pos hm]
theorem parseV_zero {s:ByteArray} (h:(parseV s).2.1=0):modE (parseV s).1=0:=by
 unfold parseV at h⊢
 split
 ·rename_i hc
  rw [if_pos hc] at h
  cases h
 ·rename_i hc
  rw [if_neg hc] at h
  split
  ·rename_i hk
   rw [hk] at h
   cases h
  ·rename_i r hk
   rw [hk] at h
   simp only at h⊢
   split
   ·rename_i h5
    rw [if_pos h5] at h
    cases h
   ·rename_i h5
    rw [if_neg h5] at h
    split
    ·rename_i hm;exact hm
    ·rename_i hm
     rw [if_neg hm] at h
     exact absurd h hm
structure EnvAt (hi:Nat) (w:World):Prop where
 pow: ∀w',Below hi w w'→Lib.TabIs prog w' "internal/strconv.uint64pow10" .u64 Lib.pow10Tab
 asc: ∀w',Below hi w w'→Lib.TabIs prog w' "strings.asciiSpace" .u8 Lib.asciiSpaceTab
 syn: ∀w',Below hi w w'→ ∃tp p,w'.var? prog "strconv.ErrSyntax"=some #[.iface tp p]
 rng: ∀w',Below hi w w'→ ∃tp p,w'.var? prog "strconv.ErrRange"=some #[.iface tp p]
 mx: ∀w',Below hi w w'→ ∃m:Int,w'.cell? ⟨0,0,none⟩=some (.int .i64 m)
theorem EnvAt.to {hi:Nat} {w w':World} (h:EnvAt hi w) (hb:Below hi w w'):EnvAt hi w':=
 ⟨fun v hv=>h.pow v (hb.trans hv),fun v hv=>h.asc v (hb.trans hv),fun v hv=>h.syn v (hb.trans hv),fun v hv=>h.rng v (hb.trans hv),fun v hv=>h.mx v (hb.trans hv)⟩
theorem EnvAt.up {hi B:Nat} {w w':World} (h:EnvAt hi w) (hb:Below B w w') (hB:hi≤B):EnvAt hi w':=h.to (hb.mono hB)
def wrongP:List PanicEntry:= [{v:= .iface 106 (.agg #[]),recovered:=false}]
theorem txt_must_yes (w:World):Calls prog 60 #[.bool true] w fun en w'=>w=w'∧en= .returned (.tuple #[]):=by
 go_enter func60,ntmps60
 go_wp2
 go_end0
 exact⟨rfl,rfl⟩
theorem txt_must_no (w:World):Calls prog 60 #[.bool false] w fun en w'=>w=w'∧en= .panicked wrongP:=by
 go_enter func60,ntmps60
 go_wp2
 exact⟨rfl,rfl,rfl⟩
def EndsW (b:Bool) (e:Ending):Prop:=(b=true∧e= .returned (.tuple #[]))∨(b=false∧e= .panicked wrongP)
theorem txt_must (b:Bool) (w:World):Calls prog 60 #[.bool b] w fun en w'=>w=w'∧EndsW b en:=by
 cases b with
 | true=>exact(txt_must_yes w).mono fun en w' h=>⟨h.1,.inl ⟨rfl,h.2⟩⟩
 | false=>exact(txt_must_no w).mono fun en w' h=>⟨h.1,.inr ⟨rfl,h.2⟩⟩
theorem txt_count (A:Option Addr) (n c k:Nat) (w:World):Calls prog 140 #[.slice A n c,.int .i64 k] w fun en w'=>w=w'∧EndsW (decide (n=k)) en:=by
 by_cases h:n=k
 ·have hd:((n:Int)==(k:Int))=true:=by rw [h];exact beq_self_eq_true _
  have HD:Hid (decide (n=k)=true):=hideIt (decide_eq_true h)
  clear h
  go_enter func140,ntmps140
  go_wp2_with fail
  refine(txt_must_yes w).mono ?_
  rintro e w' ⟨rfl,rfl⟩
  go_wp2_with fail
  go_end0
  exact⟨rfl,.inl ⟨HD.out,rfl⟩⟩
 ·have hd:((n:Int)==(k:Int))=false:=by rw [beq_eq_false_iff_ne];omega
  have HD:Hid (decide (n=k)=false):=hideIt (decide_eq_false h)
  clear h
  go_enter func140,ntmps140
  go_wp2_with fail
  refine(txt_must_no w).mono ?_
  rintro e w' ⟨rfl,rfl⟩
  go_wp2_with fail
  exact⟨rfl,rfl,.inr ⟨HD.out,rfl⟩⟩
theorem txt_said (s:ByteArray) (w:World):Calls prog 35 #[.string s] w fun e w'=>w=w'∧e= .returned (.string (sideS s)):=by
 by_cases h:s=none_
 ·subst h
  have hE:none_.toList.isEmpty=true:=by decide+kernel
  go_enter func35,ntmps35
  go_wp2
  go_ret
  exact⟨rfl,rfl⟩
 ·have HF:Hid (sideS s=s):=hideIt (if_neg h)
  have hE:=empty_no h
  clear h
  go_enter func35,ntmps35
  go_wp2
  go_ret
  exact⟨rfl,by rw [HF.out];rfl⟩
theorem txt_num64 (n:Int) (hn:Rd.B63 n) {hi:Nat} (w:World) (hE:EnvAt hi w) (hhi:hi≤w.heap.size):
 Calls prog 33 #[.int .i64 n] w fun e w'=>Below w.heap.size w w'∧e= .returned (.string ⟨(Lib.itoa n).toArray⟩):=by
 have HF:=hideIt (strconv_FormatInt_10 n hn.1 (by have:=hn.2;omega) w (hE.pow w (Below.refl _ _)))
 clear hE hn
 go_enter func33,ntmps33
 go_wp2_with fail
 refine HF.out.mono ?_
 rintro e w' ⟨rfl,k,os,rfl⟩
 go_wp2_with fail
 go_ret
 exact⟨Lib.below_grow _ _ (Nat.le_refl _) k os,rfl⟩
theorem txt_num (n:Int) (hn:Rd.B63 n) {hi:Nat} (w:World) (hE:EnvAt hi w) (hhi:hi≤w.heap.size):
 Calls prog 32 #[.int .i64 n] w fun e w'=>Below w.heap.size w w'∧e= .returned (.string ⟨(Lib.itoa n).toArray⟩):=by
 have HF:=hideIt (strconv_FormatInt_10 n hn.1 (by have:=hn.2;omega) w (hE.pow w (Below.refl _ _)))
 clear hE hn
 go_enter func32,ntmps32
 go_wp2_with fail
 refine HF.out.mono ?_
 rintro e w' ⟨rfl,k,os,rfl⟩
 go_wp2_with fail
 go_ret
 exact⟨Lib.below_grow _ _ (Nat.le_refl _) k os,rfl⟩
theorem words_pred (w:World):PredAtRunes prog 148 #[] blankR w:=fun W x hx hb=>by
 have hr:x<2147483648:=by omega
 go_enter func148,ntmps148
 by_cases h1:x=32
 ·subst h1
  go_wp2
  go_ret
  exact⟨rfl,0,rfl⟩
 by_cases h2:x=9
 ·subst h2
  go_wp2
  go_ret
  exact⟨rfl,0,rfl⟩
 by_cases h3:x=13
 ·subst h3
  go_wp2
  go_ret
  exact⟨rfl,0,rfl⟩
 have e1:((x:Int)==32)=false:=by rw [beq_eq_false_iff_ne];omega
 have e2:((x:Int)==9)=false:=by rw [beq_eq_false_iff_ne];omega
 have e3:((x:Int)==13)=false:=by rw [beq_eq_false_iff_ne];omega
 have HB:Hid (blankR x=false):=hideIt (by unfold blankR;simp [h1,h2,h3])
 clear h1 h2 h3
 go_wp2
 go_ret
 exact⟨by rw [HB.out];rfl,0,rfl⟩
section
variable {H:Type} {enc:TypeId×Value→H}
theorem wrap_laid_shaped {a:Assume} {C:Checked} {os:Os} {f:FuncId} {fn:Func} {s:ChangeSpec} {conds:List PathCond} {apart fresh handsOn again:Bool} {X:World→Array Value→Prop}
 (hX: ∀(w w':World) (args:Array Value),w.heap=w'.heap→X w args→X w' args)
 (own:ownKnob C.prog.godebug=none) (started:os.Started) (noInit:C.prog.inits.idxOf? f=none) (hfn:C.prog.funcs[f]?=some fn)
 (witness: ∃(w:World) (tape:Tape) (i:Input),w.os=os∧(w.forCall tape i).Shaped C.prog∧i.vars= []∧Input.okWide C.prog (w.forCall tape i) .any w.heap.size f i∧
  ((s.pre enc C.prog fn conds apart (w.forCall tape i).memory i.args∧X (w.forCall tape i).memory i.args)∧sizedMet enc C.prog fn (OpenSpec.ofChange s) apart (w.forCall tape i).memory i.args)∧a.holds C.prog (lone (Frame.enter C.prog f i.args .normal) [] (w.forCall tape i)))
 (contract: ∀(W:World) (base:Nat) (args:Array Value) (ds gs:List (DataW H)) (before:List MemPlace),
  (∀(j:Nat) t v,fn.params[j]?=some t→args[j]?=some v→Value.okWide C.prog W .any base t v)→
  DataW.Whole enc C.prog fn.params.toList s.vars apart W args.toList ds gs before→
  conds.all (PathCond.test C.prog ⟨fn.params.toList,ds,s.plain.varTypes C.prog,gs⟩)=true→
  (DataW.weightsEach C.prog (fn.params.toList++s.plain.varTypes C.prog) (ds++gs)).all (· ≤reachBytes)=true→X W args→W.ShapedOpen C.prog→
  a.holds C.prog (lone (Frame.enter C.prog f args .normal) [] W)→
  Calls C.prog f args W fun e W'=> ∃v,e= .returned v∧s.post enc C.prog fn apart fresh handsOn again W args v W'):
 ReturnsInHanded a C os f .any (fun w args=>(s.pre enc C.prog fn conds apart w args∧X w args)∧sizedMet enc C.prog fn (OpenSpec.ofChange s) apart w args) (s.post enc C.prog fn apart fresh handsOn again):=by
 refine returnsInHanded_of_calls own started noInit witness ?_
 intro w tape i _ hsh _ hok hpre hholds
 obtain⟨_,_,_,fn',hfn',_,_,_,_,hval⟩:=hok
 obtain rfl:fn'=fn:=Option.some.inj (hfn'.symm.trans hfn)
 obtain⟨⟨⟨ds,gs,before,hw,hc⟩,hx⟩,hz⟩:=hpre
 have hw':=DataW.Whole.of_heap (w':=w.forCall tape i) (by rfl) hw
 refine(contract (w.forCall tape i) w.heap.size i.args ds gs before hval hw' hc (hz.weights hw) (hX _ _ _ (show(w.forCall tape i).memory.heap=(w.forCall tape i).heap from rfl) hx) hsh hholds).mono fun e W' ⟨v,he,hp⟩=> ?_
 subst he
 exact ChangeSpec.post_blind hp
end
def wsum:List ByteArray→Nat
 | []=>0
 | x::t=>x.size+1+wsum t
theorem wsum_mem: ∀ {l:List ByteArray} {x:ByteArray},x∈l→x.size+1≤wsum l
 | y::l,x,h=>by
  rcases List.mem_cons.1 h with rfl | h
  ·show _≤_+wsum l;omega
  ·have:=wsum_mem h;show _≤_+wsum l;omega
theorem wsum_len: ∀l:List ByteArray,l.length≤wsum l
 | []=>Nat.zero_le _
 | x::l=>by have:=wsum_len l;show _≤_+wsum l;rw [List.length_cons];omega
theorem tail_len: ∀l:List ByteArray,(Lib.joinTail [32] (l.map (·.data.toList))).length=wsum l
 | []=>rfl
 | x::l=>by
  have ih:=tail_len l
  unfold Lib.joinTail at ih⊢
  simp only [List.map_cons,List.flatten_cons,List.length_append] at ih⊢
  rw [ih]
  show 1+x.data.toList.length+wsum l=x.size+1+wsum l
  have:x.data.toList.length=x.size:=by simp
  omega
theorem joinW_le: ∀l:List ByteArray,(Lib.join (l.map (·.data.toList)) [32]).length≤wsum l
 | []=>Nat.zero_le _
 | x::l=>by
  rw [List.map_cons,Lib.join_cons,List.length_append,tail_len]
  show x.data.toList.length+wsum l≤x.size+1+wsum l
  have:x.data.toList.length=x.size:=by simp
  omega
def spw:List (Nat×Nat)→Nat
 | []=>0
 | p::t=>(p.2-p.1)+1+spw t
theorem spw_app: ∀a b:List (Nat×Nat),spw (a++b)=spw a+spw b
 | [],b=>by show _=0+_;rw [Nat.zero_add];rfl
 | p::a,b=>by
  have:=spw_app a b
  show(p.2-p.1)+1+spw (a++b)=(p.2-p.1)+1+spw a+spw b
  omega
def SpOk (s:ByteArray) (pos:Nat) (st:Option Nat) (acc:List (Nat×Nat)):Prop:=
 pos≤s.size∧(∀p∈acc,p.1<p.2∧p.2≤s.size)∧(match st with | some a=>a<pos∧spw acc≤a | none=>spw acc≤pos)
theorem sp_end {s:ByteArray} {pos:Nat} {st:Option Nat} {acc:List (Nat×Nat)} (h:SpOk s pos st acc):spw (Lib.closeSpans s (acc,st))≤s.size+1∧ ∀p∈Lib.closeSpans s (acc,st),p.1<p.2∧p.2≤s.size:=by
 obtain⟨hp,ha,hs⟩:=h
 unfold Lib.closeSpans
 cases st with
 | none=>exact⟨by simp only at hs⊢;omega,ha⟩
 | some a=>
  simp only at hs⊢
  refine⟨?_,fun p hp'=> ?_⟩
  ·rw [spw_app]
   show spw acc+((s.size-a)+1+0)≤_
   omega
  ·rcases List.mem_append.1 hp' with h | h
   ·exact ha p h
   ·rw [List.mem_singleton] at h
    subst h
    exact⟨by show a<s.size;omega,Nat.le_refl _⟩
theorem sp_go (s:ByteArray): ∀(f pos:Nat) (st:Option Nat) (acc:List (Nat×Nat)),SpOk s pos st acc→
 spw (Lib.closeSpans s (Lib.spansFromP blankR s f pos st acc))≤s.size+1∧ ∀p∈Lib.closeSpans s (Lib.spansFromP blankR s f pos st acc),p.1<p.2∧p.2≤s.size
 | 0,pos,st,acc,h=>sp_end h
 | f+1,pos,st,acc,h=>by
  by_cases hlt:pos<s.size
  ·have hw:=Lib.width_pos s pos
   have hwn:pos+(Utf8.decode s pos).2≤s.size:=by
    have:=Lib.decodeN_le_n' (s.size-pos) (s.get! pos).toNat (s.get! (pos+1)).toNat (s.get! (pos+2)).toNat (s.get! (pos+3)).toNat (by omega)
    rw [←Lib.decode_at] at this
    omega
   obtain⟨hp,ha,hs⟩:=h
   simp only [Lib.spansFromP,if_pos hlt]
   cases hb:blankR (Utf8.decode s pos).1 with
   | true=>
    simp only [if_true]
    cases st with
    | none=>exact sp_go s f _ none acc ⟨hwn,ha,by simp only at hs⊢;omega⟩
    | some a=>
     simp only at hs
     refine sp_go s f _ none (acc++ [(a,pos)]) ⟨hwn,fun p hp'=> ?_,?_⟩
     ·rcases List.mem_append.1 hp' with h | h
      ·exact ha p h
      ·rw [List.mem_singleton] at h
       subst h
       exact⟨hs.1,hp⟩
     ·simp only
      rw [spw_app]
      show spw acc+((pos-a)+1+0)≤_
      omega
   | false=>
    simp only [Bool.false_eq_true,if_false]
    cases st with
    | none=>exact sp_go s f _ (some pos) acc ⟨hwn,ha,by simp only at hs⊢;omega⟩
    | some a=>exact sp_go s f _ (some a) acc ⟨hwn,ha,by simp only at hs⊢;omega⟩
  ·rw [Lib.spansFromP_end blankR s _ _ _ _ hlt]
   exact sp_end h
theorem wds_facts (s:ByteArray):wsum (wdsV s)≤s.size+1∧ ∀x∈wdsV s,0<x.size:=by
 obtain⟨h1,h2⟩:=sp_go s s.size 0 none [] ⟨Nat.zero_le _,fun p hp=>by(cases hp),Nat.zero_le _⟩
 unfold wdsV Lib.goFieldsP Lib.spansOfP
 generalize Lib.closeSpans s (Lib.spansFromP blankR s s.size 0 none [])=l at h1 h2
 refine⟨?_,fun x hx=> ?_⟩
 ·refine Nat.le_trans ?_ h1
  clear h1 h2
  induction l with
  | nil=>exact Nat.le_refl _
  | cons p l ih=>
   show(s.extract p.1 p.2).size+1+wsum (l.map _)≤(p.2-p.1)+1+spw l
   have:(s.extract p.1 p.2).size≤p.2-p.1:=by rw [ByteArray.size_extract];omega
   omega
 ·obtain⟨p,hp,rfl⟩:=List.mem_map.1 hx
  have:=h2 p hp
  rw [ByteArray.size_extract]
  omega
structure Keep (K:Nat→Prop) (w w':World):Prop where
 os:w'.os=w.os
 tape:w'.tape=w.tape
 output:w'.output=w.output
 size:w.heap.size≤w'.heap.size
 block: ∀k,k<w.heap.size→K k→w'.heap[k]?=w.heap[k]?
section
variable {K K':Nat→Prop} {w w' w'':World}
theorem Keep.refl (K:Nat→Prop) (w:World):Keep K w w:=⟨rfl,rfl,rfl,Nat.le_refl _,fun _ _ _=>rfl⟩
theorem Keep.trans (h:Keep K w w') (h':Keep K w' w''):Keep K w w'':=
 ⟨h'.os.trans h.os,h'.tape.trans h.tape,h'.output.trans h.output,Nat.le_trans h.size h'.size,fun k hk hK=>(h'.block k (Nat.lt_of_lt_of_le hk h.size) hK).trans (h.block k hk hK)⟩
theorem Keep.mono (h:Keep K w w') (hk: ∀k,K' k→K k):Keep K' w w':=⟨h.os,h.tape,h.output,h.size,fun k h1 h2=>h.block k h1 (hk k h2)⟩
theorem Keep.of_below {B:Nat} (h:Below B w w') (hk: ∀k,K k→k<w.heap.size→k<B):Keep K w w':=⟨h.os,h.tape,h.output,h.size,fun k h1 h2=>h.block k (hk k h2 h1)⟩
theorem Keep.of_all (h:Below w.heap.size w w'):Keep K w w':=Keep.of_below h (fun _ _ h=>h)
theorem Keep.below {B:Nat} (h:Keep K w w') (hB:B≤w.heap.size) (hk: ∀k,k<B→K k):Below B w w':=⟨h.os,h.tape,h.output,h.size,fun k h1=>h.block k (by omega) (hk k h1)⟩
theorem Keep.alloc (h:Keep K w w') (o:Obj):Keep K w (w'.alloc o):=h.trans (Keep.of_all ((Below.refl _ _).alloc (Nat.le_refl _) o))
theorem Keep.drewN (h:Keep K w w') (n:Nat):Keep K w (w'.drewN n):=⟨h.os,h.tape,h.output,h.size,h.block⟩
theorem Keep.drew (h:Keep K w w'):Keep K w w'.drew:=⟨h.os,h.tape,h.output,h.size,h.block⟩
theorem Keep.setCell (h:Keep K w w') {p:Addr} (hp: ¬K p.block) (u:Value):Keep K w (w'.setCell p u):=
 h.trans ⟨rfl,rfl,rfl,by simp [World.setCell],fun k _ hK=>Below.heap_setCell _ _ _ _ (fun e=>hp (e▸hK))⟩
theorem Keep.grown (h:Keep K w w') {row:Option Nat} (hg:w'.grownBy w'' row) (hr: ∀k,row=some k→ ¬K k):Keep K w w'':=
 h.trans ⟨hg.os,hg.tape,hg.output,hg.size,fun k h1 h2=>hg.block k h1 (fun e=>hr k e.symm h2)⟩
theorem Keep.all (h:Keep K w w') (hb:Below w'.heap.size w' w''):Keep K w w'':=h.trans (Keep.of_all hb)
theorem Blk.keep {g:Nat} {t:TypeId} {xs:List Value} (hb:Blk w g t xs) (h:Keep K w w') (hg:K g):Blk w' g t xs:=(h.block g hb.lt hg).trans hb
theorem own_keepK {base size:Nat} {e:TypeId} {v:Value} {n:Nat} {xs:List Value} (ho:w.ownsRow base e size v n xs) (h:Keep K w w') (hg: ∀k,v.ownBlock=some k→K k):w'.ownsRow base e size v n xs:=by
 obtain⟨h1,h2⟩:=ho
 refine⟨h1,?_⟩
 rcases h2 with h2 | ⟨g,cap,cur,rfl,hb,hh,hr⟩
 ·exact .inl h2
 ·have hlt:g<w.heap.size:=(Array.getElem?_eq_some_iff.1 hh).1
  exact .inr ⟨g,cap,cur,rfl,hb,(h.block g hlt (hg g rfl)).trans hh,hr⟩
theorem Rd.keepK {α:Type} {r:Rd α} {lo hi:Nat} {cs:List Value} {x:α} (hr:r.R w lo hi cs x) (h:Keep K w w') (hhi:hi≤w.heap.size) (hk: ∀k,lo≤k→k<hi→K k):r.R w' lo hi cs x:=
 r.keep (fun p h1 h2=>by
  have hb:=h.block p.block (by omega) (hk _ h1 h2)
  simp [World.cell?,hb]) hr
theorem own_set_ne {base size:Nat} {e:TypeId} {v:Value} {n:Nat} {xs:List Value} (ho:w.ownsRow base e size v n xs) {p:Addr} (hp:v.ownBlock≠some p.block) (u:Value):(w.setCell p u).ownsRow base e size v n xs:=
 own_keepK (K:=fun k=>k≠p.block) ho ((Keep.refl _ _).setCell (by simp) u) (fun k hk e=>hp (by rw [hk,e]))
end
end Go.Proofs.YtebgikflpgcnlaaGreatDoor
