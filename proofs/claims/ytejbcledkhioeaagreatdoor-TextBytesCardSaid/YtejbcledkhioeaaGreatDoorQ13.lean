/- Part 13 of the proof: PrsP PrsW RdrA TxtA TxtB Ruls -/
import Derived.Lib.FieldsP
import Derived.Lib.Split
import Derived.WideMake
import Derived.Test.YtejbcledkhioeaaGreatDoorQ06
import Derived.Test.YtejbcledkhioeaaGreatDoorQ12
namespace Go.Proofs.YtejbcledkhioeaaGreatDoor
set_option linter.unusedVariables false
set_option linter.unusedSimpArgs false
set_option maxRecDepth 100000
set_option maxHeartbeats 4000000
open Go.RowKit Tryz
def JU (r:Nat):Bool:=r==32||r==9||r==13
def DN (s:ByteArray):List ByteArray:=Lib.goFieldsP JU s
def gW:ByteArray:=⟨#[10]⟩
def EC (s:ByteArray):List ByteArray:=Lib.splitB gW 0 (Lib.countB s gW) s
structure Ka where
 m:AP
 st:Nat
def Br:AP:=⟨[],[],[],0,0,[],[],[]⟩
def qj:Ka:=⟨Br,0⟩
def BH (s:ByteArray):Option Int:=Mh s.data.toList
def Iy:ByteArray:=⟨#[102,108,97,103,111,110]⟩
def M6:ByteArray:=⟨#[116,121,112,101]⟩
def Iz:ByteArray:=⟨#[101,120,116,101,114,110]⟩
def Et:ByteArray:=⟨#[103,108,111,98,97,108]⟩
def JV:ByteArray:=⟨#[99,111,110,115,116]⟩
def OQ:ByteArray:=⟨#[118,97,114]⟩
def I4:ByteArray:=⟨#[109,101,109,111,114,121]⟩
def M7:ByteArray:=⟨#[102,117,110,99]⟩
def M8:ByteArray:=⟨#[100,97,116,97]⟩
def I5:ByteArray:=⟨#[101,120,112,111,114,116]⟩
def wW:ByteArray:=⟨#[119]⟩
def lW:ByteArray:=⟨#[108]⟩
def kinds:List ByteArray:= [Iy,M6,Iz,Et,I4,M7,M8,I5]
def Dx (w:ByteArray):Nat:=match kinds.idxOf? w with
 | some i=>i+1
 | none=>0
def Az (p st:Nat):Bool:=decide (st≤p)&&(!(p==1||p==5)||decide (st<p))&&(!(st==0)||p==1)&&(decide (p≤5)||decide (5≤st))
def IL (ws:List ByteArray):ByteArray:=⟨(Lib.join (ws.map (·.data.toList)) [32]).toArray⟩
def KL (c:UInt8):Option Nat:=if 48≤c.toNat∧c.toNat≤57 then some (c.toNat-48) else if 97≤c.toNat∧c.toNat≤102 then some (c.toNat-87) else none
def Jc:List UInt8→Option (List UInt8)
 | []=>some []
 | [_]=>none
 | a::b::t=>match KL a,KL b with
  | some x,some y=>(Jc t).map (UInt8.ofNat (16*x+y):: ·)
  | _,_=>none
def Ju (a b:ByteArray) (n:Int):Option EJ:=
 if(a=wW∨a=lW)∧(b=OQ∨b=JV) then
  (if a=wW then(if-2147483648≤n∧n<2147483648 then some ⟨119,decide (b=OQ),(n%4294967296).toNat⟩ else none)
   else some ⟨108,decide (b=OQ),(n%18446744073709551616).toNat⟩)
 else none
def R7 (l:ByteArray):ByteArray:=if l=dash then none_ else l
def Av (p:Nat) (m:AP) (ws:List ByteArray):Option AP:=match p,ws with
 | 1,[]=>some m
 | 2,ws=>if(El (IL ws)).2.2=0 then some {m with types:=m.types++ [⟨(El (IL ws)).1,(El (IL ws)).2.1⟩]} else none
 | 3,[a]=>(BH a).map fun n=> {m with hosts:=m.hosts++ [n]}
 | 4,[a,b,c]=>(BH c).bind fun n=>(Ju a b n).map fun g=> {m with globs:=m.globs++ [g]}
 | 5,[a,b]=>(BH a).bind fun x=>(BH b).map fun y=> {m with first:=x,most:=y}
 | 6,[a,l]=>(BH a).map fun t=> {m with fns:=m.fns++ [⟨t,R7 l,[]⟩]}
 | 7,[a,x]=>(BH a).bind fun n=>(Jc x.data.toList).map fun b=> {m with dat:=m.dat++ [⟨n,b⟩]}
 | 8,[n,f]=>(BH f).map fun k=> {m with AU:=m.AU++ [⟨n,k⟩]}
 | _,_=>none
def Lj (w:ByteArray):Option XD:=EB.find? (fun r=>decide (r.word=w))
def OT (r:XD) (ws:List ByteArray):Option DL:=
 if r.takes=0 then(match ws with | []=>some ⟨UInt8.ofNat r.op,0,[]⟩ | _=>none)
 else if r.takes=3 then(ws.mapM BH).map fun l=>⟨UInt8.ofNat r.op,0,l⟩
 else(match ws with | [a]=>(BH a).map fun n=>⟨UInt8.ofNat r.op,n,[]⟩ | _=>none)
def GJ (fns:List GR) (x:DL):List GR:=match fns.getLast? with
 | none=>fns
 | some f=>fns.dropLast++ [{f with code:=f.code++ [x]}]
def Ar (r:Ka) (l:List ByteArray):Option Ka:=match l with
 | []=>some r
 | w::ws=>
  if Dx w=0 then
   (if r.st=6 then(Lj w).bind fun o=>(OT o ws).map fun x=>⟨{r.m with fns:=GJ r.m.fns x},6⟩ else none)
  else if Az (Dx w) r.st=true then(Av (Dx w) r.m ws).map (⟨·,Dx w⟩) else none
def GV:List ByteArray→Bool
 | []=>true
 | w::_=>w.data.toList.head?==some 59
def Zx:List ByteArray→Ka→Nat→Ka⊕Nat
 | [],r,_=> .inl r
 | s::t,r,k=>if GV (DN s)=true then Zx t r (k+1) else match Ar r (DN s)with
  | none=> .inr (k+1)
  | some r'=>Zx t r' (k+1)
def Ew (s:ByteArray):AP×Int×Nat:=
 if 1048576<s.size then(Br,13,0) else match Zx (EC s) qj 0 with
  | .inr k=>(Br,22,k)
  | .inl r=>if r.st<5 then(Br,22,(EC s).length) else if GU r.m=0 then(r.m,0,0) else(Br,GU r.m,0)
def R8:List (List ByteArray)→Ka→Option Ka
 | [],r=>some r
 | l::t,r=>if GV l=true then R8 t r else(Ar r l).bind (R8 t)
theorem aK: ∀(ls:List ByteArray) (r r':Ka) (k:Nat),R8 (ls.map DN) r=some r'→Zx ls r k= .inl r'
 | [],r,r',k,h=>by
  injection h with h
  subst h
  rfl
 | s::t,r,r',k,h=>by
  have h:(if GV (DN s)=true then R8 (t.map DN) r else(Ar r (DN s)).bind (R8 (t.map DN)))=some r':=h
  show(if GV (DN s)=true then Zx t r (k+1) else _)=_
  by_cases hs:GV (DN s)=true
  ·rw [if_pos hs] at h⊢
   exact aK t r r' _ h
  ·rw [if_neg hs] at h⊢
   cases hl:Ar r (DN s)with
   | none=>rw [hl] at h;cases h
   | some x=>
    rw [hl] at h
    exact aK t x r' _ h
theorem LV: ∀(a b:List (List ByteArray)) (r r':Ka),R8 a r=some r'→R8 (a++b) r=R8 b r'
 | [],b,r,r',h=>by
  injection h with h
  subst h
  rfl
 | l::t,b,r,r',h=>by
  have h:(if GV l=true then R8 t r else(Ar r l).bind (R8 t))=some r':=h
  show(if GV l=true then R8 (t++b) r else(Ar r l).bind (R8 (t++b)))=_
  by_cases hs:GV l=true
  ·rw [if_pos hs] at h⊢
   exact LV t b r r' h
  ·rw [if_neg hs] at h⊢
   cases hl:Ar r l with
   | none=>rw [hl] at h;cases h
   | some x=>
    rw [hl] at h
    exact LV t b x r' h
theorem gX {s:ByteArray} {m:AP} {st:Nat} (hs:s.size≤1048576) (h:R8 ((EC s).map DN) qj=some ⟨m,st⟩) (hst:5≤st) (hm:GU m=0):Ew s=(m,0,0):=by
 unfold Ew
 rw [if_neg (by omega),aK _ _ _ _ h]
 simp only
 rw [if_neg (by omega),if_pos hm]
def Em:List ByteArray→Nat
 | []=>0
 | x::t=>x.size+1+Em t
theorem M9: ∀ {l:List ByteArray} {x:ByteArray},x∈l→x.size+1≤Em l
 | y::l,x,h=>by
  rcases List.mem_cons.1 h with rfl | h
  ·show _≤_+Em l;omega
  ·have:=M9 h;show _≤_+Em l;omega
theorem Oj: ∀l:List ByteArray,l.length≤Em l
 | []=>Nat.zero_le _
 | x::l=>by have:=Oj l;show _≤_+Em l;rw [List.length_cons];omega
theorem Y1: ∀l:List ByteArray,(Lib.joinTail [32] (l.map (·.data.toList))).length=Em l
 | []=>rfl
 | x::l=>by
  have ih:=Y1 l
  unfold Lib.joinTail at ih⊢
  simp only [List.map_cons,List.flatten_cons,List.length_append] at ih⊢
  rw [ih]
  show 1+x.data.toList.length+Em l=x.size+1+Em l
  have:x.data.toList.length=x.size:=by simp
  omega
theorem Ut: ∀l:List ByteArray,(Lib.join (l.map (·.data.toList)) [32]).length≤Em l
 | []=>Nat.zero_le _
 | x::l=>by
  rw [List.map_cons,Lib.join_cons,List.length_append,Y1]
  show x.data.toList.length+Em l≤x.size+1+Em l
  have:x.data.toList.length=x.size:=by simp
  omega
def eD:List (Nat×Nat)→Nat
 | []=>0
 | p::t=>(p.2-p.1)+1+eD t
theorem XP: ∀a b:List (Nat×Nat),eD (a++b)=eD a+eD b
 | [],b=>by show _=0+_;rw [Nat.zero_add];rfl
 | p::a,b=>by
  have:=XP a b
  show(p.2-p.1)+1+eD (a++b)=(p.2-p.1)+1+eD a+eD b
  omega
def AAx (s:ByteArray) (pos:Nat) (st:Option Nat) (acc:List (Nat×Nat)):Prop:=
 pos≤s.size∧(∀p∈acc,p.1<p.2∧p.2≤s.size)∧(match st with | some a=>a<pos∧eD acc≤a | none=>eD acc≤pos)
theorem mY {s:ByteArray} {pos:Nat} {st:Option Nat} {acc:List (Nat×Nat)} (h:AAx s pos st acc):eD (Lib.closeSpans s (acc,st))≤s.size+1∧ ∀p∈Lib.closeSpans s (acc,st),p.1<p.2∧p.2≤s.size:=by
 obtain⟨hp,ha,hs⟩:=h
 unfold Lib.closeSpans
 cases st with
 | none=>exact⟨by simp only at hs⊢;omega,ha⟩
 | some a=>
  simp only at hs⊢
  refine⟨?_,fun p hp'=> ?_⟩
  ·rw [XP]
   show eD acc+((s.size-a)+1+0)≤_
   omega
  ·rcases List.mem_append.1 hp' with h | h
   ·exact ha p h
   ·rw [List.mem_singleton] at h
    subst h
    exact⟨by show a<s.size;omega,Nat.le_refl _⟩
theorem Y2 (s:ByteArray): ∀(f pos:Nat) (st:Option Nat) (acc:List (Nat×Nat)),AAx s pos st acc→
 eD (Lib.closeSpans s (Lib.spansFromP JU s f pos st acc))≤s.size+1∧ ∀p∈Lib.closeSpans s (Lib.spansFromP JU s f pos st acc),p.1<p.2∧p.2≤s.size
 | 0,pos,st,acc,h=>mY h
 | f+1,pos,st,acc,h=>by
  by_cases hlt:pos<s.size
  ·have hw:=Lib.width_pos s pos
   have hwn:pos+(Utf8.decode s pos).2≤s.size:=by
    have:=Lib.decodeN_le_n' (s.size-pos) (s.get! pos).toNat (s.get! (pos+1)).toNat (s.get! (pos+2)).toNat (s.get! (pos+3)).toNat (by omega)
    rw [←Lib.decode_at] at this
    omega
   obtain⟨hp,ha,hs⟩:=h
   simp only [Lib.spansFromP,if_pos hlt]
   cases hb:JU (Utf8.decode s pos).1 with
   | true=>
    simp only [if_true]
    cases st with
    | none=>exact Y2 s f _ none acc ⟨hwn,ha,by simp only at hs⊢;omega⟩
    | some a=>
     simp only at hs
     refine Y2 s f _ none (acc++ [(a,pos)]) ⟨hwn,fun p hp'=> ?_,?_⟩
     ·rcases List.mem_append.1 hp' with h | h
      ·exact ha p h
      ·rw [List.mem_singleton] at h
       subst h
       exact⟨hs.1,hp⟩
     ·simp only
      rw [XP]
      show eD acc+((pos-a)+1+0)≤_
      omega
   | false=>
    simp only [Bool.false_eq_true,if_false]
    cases st with
    | none=>exact Y2 s f _ (some pos) acc ⟨hwn,ha,by simp only at hs⊢;omega⟩
    | some a=>exact Y2 s f _ (some a) acc ⟨hwn,ha,by simp only at hs⊢;omega⟩
  ·rw [Lib.spansFromP_end JU s _ _ _ _ hlt]
   exact mY h
theorem Ey (s:ByteArray):Em (DN s)≤s.size+1∧ ∀x∈DN s,0<x.size:=by
 obtain⟨h1,h2⟩:=Y2 s s.size 0 none [] ⟨Nat.zero_le _,fun p hp=>by(cases hp),Nat.zero_le _⟩
 unfold DN Lib.goFieldsP Lib.spansOfP
 generalize Lib.closeSpans s (Lib.spansFromP JU s s.size 0 none [])=l at h1 h2
 refine⟨?_,fun x hx=> ?_⟩
 ·refine Nat.le_trans ?_ h1
  clear h1 h2
  induction l with
  | nil=>exact Nat.le_refl _
  | cons p l ih=>
   show(s.extract p.1 p.2).size+1+Em (l.map _)≤(p.2-p.1)+1+eD l
   have:(s.extract p.1 p.2).size≤p.2-p.1:=by rw [ByteArray.size_extract];omega
   omega
 ·obtain⟨p,hp,rfl⟩:=List.mem_map.1 hx
  have:=h2 p hp
  rw [ByteArray.size_extract]
  omega
theorem Keep.Dt {K K':Nat→Prop} {w w':World} (h:Keep K w w') (hk: ∀k,k<w.heap.size→K' k→K k):Keep K' w w':=⟨h.os,h.tape,h.output,h.size,fun k h1 h2=>h.block k h1 (hk k h1 h2)⟩
structure Gc {α:Type} (r:Rd α) (e:TypeId) (B:Nat) (S:Nat→Prop) (W:World) (A:Option Addr) (n c:Nat) (cells:List Value) (xs:List α):Prop where
 own:W.ownsRow B e r.z (.slice A n c) n cells
 len:n=xs.length
 at_: ∀g,(Value.slice A n c).ownBlock=some g→S g
 els: ∀(k:Nat) x,xs[k]?=some x→ ∃lo hi,B≤lo∧hi≤W.heap.size∧(∀g,(Value.slice A n c).ownBlock=some g→g<lo∨hi≤g)∧(∀g,lo≤g→g<hi→S g)∧r.R W lo hi ((cells.drop (k*r.z)).take r.z) x
def J6 {α:Type} (r:Rd α) (e:TypeId) (B:Nat) (S:Nat→Prop) (W:World) (v:Value) (xs:List α):Prop:= ∃A c cells,v= .slice A xs.length c∧Gc r e B S W A xs.length c cells xs
section
variable {α:Type} {r:Rd α} {e:TypeId} {B:Nat} {S S':Nat→Prop} {W W':World} {A:Option Addr} {n c:Nat} {cells:List Value} {xs:List α} {v:Value}
theorem Gc.nil (r:Rd α) (e:TypeId) (B:Nat) (S:Nat→Prop) (W:World):Gc r e B S W none 0 0 [] []:=
 ⟨⟨by simp,.inl ⟨rfl,rfl⟩⟩,rfl,fun g h=>(by cases h),fun k x h=>by simp at h⟩
theorem J6.nil (r:Rd α) (e:TypeId) (B:Nat) (S:Nat→Prop) (W:World):J6 r e B S W (.slice none 0 0) []:=⟨none,0,[],rfl,Gc.nil r e B S W⟩
theorem Gc.lt (h:Gc r e B S W A n c cells xs): ∀g,(Value.slice A n c).ownBlock=some g→B≤g∧g<W.heap.size:=h.own.lt
theorem Gc.keep {K:Nat→Prop} (h:Gc r e B S W A n c cells xs) (hK:Keep K W W') (hSK: ∀k,B≤k→k<W.heap.size→S k→K k) (hS: ∀k,k<W.heap.size→S k→S' k):Gc r e B S' W' A n c cells xs:=by
 refine⟨BD (K:=fun k=>B≤k∧S k) h.own (hK.Dt fun k h1 h2=>hSK k h2.1 h1 h2.2) (fun k hk=>⟨(h.lt k hk).1,h.at_ k hk⟩),h.len,fun g hg=>hS g (h.lt g hg).2 (h.at_ g hg),fun k x hk=> ?_⟩
 obtain⟨lo,hi,h1,h2,h3,h4,h5⟩:=h.els k x hk
 exact⟨lo,hi,h1,Nat.le_trans h2 hK.size,h3,fun g ha hb=>hS g (by omega) (h4 g ha hb),Rd.GX (K:=fun k=>B≤k∧S k) h5 (hK.Dt fun k h1 h2=>hSK k h2.1 h1 h2.2) h2 (fun k ha hb=>⟨by omega,h4 k ha hb⟩)⟩
theorem J6.keep {K:Nat→Prop} (h:J6 r e B S W v xs) (hK:Keep K W W') (hSK: ∀k,B≤k→k<W.heap.size→S k→K k) (hS: ∀k,k<W.heap.size→S k→S' k):J6 r e B S' W' v xs:=by
 obtain⟨A,c,cells,rfl,h⟩:=h
 exact⟨A,c,cells,rfl,h.keep hK hSK hS⟩
theorem Gc.reads (h:Gc r e B S W A n c cells xs):(r.sl false).R W B W.heap.size [.slice A n c] xs:=by
 refine Rd.own false h.own h.len fun k x hk=> ?_
 obtain⟨lo,hi,h1,h2,_,_,h4⟩:=h.els k x hk
 exact r.more h1 h2 h4
theorem J6.reads (h:J6 r e B S W v xs):(r.sl false).R W B W.heap.size [v] xs:=by
 obtain⟨A,c,cells,rfl,h⟩:=h
 exact h.reads
theorem Gc.snoc {w0 w3 w4:World} (h:Gc r e B S w0 A n c cells xs) (hb:Below w0.heap.size w0 w3) (hB:B≤w0.heap.size) {A':Option Addr} {c' lo hi:Nat} {cs:List Value} {x:α} (hr:r.R w3 lo hi cs x) (hlo:w0.heap.size≤lo) (hhi:hi≤w3.heap.size)
 (ho:w4.ownsRow B e r.z (.slice A' (n+1) c') (n+1) (cells++cs)) (hg:w3.grownBy w4 (Value.slice A n c).ownBlock) (hat:(Value.slice A' (n+1) c').ownBlock=(Value.slice A n c).ownBlock∨(Value.slice A' (n+1) c').ownBlock=some w3.heap.size)
 (hS: ∀k,k<w0.heap.size→S k→S' k) (hnew: ∀k,w0.heap.size≤k→S' k):Gc r e B S' w4 A' (n+1) c' (cells++cs) (xs++ [x]):=by
 have hl:cells.length=n*r.z:=h.own.1
 have hcs:cs.length=r.z:=r.len hr
 have mW: ∀ {lo hi:Nat},hi≤w3.heap.size→(∀g,(Value.slice A n c).ownBlock=some g→g<lo∨hi≤g)→ ∀g,(Value.slice A' (n+1) c').ownBlock=some g→g<lo∨hi≤g:=fun hh ha g hg'=>by
  rcases hat with h1 | h1
  ·exact ha g (h1▸hg')
  ·rw [h1] at hg';injection hg' with hg';right;omega
 refine⟨ho,by rw [List.length_append,←h.len];rfl,fun g hg'=> ?_,fun k y hk=> ?_⟩
 ·rcases hat with h1 | h1
  ·have h2:=h1▸hg'
   exact hS g (h.lt g h2).2 (h.at_ g h2)
  ·rw [h1] at hg';injection hg' with hg'
   exact hnew g (by have:=hb.size;omega)
 rw [List.getElem?_append] at hk
 split at hk
 ·rename_i hlt
  obtain⟨l1,h1,g1,g2,g3,g5,g4⟩:=h.els k y hk
  have g2':h1≤w3.heap.size:=Nat.le_trans g2 hb.size
  refine⟨l1,h1,g1,Nat.le_trans g2' hg.size,mW g2' g3,fun g ha hb'=>hS g (by omega) (g5 g ha hb'),?_⟩
  have hkn:k*r.z+r.z≤cells.length:=by
   rw [hl,←Nat.succ_mul]
   exact Nat.mul_le_mul_right _ (by rw [h.len];exact hlt)
  rw [List.drop_append_of_le_length (by omega),List.take_append_of_le_length (by rw [List.length_drop];omega)]
  exact r.grown (r.below g4 hb g2) hg g2' g3
 ·rename_i hge
  have hk0:k=xs.length:=by
   have:=(List.getElem?_eq_some_iff.1 hk).1
   simp at this;omega
  subst hk0
  rw [Nat.sub_self] at hk
  simp at hk
  subst hk
  have hown: ∀g,(Value.slice A n c).ownBlock=some g→g<lo∨hi≤g:=fun g hg'=> .inl (by have:=(h.lt g hg').2;omega)
  refine⟨lo,hi,by omega,Nat.le_trans hhi hg.size,mW hhi hown,fun g ha hb'=>hnew g (by omega),?_⟩
  rw [←h.len,←hl,List.drop_left' rfl,←hcs,List.take_length]
  exact r.grown hr hg hhi hown
end
structure Ur (B:Nat) (col:Nat→Nat) (W:World) (v1 v2 v3 v6 v7 v8:Value) (m:AP):Prop where
 p1:J6 LD 51 B (fun k=>col k=1) W v1 m.types
 p2:J6 Rd.i64 3 B (fun k=>col k=2) W v2 m.hosts
 p3:J6 Jf 82 B (fun k=>col k=3) W v3 m.globs
 p6:J6 Rt 56 B (fun k=>col k=6) W v6 m.fns
 p7:J6 JC 59 B (fun k=>col k=7) W v7 m.dat
 p8:J6 Lf 61 B (fun k=>col k=8) W v8 m.AU
def Dy (w:World) (col:Nat→Nat) (i:Nat):Nat→Nat:=fun k=>if k<w.heap.size then col k else i
theorem AV {w:World} {col:Nat→Nat} {i j k:Nat} (h:k<w.heap.size) (hc:col k=j):Dy w col i k=j:=by unfold Dy;rw [if_pos h];exact hc
theorem EY {w:World} {col:Nat→Nat} {i k:Nat} (h:w.heap.size≤k):Dy w col i k=i:=by unfold Dy;rw [if_neg (by omega)]
section
variable {B:Nat} {col:Nat→Nat} {W W':World} {v1 v2 v3 v6 v7 v8:Value} {m:AP}
theorem Ur.keep {K:Nat→Prop} (h:Ur B col W v1 v2 v3 v6 v7 v8 m) (hK:Keep K W W') (hk: ∀k,B≤k→k<W.heap.size→col k≠0→K k) (col':Nat→Nat) (hc: ∀k,k<W.heap.size→col k≠0→col' k=col k):Ur B col' W' v1 v2 v3 v6 v7 v8 m:=by
 refine⟨h.p1.keep hK (fun k hB hlt e=>hk k hB hlt (by rw [e];decide)) (fun k hlt e=>by rw [hc k hlt (by rw [e];decide)];exact e),h.p2.keep hK (fun k hB hlt e=>hk k hB hlt (by rw [e];decide)) (fun k hlt e=>by rw [hc k hlt (by rw [e];decide)];exact e),h.p3.keep hK (fun k hB hlt e=>hk k hB hlt (by rw [e];decide)) (fun k hlt e=>by rw [hc k hlt (by rw [e];decide)];exact e),h.p6.keep hK (fun k hB hlt e=>hk k hB hlt (by rw [e];decide)) (fun k hlt e=>by rw [hc k hlt (by rw [e];decide)];exact e),h.p7.keep hK (fun k hB hlt e=>hk k hB hlt (by rw [e];decide)) (fun k hlt e=>by rw [hc k hlt (by rw [e];decide)];exact e),h.p8.keep hK (fun k hB hlt e=>hk k hB hlt (by rw [e];decide)) (fun k hlt e=>by rw [hc k hlt (by rw [e];decide)];exact e)⟩
theorem Ur.AAs {w0 w4:World} (h:Ur B col w0 v1 v2 v3 v6 v7 v8 m) {K:Nat→Prop} (hK:Keep K w0 w4) (hk: ∀k,B≤k→k<w0.heap.size→col k≠1→col k≠0→K k) {v':Value} {xs:List DI}
 (hn:J6 LD 51 B (fun k=>Dy w0 col 1 k=1) w4 v' xs):Ur B (Dy w0 col 1) w4 v' v2 v3 v6 v7 v8 {m with types:=xs}:=by
 refine⟨hn,h.p2.keep hK (fun k hB hlt e=>hk k hB hlt (by rw [e];decide) (by rw [e];decide)) (fun k hlt e=>AV hlt e),h.p3.keep hK (fun k hB hlt e=>hk k hB hlt (by rw [e];decide) (by rw [e];decide)) (fun k hlt e=>AV hlt e),h.p6.keep hK (fun k hB hlt e=>hk k hB hlt (by rw [e];decide) (by rw [e];decide)) (fun k hlt e=>AV hlt e),h.p7.keep hK (fun k hB hlt e=>hk k hB hlt (by rw [e];decide) (by rw [e];decide)) (fun k hlt e=>AV hlt e),h.p8.keep hK (fun k hB hlt e=>hk k hB hlt (by rw [e];decide) (by rw [e];decide)) (fun k hlt e=>AV hlt e)⟩
theorem Ur.AAt {w0 w4:World} (h:Ur B col w0 v1 v2 v3 v6 v7 v8 m) {K:Nat→Prop} (hK:Keep K w0 w4) (hk: ∀k,B≤k→k<w0.heap.size→col k≠2→col k≠0→K k) {v':Value} {xs:List Int}
 (hn:J6 Rd.i64 3 B (fun k=>Dy w0 col 2 k=2) w4 v' xs):Ur B (Dy w0 col 2) w4 v1 v' v3 v6 v7 v8 {m with hosts:=xs}:=by
 refine⟨h.p1.keep hK (fun k hB hlt e=>hk k hB hlt (by rw [e];decide) (by rw [e];decide)) (fun k hlt e=>AV hlt e),hn,h.p3.keep hK (fun k hB hlt e=>hk k hB hlt (by rw [e];decide) (by rw [e];decide)) (fun k hlt e=>AV hlt e),h.p6.keep hK (fun k hB hlt e=>hk k hB hlt (by rw [e];decide) (by rw [e];decide)) (fun k hlt e=>AV hlt e),h.p7.keep hK (fun k hB hlt e=>hk k hB hlt (by rw [e];decide) (by rw [e];decide)) (fun k hlt e=>AV hlt e),h.p8.keep hK (fun k hB hlt e=>hk k hB hlt (by rw [e];decide) (by rw [e];decide)) (fun k hlt e=>AV hlt e)⟩
theorem Ur.AAu {w0 w4:World} (h:Ur B col w0 v1 v2 v3 v6 v7 v8 m) {K:Nat→Prop} (hK:Keep K w0 w4) (hk: ∀k,B≤k→k<w0.heap.size→col k≠3→col k≠0→K k) {v':Value} {xs:List EJ}
 (hn:J6 Jf 82 B (fun k=>Dy w0 col 3 k=3) w4 v' xs):Ur B (Dy w0 col 3) w4 v1 v2 v' v6 v7 v8 {m with globs:=xs}:=by
 refine⟨h.p1.keep hK (fun k hB hlt e=>hk k hB hlt (by rw [e];decide) (by rw [e];decide)) (fun k hlt e=>AV hlt e),h.p2.keep hK (fun k hB hlt e=>hk k hB hlt (by rw [e];decide) (by rw [e];decide)) (fun k hlt e=>AV hlt e),hn,h.p6.keep hK (fun k hB hlt e=>hk k hB hlt (by rw [e];decide) (by rw [e];decide)) (fun k hlt e=>AV hlt e),h.p7.keep hK (fun k hB hlt e=>hk k hB hlt (by rw [e];decide) (by rw [e];decide)) (fun k hlt e=>AV hlt e),h.p8.keep hK (fun k hB hlt e=>hk k hB hlt (by rw [e];decide) (by rw [e];decide)) (fun k hlt e=>AV hlt e)⟩
theorem Ur.put6 {w0 w4:World} (h:Ur B col w0 v1 v2 v3 v6 v7 v8 m) {K:Nat→Prop} (hK:Keep K w0 w4) (hk: ∀k,B≤k→k<w0.heap.size→col k≠6→col k≠0→K k) {v':Value} {xs:List GR}
 (hn:J6 Rt 56 B (fun k=>Dy w0 col 6 k=6) w4 v' xs):Ur B (Dy w0 col 6) w4 v1 v2 v3 v' v7 v8 {m with fns:=xs}:=by
 refine⟨h.p1.keep hK (fun k hB hlt e=>hk k hB hlt (by rw [e];decide) (by rw [e];decide)) (fun k hlt e=>AV hlt e),h.p2.keep hK (fun k hB hlt e=>hk k hB hlt (by rw [e];decide) (by rw [e];decide)) (fun k hlt e=>AV hlt e),h.p3.keep hK (fun k hB hlt e=>hk k hB hlt (by rw [e];decide) (by rw [e];decide)) (fun k hlt e=>AV hlt e),hn,h.p7.keep hK (fun k hB hlt e=>hk k hB hlt (by rw [e];decide) (by rw [e];decide)) (fun k hlt e=>AV hlt e),h.p8.keep hK (fun k hB hlt e=>hk k hB hlt (by rw [e];decide) (by rw [e];decide)) (fun k hlt e=>AV hlt e)⟩
theorem Ur.AAv {w0 w4:World} (h:Ur B col w0 v1 v2 v3 v6 v7 v8 m) {K:Nat→Prop} (hK:Keep K w0 w4) (hk: ∀k,B≤k→k<w0.heap.size→col k≠7→col k≠0→K k) {v':Value} {xs:List EU}
 (hn:J6 JC 59 B (fun k=>Dy w0 col 7 k=7) w4 v' xs):Ur B (Dy w0 col 7) w4 v1 v2 v3 v6 v' v8 {m with dat:=xs}:=by
 refine⟨h.p1.keep hK (fun k hB hlt e=>hk k hB hlt (by rw [e];decide) (by rw [e];decide)) (fun k hlt e=>AV hlt e),h.p2.keep hK (fun k hB hlt e=>hk k hB hlt (by rw [e];decide) (by rw [e];decide)) (fun k hlt e=>AV hlt e),h.p3.keep hK (fun k hB hlt e=>hk k hB hlt (by rw [e];decide) (by rw [e];decide)) (fun k hlt e=>AV hlt e),h.p6.keep hK (fun k hB hlt e=>hk k hB hlt (by rw [e];decide) (by rw [e];decide)) (fun k hlt e=>AV hlt e),hn,h.p8.keep hK (fun k hB hlt e=>hk k hB hlt (by rw [e];decide) (by rw [e];decide)) (fun k hlt e=>AV hlt e)⟩
theorem Ur.AAw {w0 w4:World} (h:Ur B col w0 v1 v2 v3 v6 v7 v8 m) {K:Nat→Prop} (hK:Keep K w0 w4) (hk: ∀k,B≤k→k<w0.heap.size→col k≠8→col k≠0→K k) {v':Value} {xs:List Jy}
 (hn:J6 Lf 61 B (fun k=>Dy w0 col 8 k=8) w4 v' xs):Ur B (Dy w0 col 8) w4 v1 v2 v3 v6 v7 v' {m with AU:=xs}:=by
 refine⟨h.p1.keep hK (fun k hB hlt e=>hk k hB hlt (by rw [e];decide) (by rw [e];decide)) (fun k hlt e=>AV hlt e),h.p2.keep hK (fun k hB hlt e=>hk k hB hlt (by rw [e];decide) (by rw [e];decide)) (fun k hlt e=>AV hlt e),h.p3.keep hK (fun k hB hlt e=>hk k hB hlt (by rw [e];decide) (by rw [e];decide)) (fun k hlt e=>AV hlt e),h.p6.keep hK (fun k hB hlt e=>hk k hB hlt (by rw [e];decide) (by rw [e];decide)) (fun k hlt e=>AV hlt e),h.p7.keep hK (fun k hB hlt e=>hk k hB hlt (by rw [e];decide) (by rw [e];decide)) (fun k hlt e=>AV hlt e),hn⟩
end
structure Dv (hi:Nat) (w:World):Prop where
 pow: ∀w',Below hi w w'→Lib.TabIs prog w' "internal/strconv.uint64pow10" .u64 Lib.pow10Tab
 sI: ∀w',Below hi w w'→Lib.TabIs prog w' "strings.asciiSpace" .u8 Lib.asciiSpaceTab
 syn: ∀w',Below hi w w'→ ∃tp p,w'.var? prog "strconv.ErrSyntax"=some #[.iface tp p]
 rng: ∀w',Below hi w w'→ ∃tp p,w'.var? prog "strconv.ErrRange"=some #[.iface tp p]
 mx: ∀w',Below hi w w'→ ∃m:Int,w'.cell? ⟨0,0,none⟩=some (.int .i64 m)
theorem Dv.to {hi:Nat} {w w':World} (h:Dv hi w) (hb:Below hi w w'):Dv hi w':=
 ⟨fun v hv=>h.pow v (hb.trans hv),fun v hv=>h.sI v (hb.trans hv),fun v hv=>h.syn v (hb.trans hv),fun v hv=>h.rng v (hb.trans hv),fun v hv=>h.mx v (hb.trans hv)⟩
theorem Dv.up {hi B:Nat} {w w':World} (h:Dv hi w) (hb:Below B w w') (hB:hi≤B):Dv hi w':=h.to (hb.mono hB)
def QT:List PanicEntry:= [{v:= .iface 106 (.agg #[]),recovered:=false}]
theorem AO (w:World):Calls prog 60 #[.bool true] w fun en w'=>w=w'∧en= .returned (.tuple #[]):=by
 go_enter func60,ntmps60
 go_wp2
 go_end0
 exact⟨rfl,rfl⟩
theorem AY (w:World):Calls prog 60 #[.bool false] w fun en w'=>w=w'∧en= .panicked QT:=by
 go_enter func60,ntmps60
 go_wp2
 exact⟨rfl,rfl,rfl⟩
def vk (b:Bool) (e:Ending):Prop:=(b=true∧e= .returned (.tuple #[]))∨(b=false∧e= .panicked QT)
theorem Qs (b:Bool) (w:World):Calls prog 60 #[.bool b] w fun en w'=>w=w'∧vk b en:=by
 cases b with
 | true=>exact(AO w).mono fun en w' h=>⟨h.1,.inl ⟨rfl,h.2⟩⟩
 | false=>exact(AY w).mono fun en w' h=>⟨h.1,.inr ⟨rfl,h.2⟩⟩
theorem BU (A:Option Addr) (n c k:Nat) (w:World):Calls prog 140 #[.slice A n c,.int .i64 k] w fun en w'=>w=w'∧vk (decide (n=k)) en:=by
 by_cases h:n=k
 ·have hd:((n:Int)==(k:Int))=true:=by rw [h];exact beq_self_eq_true _
  have HD:Hid (decide (n=k)=true):=AA (decide_eq_true h)
  clear h
  go_enter func140,ntmps140
  go_wp2_with fail
  refine(AO w).mono ?_
  rintro e w' ⟨rfl,rfl⟩
  go_wp2_with fail
  go_end0
  exact⟨rfl,.inl ⟨HD.out,rfl⟩⟩
 ·have hd:((n:Int)==(k:Int))=false:=by rw [beq_eq_false_iff_ne];omega
  have HD:Hid (decide (n=k)=false):=AA (decide_eq_false h)
  clear h
  go_enter func140,ntmps140
  go_wp2_with fail
  refine(AY w).mono ?_
  rintro e w' ⟨rfl,rfl⟩
  go_wp2_with fail
  exact⟨rfl,rfl,.inr ⟨HD.out,rfl⟩⟩
theorem mX (s:ByteArray) (w:World):Calls prog 35 #[.string s] w fun e w'=>w=w'∧e= .returned (.string (DV s)):=by
 by_cases h:s=none_
 ·subst h
  have hE:none_.toList.isEmpty=true:=by decide+kernel
  go_enter func35,ntmps35
  go_wp2
  go_ret
  exact⟨rfl,rfl⟩
 ·have HF:Hid (DV s=s):=AA (if_neg h)
  have hE:=Ud h
  clear h
  go_enter func35,ntmps35
  go_wp2
  go_ret
  exact⟨rfl,by rw [HF.out];rfl⟩
theorem Lb (n:Int) (hn:Rd.ER n) {hi:Nat} (w:World) (hE:Dv hi w) (hhi:hi≤w.heap.size):
 Calls prog 33 #[.int .i64 n] w fun e w'=>Below w.heap.size w w'∧e= .returned (.string ⟨(Lib.itoa n).toArray⟩):=by
 have HF:=AA (strconv_FormatInt_10 n hn.1 (by have:=hn.2;omega) w (hE.pow w (Below.refl _ _)))
 clear hE hn
 go_enter func33,ntmps33
 go_wp2_with fail
 refine HF.out.mono ?_
 rintro e w' ⟨rfl,k,os,rfl⟩
 go_wp2_with fail
 go_ret
 exact⟨Lib.below_grow _ _ (Nat.le_refl _) k os,rfl⟩
theorem Nr (n:Int) (hn:Rd.ER n) {hi:Nat} (w:World) (hE:Dv hi w) (hhi:hi≤w.heap.size):
 Calls prog 32 #[.int .i64 n] w fun e w'=>Below w.heap.size w w'∧e= .returned (.string ⟨(Lib.itoa n).toArray⟩):=by
 have HF:=AA (strconv_FormatInt_10 n hn.1 (by have:=hn.2;omega) w (hE.pow w (Below.refl _ _)))
 clear hE hn
 go_enter func32,ntmps32
 go_wp2_with fail
 refine HF.out.mono ?_
 rintro e w' ⟨rfl,k,os,rfl⟩
 go_wp2_with fail
 go_ret
 exact⟨Lib.below_grow _ _ (Nat.le_refl _) k os,rfl⟩
theorem aP (w:World):PredAtRunes prog 148 #[] JU w:=fun W x hx hb=>by
 have hr:x<2147483648:=by omega
 go_enter func148,ntmps148
 by_cases h1:x=32
 ·subst h1
  go_wp2
  go_ret
  exact⟨rfl,0,rfl⟩
 by_cases h2:x=9
 ·subst h2
  go_wp2
  go_ret
  exact⟨rfl,0,rfl⟩
 by_cases h3:x=13
 ·subst h3
  go_wp2
  go_ret
  exact⟨rfl,0,rfl⟩
 have e1:((x:Int)==32)=false:=by rw [beq_eq_false_iff_ne];omega
 have e2:((x:Int)==9)=false:=by rw [beq_eq_false_iff_ne];omega
 have e3:((x:Int)==13)=false:=by rw [beq_eq_false_iff_ne];omega
 have HB:Hid (JU x=false):=AA (by unfold JU;simp [h1,h2,h3])
 clear h1 h2 h3
 go_wp2
 go_ret
 exact⟨by rw [HB.out];rfl,0,rfl⟩
theorem XQ (w:World) (e:TypeId) (t:ByteArray):Below w.heap.size w (Lib.bytesWorld w e t):=
 ⟨rfl,rfl,rfl,by rw [Lib.bytesWorld_size];omega,fun k hk=>Lib.bytesWorld_at_old w e t k hk⟩
theorem aQ (l:List UInt8):(∃v,Lib.parseIntB 64 l= .ok v)∨Lib.parseIntB 64 l= .range∨Lib.parseIntB 64 l=Lib.parseIntB 64 []:=by
 cases Lib.parseIntB 64 l
 all_goals first | exact .inl ⟨_,rfl⟩ | exact .inr (.inl rfl) | exact .inr (.inr rfl)
theorem AAy (v:Int):Lib.parseIntB 64 []≠ .ok v:=fun e=>by cases e
def sJ (s:ByteArray) (w:World) (e:Ending) (w':World):Prop:=
 Below w.heap.size w w'∧((BH s=none∧e= .panicked QT)∨ ∃n,BH s=some n∧Rd.ER n∧e= .returned (.int .i64 n))
theorem CQ (s:ByteArray) (hs:s.size≤281474976710656) {hi:Nat} (w:World) (hE:Dv hi w) (hhi:hi≤w.heap.size):
 Calls prog 142 #[.string s] w (sJ s w):=by
 rcases aQ s.data.toList with⟨v,hp⟩ | hp | hp
 case inl=>
  obtain⟨hv,hk⟩:=yC hp
  have HF:=AA (strconv_ParseInt_10_at64_ok s (by omega) v hp w)
  have HV:Hid (Rd.ER v):=AA ⟨hv.1,by omega⟩
  have HE:=AA hE;have HHI:=AA hhi;have HK:=AA hk
  clear hE hhi hk hv hp hs
  go_enter func142,ntmps142
  go_wp2_with fail
  refine HF.out.mono ?_
  rintro e w1 ⟨rfl,hw1⟩
  have hb1:Below w.heap.size w w1:=by
   rcases hw1 with rfl | ⟨t,rfl⟩
   ·exact Below.refl _ _
   ·exact XQ _ _ _
  have HB1:=AA hb1
  clear hw1 HF hb1
  go_wp2_with fail
  refine(Lb v HV.out w1 (HE.out.up HB1.out HHI.out) (Nat.le_trans HHI.out HB1.out.size)).mono ?_
  rintro e w2 ⟨hb2,rfl⟩
  have HB2:=AA (HB1.out.trans (hb2.mono HB1.out.size))
  clear hb2
  rcases HK.out with⟨h1,h2⟩ | ⟨h1,h2⟩
  ·have hq:(Lib.itoa v==s.toList)=true:=by
    rw [ByteArray.toList_eq];simpa using h1
   have H2:=AA h2
   clear h1 h2 HK
   go_wp2_with fail
   refine(AO _).mono ?_
   rintro e w3 ⟨rfl,rfl⟩
   go_wp2_with fail
   go_ret
   exact⟨HB2.out,.inr ⟨v,H2.out,HV.out,rfl⟩⟩
  ·have hq:(Lib.itoa v==s.toList)=false:=by
    rw [ByteArray.toList_eq];simpa using h1
   have H2:=AA h2
   clear h1 h2 HK
   go_wp2_with fail
   refine(AY _).mono ?_
   rintro e w3 ⟨rfl,rfl⟩
   go_wp2_with fail
   exact⟨rfl,HB2.out,.inl ⟨H2.out,rfl⟩⟩
 case inr.inr=>
  have HN:Hid (BH s=none):=AA (eB (fun v h=>AAy v (hp.symm.trans h)))
  obtain⟨tp,p,hvar⟩:=hE.syn w (Below.refl _ _)
  have HF:=AA (strconv_ParseInt_10_at64_syntax_var s hs hp tp p w hvar)
  clear hE hhi hp hs hvar
  go_enter func142,ntmps142
  go_wp2_with fail
  refine HF.out.mono ?_
  rintro e w1 ⟨N,rfl,_,_,hb1⟩
  have HB1:=AA hb1
  clear HF hb1
  go_wp2_with fail
  refine(AY _).mono ?_
  rintro e w3 ⟨rfl,rfl⟩
  go_wp2_with fail
  exact⟨rfl,HB1.out,.inl ⟨HN.out,rfl⟩⟩
 case inr.inl=>
  have HN:Hid (BH s=none):=AA (eB (fun v h=>by rw [hp] at h;cases h))
  obtain⟨tp,p,hvar⟩:=hE.rng w (Below.refl _ _)
  have HF:=AA (strconv_ParseInt_10_at64_range_var s hs hp tp p w hvar)
  clear hE hhi hp hs hvar
  go_enter func142,ntmps142
  go_wp2_with fail
  refine HF.out.mono ?_
  rintro e w1 ⟨N,rfl,_,_,hb1⟩
  have HB1:=AA hb1
  clear HF hb1
  go_wp2_with fail
  refine(AY _).mono ?_
  rintro e w3 ⟨rfl,rfl⟩
  go_wp2_with fail
  exact⟨rfl,HB1.out,.inl ⟨HN.out,rfl⟩⟩
theorem Ez (s:ByteArray) (hs:s.size≤4294967296) (w:World):
 Calls prog 97 #[.string s] w fun e w'=> ∃A,e= .returned (.slice (some ⟨A,0,none⟩) (DN s).length (DN s).length)∧w.heap.size≤A∧
  w'.ownsRow w.heap.size 9 1 (.slice (some ⟨A,0,none⟩) (DN s).length (DN s).length) (DN s).length ((DN s).map Value.string)∧Below w.heap.size w w':=by
 have HF:=AA (strings_FieldsFunc_runes 148 #[] (enters_of func148 (by kernel_rfl) rfl) JU s w hs (aP w))
 go_enter func97,ntmps97
 go_wp2_with fail
 refine HF.out.mono ?_
 rintro e w1 ⟨A,rfl,hA,ho,hb⟩
 have HA:=AA hA;have HO:=AA ho;have HB:=AA hb
 clear hA ho hb HF
 go_wp2_with fail
 go_ret
 exact⟨A,rfl,HA.out,HO.out,HB.out⟩
theorem set_push {α:Type} (xs:Array α) (a b:α):(xs.push a).setIfInBounds xs.size b=xs.push b:=by
 apply Array.toList_inj.1
 simp [Array.toList_setIfInBounds,List.set_append]
theorem Me {P:Program} (mty kt et:TypeId) (w:World) (es:Array MapEntry) (clock:Nat) (s:ByteArray) (val:Value) (hm:P.underlying mty=some (.map kt et)) (hk:P.underlying kt=some .string)
 (hf:Instr.findNow .string (.string s) es.toList 0=some none):
 (Instr.mapUpdate mty (.map (some w.heap.size)) (.string s) val).run P (w.alloc (.map es clock))= .ok () (w.alloc (.map (es.push {key:= .string s,val:=val,born:=clock}) (clock+1))):=by
 have hb:(w.alloc (.map es clock)).heap[w.heap.size]?=some (.map es clock):=Array.getElem?_push_size
 have hc:(Instr.checkKey false 10000 kt (.string s)).run P (w.alloc (.map es clock))= .ok () (w.alloc (.map es clock)):=MapKept.run_checkKey (k:= .string s) hk (by simp [MapKept.IsKey]) false 9999
 have h1:(Instr.mapUpdate mty (.map (some w.heap.size)) (.string s) val).run P (w.alloc (.map es clock))= .ok () {(w.alloc (.map es clock))with heap:=(w.alloc (.map es clock)).heap.setIfInBounds w.heap.size (.map (es.push {key:= .string s,val:=val,born:=clock}) (clock+1))}:=by
  generalize w.alloc (.map es clock)=W at*
  simp [Instr.mapUpdate,run_underlying hm,MapKept.run_getObj_map hb,hc,MapKept.run_findKey hk hf,MapKept.run_setObj_map _ hb,Result.andThen]
 rw [h1]
 have h2:(w.alloc (.map es clock)).heap.setIfInBounds w.heap.size (.map (es.push {key:= .string s,val:=val,born:=clock}) (clock+1))=w.heap.push (.map (es.push {key:= .string s,val:=val,born:=clock}) (clock+1)):=by
  exact set_push _ _ _
 rw [h2]
 rfl
def TL (k f:Nat):Value:= .agg #[.int .i64 k,.func (.func f) #[] #[]]
def Gf:Array MapEntry:= #[⟨.string Iy,TL 1 88,0⟩,⟨.string M6,TL 2 89,1⟩,⟨.string Iz,TL 3 90,2⟩,⟨.string Et,TL 4 91,3⟩,
 ⟨.string I4,TL 5 92,4⟩,⟨.string M7,TL 6 93,5⟩,⟨.string M8,TL 7 94,6⟩,⟨.string I5,TL 8 95,7⟩]
def Fu (k:Nat):Array MapEntry:=Gf.extract 0 k
theorem iZ (w:World):Calls prog 57 #[] w fun e w'=>e= .returned (.map (some w.heap.size))∧w'=w.alloc (.map Gf 8):=by
 have hm0:(Instr.makeMap 108 none).run prog w= .ok (.map (some w.heap.size)) (w.alloc (.map (Fu 0) 0)):=run_makeMap_plain w _
 have hm1:(Instr.mapUpdate 108 (.map (some w.heap.size)) (.string ⟨#[102,108,97,103,111,110]⟩) (.agg #[.int .i64 1,.func (.func 88) #[] #[]])).run prog (w.alloc (.map (Fu 0) 0))= .ok () (w.alloc (.map (Fu 1) 1)):=
  (Me (P:=prog) 108 9 148 w (Fu 0) 0 _ _ underlying108 underlying9 (by kernel_rfl)).trans (by kernel_rfl)
 have hm2:(Instr.mapUpdate 108 (.map (some w.heap.size)) (.string ⟨#[116,121,112,101]⟩) (.agg #[.int .i64 2,.func (.func 89) #[] #[]])).run prog (w.alloc (.map (Fu 1) 1))= .ok () (w.alloc (.map (Fu 2) 2)):=
  (Me (P:=prog) 108 9 148 w (Fu 1) 1 _ _ underlying108 underlying9 (by kernel_rfl)).trans (by kernel_rfl)
 have IX:(Instr.mapUpdate 108 (.map (some w.heap.size)) (.string ⟨#[101,120,116,101,114,110]⟩) (.agg #[.int .i64 3,.func (.func 90) #[] #[]])).run prog (w.alloc (.map (Fu 2) 2))= .ok () (w.alloc (.map (Fu 3) 3)):=
  (Me (P:=prog) 108 9 148 w (Fu 2) 2 _ _ underlying108 underlying9 (by kernel_rfl)).trans (by kernel_rfl)
 have qx:(Instr.mapUpdate 108 (.map (some w.heap.size)) (.string ⟨#[103,108,111,98,97,108]⟩) (.agg #[.int .i64 4,.func (.func 91) #[] #[]])).run prog (w.alloc (.map (Fu 3) 3))= .ok () (w.alloc (.map (Fu 4) 4)):=
  (Me (P:=prog) 108 9 148 w (Fu 3) 3 _ _ underlying108 underlying9 (by kernel_rfl)).trans (by kernel_rfl)
 have Z7:(Instr.mapUpdate 108 (.map (some w.heap.size)) (.string ⟨#[109,101,109,111,114,121]⟩) (.agg #[.int .i64 5,.func (.func 92) #[] #[]])).run prog (w.alloc (.map (Fu 4) 4))= .ok () (w.alloc (.map (Fu 5) 5)):=
  (Me (P:=prog) 108 9 148 w (Fu 4) 4 _ _ underlying108 underlying9 (by kernel_rfl)).trans (by kernel_rfl)
 have MC:(Instr.mapUpdate 108 (.map (some w.heap.size)) (.string ⟨#[102,117,110,99]⟩) (.agg #[.int .i64 6,.func (.func 93) #[] #[]])).run prog (w.alloc (.map (Fu 5) 5))= .ok () (w.alloc (.map (Fu 6) 6)):=
  (Me (P:=prog) 108 9 148 w (Fu 5) 5 _ _ underlying108 underlying9 (by kernel_rfl)).trans (by kernel_rfl)
 have bE:(Instr.mapUpdate 108 (.map (some w.heap.size)) (.string ⟨#[100,97,116,97]⟩) (.agg #[.int .i64 7,.func (.func 94) #[] #[]])).run prog (w.alloc (.map (Fu 6) 6))= .ok () (w.alloc (.map (Fu 7) 7)):=
  (Me (P:=prog) 108 9 148 w (Fu 6) 6 _ _ underlying108 underlying9 (by kernel_rfl)).trans (by kernel_rfl)
 have hm8:(Instr.mapUpdate 108 (.map (some w.heap.size)) (.string ⟨#[101,120,112,111,114,116]⟩) (.agg #[.int .i64 8,.func (.func 95) #[] #[]])).run prog (w.alloc (.map (Fu 7) 7))= .ok () (w.alloc (.map (Fu 8) 8)):=
  (Me (P:=prog) 108 9 148 w (Fu 7) 7 _ _ underlying108 underlying9 (by kernel_rfl)).trans (by kernel_rfl)
 have hfin:w.alloc (.map (Fu 8) 8)=w.alloc (.map Gf 8):=by kernel_rfl
 go_enter func57,ntmps57
 go_wp2_with fail
 go_ret
 exact⟨rfl,hfin⟩
end Go.Proofs.YtejbcledkhioeaaGreatDoor
