/- Part 6 of the proof: PrsP NumP TxtA WireE CopyB -/
import Derived.Lib.FieldsP
import Derived.Lib.Split
import Derived.Lib.ParseIntBTie
import Derived.Lib.ParseIntBCases
import Derived.WalkSmall
import Derived.Lib.AppendIntMem
import Derived.Test.YtebgikflpgcnlaaGreatDoorP03
import Derived.Test.YtebgikflpgcnlaaGreatDoorP05
namespace Go.Proofs.YtebgikflpgcnlaaGreatDoor
set_option linter.unusedVariables false
set_option linter.unusedSimpArgs false
set_option maxRecDepth 100000
set_option maxHeartbeats 4000000
open Go.RowKit Tryz
def Km (r:Nat):Bool:=r==32||r==9||r==13
def EP (s:ByteArray):List ByteArray:=Lib.goFieldsP Km s
def lT:ByteArray:=⟨#[10]⟩
def Em (s:ByteArray):List ByteArray:=Lib.splitB lT 0 (Lib.countB s lT) s
structure Nb where
 m:AQ
 st:Nat
def Dn:AQ:=⟨[],[],[],0,0,[],[],[]⟩
def yD:Nb:=⟨Dn,0⟩
def CK (s:ByteArray):Option Int:=Ow s.data.toList
def Jj:ByteArray:=⟨#[102,108,97,103,111,110]⟩
def PU:ByteArray:=⟨#[116,121,112,101]⟩
def Jk:ByteArray:=⟨#[101,120,116,101,114,110]⟩
def G7:ByteArray:=⟨#[103,108,111,98,97,108]⟩
def Kn:ByteArray:=⟨#[99,111,110,115,116]⟩
def Qd:ByteArray:=⟨#[118,97,114]⟩
def Jl:ByteArray:=⟨#[109,101,109,111,114,121]⟩
def PV:ByteArray:=⟨#[102,117,110,99]⟩
def PW:ByteArray:=⟨#[100,97,116,97]⟩
def Jm:ByteArray:=⟨#[101,120,112,111,114,116]⟩
def wW:ByteArray:=⟨#[119]⟩
def lW:ByteArray:=⟨#[108]⟩
def kinds:List ByteArray:= [Jj,PU,Jk,G7,Jl,PV,PW,Jm]
def EX (w:ByteArray):Nat:=match kinds.idxOf? w with
 | some i=>i+1
 | none=>0
def BD (p st:Nat):Bool:=decide (st≤p)&&(!(p==1||p==5)||decide (st<p))&&(!(st==0)||p==1)&&(decide (p≤5)||decide (5≤st))
def JO (ws:List ByteArray):ByteArray:=⟨(Lib.join (ws.map (·.data.toList)) [32]).toArray⟩
def Mw (c:UInt8):Option Nat:=if 48≤c.toNat∧c.toNat≤57 then some (c.toNat-48) else if 97≤c.toNat∧c.toNat≤102 then some (c.toNat-87) else none
def K3:List UInt8→Option (List UInt8)
 | []=>some []
 | [_]=>none
 | a::b::t=>match Mw a,Mw b with
  | some x,some y=>(K3 t).map (UInt8.ofNat (16*x+y):: ·)
  | _,_=>none
def MS (a b:ByteArray) (n:Int):Option Ep:=
 if(a=wW∨a=lW)∧(b=Qd∨b=Kn) then
  (if a=wW then(if-2147483648≤n∧n<2147483648 then some ⟨119,decide (b=Qd),(n%4294967296).toNat⟩ else none)
   else some ⟨108,decide (b=Qd),(n%18446744073709551616).toNat⟩)
 else none
def Ua (l:ByteArray):ByteArray:=if l=dash then none_ else l
def Ar (p:Nat) (m:AQ) (ws:List ByteArray):Option AQ:=match p,ws with
 | 1,[]=>some m
 | 2,ws=>if(Gy (JO ws)).2.2=0 then some {m with types:=m.types++ [⟨(Gy (JO ws)).1,(Gy (JO ws)).2.1⟩]} else none
 | 3,[a]=>(CK a).map fun n=> {m with hosts:=m.hosts++ [n]}
 | 4,[a,b,c]=>(CK c).bind fun n=>(MS a b n).map fun g=> {m with globs:=m.globs++ [g]}
 | 5,[a,b]=>(CK a).bind fun x=>(CK b).map fun y=> {m with first:=x,most:=y}
 | 6,[a,l]=>(CK a).map fun t=> {m with fns:=m.fns++ [⟨t,Ua l,[]⟩]}
 | 7,[a,x]=>(CK a).bind fun n=>(K3 x.data.toList).map fun b=> {m with dat:=m.dat++ [⟨n,b⟩]}
 | 8,[n,f]=>(CK f).map fun k=> {m with AO:=m.AO++ [⟨n,k⟩]}
 | _,_=>none
def N_ (w:ByteArray):Option ZR:=Dj.find? (fun r=>decide (r.word=w))
def Qe (r:ZR) (ws:List ByteArray):Option Av:=
 if r.takes=0 then(match ws with | []=>some ⟨UInt8.ofNat r.op,0,[]⟩ | _=>none)
 else if r.takes=3 then(ws.mapM CK).map fun l=>⟨UInt8.ofNat r.op,0,l⟩
 else(match ws with | [a]=>(CK a).map fun n=>⟨UInt8.ofNat r.op,n,[]⟩ | _=>none)
def Im (fns:List FL) (x:Av):List FL:=match fns.getLast? with
 | none=>fns
 | some f=>fns.dropLast++ [{f with code:=f.code++ [x]}]
def Ai (r:Nb) (l:List ByteArray):Option Nb:=match l with
 | []=>some r
 | w::ws=>
  if EX w=0 then
   (if r.st=6 then(N_ w).bind fun o=>(Qe o ws).map fun x=>⟨{r.m with fns:=Im r.m.fns x},6⟩ else none)
  else if BD (EX w) r.st=true then(Ar (EX w) r.m ws).map (⟨·,EX w⟩) else none
def JQ:List ByteArray→Bool
 | []=>true
 | w::_=>w.data.toList.head?==some 59
def lU:List ByteArray→Nb→Nat→Nb⊕Nat
 | [],r,_=> .inl r
 | s::t,r,k=>if JQ (EP s)=true then lU t r (k+1) else match Ai r (EP s)with
  | none=> .inr (k+1)
  | some r'=>lU t r' (k+1)
def JC (s:ByteArray):AQ×Int×Nat:=
 if 1048576<s.size then(Dn,13,0) else match lU (Em s) yD 0 with
  | .inr k=>(Dn,22,k)
  | .inl r=>if r.st<5 then(Dn,22,(Em s).length) else if FM r.m=0 then(r.m,0,0) else(Dn,FM r.m,0)
def Ub:List (List ByteArray)→Nb→Option Nb
 | [],r=>some r
 | l::t,r=>if JQ l=true then Ub t r else(Ai r l).bind (Ub t)
theorem gI: ∀(ls:List ByteArray) (r r':Nb) (k:Nat),Ub (ls.map EP) r=some r'→lU ls r k= .inl r'
 | [],r,r',k,h=>by
  injection h with h
  subst h
  rfl
 | s::t,r,r',k,h=>by
  have h:(if JQ (EP s)=true then Ub (t.map EP) r else(Ai r (EP s)).bind (Ub (t.map EP)))=some r':=h
  show(if JQ (EP s)=true then lU t r (k+1) else _)=_
  by_cases hs:JQ (EP s)=true
  ·rw [if_pos hs] at h⊢
   exact gI t r r' _ h
  ·rw [if_neg hs] at h⊢
   cases hl:Ai r (EP s)with
   | none=>rw [hl] at h;cases h
   | some x=>
    rw [hl] at h
    exact gI t x r' _ h
theorem Nk: ∀(a b:List (List ByteArray)) (r r':Nb),Ub a r=some r'→Ub (a++b) r=Ub b r'
 | [],b,r,r',h=>by
  injection h with h
  subst h
  rfl
 | l::t,b,r,r',h=>by
  have h:(if JQ l=true then Ub t r else(Ai r l).bind (Ub t))=some r':=h
  show(if JQ l=true then Ub (t++b) r else(Ai r l).bind (Ub (t++b)))=_
  by_cases hs:JQ l=true
  ·rw [if_pos hs] at h⊢
   exact Nk t b r r' h
  ·rw [if_neg hs] at h⊢
   cases hl:Ai r l with
   | none=>rw [hl] at h;cases h
   | some x=>
    rw [hl] at h
    exact Nk t b x r' h
theorem lV {s:ByteArray} {m:AQ} {st:Nat} (hs:s.size≤1048576) (h:Ub ((Em s).map EP) yD=some ⟨m,st⟩) (hst:5≤st) (hm:FM m=0):JC s=(m,0,0):=by
 unfold JC
 rw [if_neg (by omega),gI _ _ _ _ h]
 simp only
 rw [if_neg (by omega),if_pos hm]
theorem gN (u:Nat): ∀r,u<18446744073709551616→Lib.parseUint10 0 (Lib.decDigits u++r)=Lib.parseUint10 u r:=by
 induction u using Nat.strongRecOn with
 | _ u ih=>
  intro r h
  by_cases h10:u<10
  ·rw [Lib.decDigits,dif_pos h10]
   show Lib.parseUint10 0 (UInt8.ofNat (48+u)::r)=_
   rw [Lib.parseUint10,MV h10,if_pos (by omega),if_neg (by omega),if_neg (by omega)]
   congr 1
   omega
  ·rw [Lib.decDigits,dif_neg h10,List.append_assoc,ih (u/10) (by omega) _ (by omega)]
   show Lib.parseUint10 (u/10) (UInt8.ofNat (48+u%10)::r)=_
   have hm:=Nat.mod_lt u (show 0<10 by decide)
   rw [Lib.parseUint10,MV hm,if_pos (by omega),if_neg (by omega),if_neg (by omega)]
   congr 1
   omega
theorem jv {u:Nat} (h:u<18446744073709551616):Lib.parseMag (Lib.decDigits u)= .ok u:=by
 unfold Lib.parseMag
 rw [if_neg (Rt u)]
 have:=gN u [] h
 rw [List.append_nil] at this
 rw [this]
 rfl
theorem XI {n:Int} (h0: -9223372036854775808≤n) (h1:n≤9223372036854775807):Lib.parseIntB 64 (Lib.itoa n)= .ok n:=by
 unfold Lib.itoa
 split
 ·rw [Lib.parseIntB_minus,Lib.parseUintB_64,jv (by omega)]
  show(if 2^(64-1)<n.natAbs then _ else _)=_
  rw [if_neg (by omega)]
  congr 1
  omega
 ·have hd:=Q8 n.toNat
  have hp:Lib.parseUintB 64 (Lib.decDigits n.toNat)= .ok n.toNat:=by rw [Lib.parseUintB_64,jv (by omega)]
  cases hl:Lib.decDigits n.toNat with
  | nil=>exact absurd hl (Rt _)
  | cons c r=>
   have hc:=hd c (by rw [hl];exact List.mem_cons_self ..)
   rw [hl] at hp
   rw [Lib.parseIntB_plain 64 c r (by omega) (by omega),hp]
   show(if 2^(64-1)≤n.toNat then _ else _)=_
   rw [if_neg (by omega)]
   congr 1
   omega
theorem ABu {l:List UInt8} {v:Int} (h:Lib.parseIntB 64 l= .ok v):(-9223372036854775808≤v∧v≤9223372036854775807)∧((Lib.itoa v=l∧Ow l=some v)∨(Lib.itoa v≠l∧Ow l=none)):=by
 have hb:=Lib.parseIntB_bounds h
 have h0: -9223372036854775808≤v:=by simpa using hb.1
 have h1:v≤9223372036854775807:=by have:=hb.2;simp at this;omega
 refine⟨⟨h0,h1⟩,?_⟩
 by_cases he:Lib.itoa v=l
 ·exact .inl ⟨he,by rw [←he];exact U4 h0 h1⟩
 ·refine .inr ⟨he,?_⟩
  cases hn:Ow l with
  | none=>rfl
  | some n=>
   obtain⟨a,b,rfl⟩:=U5 hn
   rw [XI a b] at h
   injection h with h
   subst h
   exact absurd rfl he
theorem jw {l:List UInt8} (h: ∀v,Lib.parseIntB 64 l≠ .ok v):Ow l=none:=by
 cases hn:Ow l with
 | none=>rfl
 | some n=>
  obtain⟨a,b,rfl⟩:=U5 hn
  exact absurd (XI a b) (h n)
structure Dt (hi:Nat) (w:World):Prop where
 pow: ∀w',Below hi w w'→Lib.TabIs prog w' "internal/strconv.uint64pow10" .u64 Lib.pow10Tab
 asc: ∀w',Below hi w w'→Lib.TabIs prog w' "strings.asciiSpace" .u8 Lib.asciiSpaceTab
 syn: ∀w',Below hi w w'→ ∃tp p,w'.var? prog "strconv.ErrSyntax"=some #[.iface tp p]
 rng: ∀w',Below hi w w'→ ∃tp p,w'.var? prog "strconv.ErrRange"=some #[.iface tp p]
 mx: ∀w',Below hi w w'→ ∃m:Int,w'.cell? ⟨0,0,none⟩=some (.int .i64 m)
theorem Dt.to {hi:Nat} {w w':World} (h:Dt hi w) (hb:Below hi w w'):Dt hi w':=
 ⟨fun v hv=>h.pow v (hb.trans hv),fun v hv=>h.asc v (hb.trans hv),fun v hv=>h.syn v (hb.trans hv),fun v hv=>h.rng v (hb.trans hv),fun v hv=>h.mx v (hb.trans hv)⟩
theorem Dt.up {hi B:Nat} {w w':World} (h:Dt hi w) (hb:Below B w w') (hB:hi≤B):Dt hi w':=h.to (hb.mono hB)
def R4:List PanicEntry:= [{v:= .iface 106 (.agg #[]),recovered:=false}]
theorem AP (w:World):Calls prog 60 #[.bool true] w fun en w'=>w=w'∧en= .returned (.tuple #[]):=by
 go_enter func60,ntmps60
 go_wp2
 go_end0
 exact⟨rfl,rfl⟩
theorem AZ (w:World):Calls prog 60 #[.bool false] w fun en w'=>w=w'∧en= .panicked R4:=by
 go_enter func60,ntmps60
 go_wp2
 exact⟨rfl,rfl,rfl⟩
def AA0 (b:Bool) (e:Ending):Prop:=(b=true∧e= .returned (.tuple #[]))∨(b=false∧e= .panicked R4)
theorem TG (b:Bool) (w:World):Calls prog 60 #[.bool b] w fun en w'=>w=w'∧AA0 b en:=by
 cases b with
 | true=>exact(AP w).mono fun en w' h=>⟨h.1,.inl ⟨rfl,h.2⟩⟩
 | false=>exact(AZ w).mono fun en w' h=>⟨h.1,.inr ⟨rfl,h.2⟩⟩
theorem C_ (A:Option Addr) (n c k:Nat) (w:World):Calls prog 140 #[.slice A n c,.int .i64 k] w fun en w'=>w=w'∧AA0 (decide (n=k)) en:=by
 by_cases h:n=k
 ·have hd:((n:Int)==(k:Int))=true:=by rw [h];exact beq_self_eq_true _
  have HD:Hid (decide (n=k)=true):=AA (decide_eq_true h)
  clear h
  go_enter func140,ntmps140
  go_wp2_with fail
  refine(AP w).mono ?_
  rintro e w' ⟨rfl,rfl⟩
  go_wp2_with fail
  go_end0
  exact⟨rfl,.inl ⟨HD.out,rfl⟩⟩
 ·have hd:((n:Int)==(k:Int))=false:=by rw [beq_eq_false_iff_ne];omega
  have HD:Hid (decide (n=k)=false):=AA (decide_eq_false h)
  clear h
  go_enter func140,ntmps140
  go_wp2_with fail
  refine(AZ w).mono ?_
  rintro e w' ⟨rfl,rfl⟩
  go_wp2_with fail
  exact⟨rfl,rfl,.inr ⟨HD.out,rfl⟩⟩
theorem sQ (s:ByteArray) (w:World):Calls prog 35 #[.string s] w fun e w'=>w=w'∧e= .returned (.string (DI s)):=by
 by_cases h:s=none_
 ·subst h
  have hE:none_.toList.isEmpty=true:=by decide+kernel
  go_enter func35,ntmps35
  go_wp2
  go_ret
  exact⟨rfl,rfl⟩
 ·have HF:Hid (DI s=s):=AA (if_neg h)
  have hE:=Sr h
  clear h
  go_enter func35,ntmps35
  go_wp2
  go_ret
  exact⟨rfl,by rw [HF.out];rfl⟩
theorem Nw (n:Int) (hn:Rd.Ej n) {hi:Nat} (w:World) (hE:Dt hi w) (hhi:hi≤w.heap.size):
 Calls prog 33 #[.int .i64 n] w fun e w'=>Below w.heap.size w w'∧e= .returned (.string ⟨(Lib.itoa n).toArray⟩):=by
 have HF:=AA (strconv_FormatInt_10 n hn.1 (by have:=hn.2;omega) w (hE.pow w (Below.refl _ _)))
 clear hE hn
 go_enter func33,ntmps33
 go_wp2_with fail
 refine HF.out.mono ?_
 rintro e w' ⟨rfl,k,os,rfl⟩
 go_wp2_with fail
 go_ret
 exact⟨Lib.below_grow _ _ (Nat.le_refl _) k os,rfl⟩
theorem QE (n:Int) (hn:Rd.Ej n) {hi:Nat} (w:World) (hE:Dt hi w) (hhi:hi≤w.heap.size):
 Calls prog 32 #[.int .i64 n] w fun e w'=>Below w.heap.size w w'∧e= .returned (.string ⟨(Lib.itoa n).toArray⟩):=by
 have HF:=AA (strconv_FormatInt_10 n hn.1 (by have:=hn.2;omega) w (hE.pow w (Below.refl _ _)))
 clear hE hn
 go_enter func32,ntmps32
 go_wp2_with fail
 refine HF.out.mono ?_
 rintro e w' ⟨rfl,k,os,rfl⟩
 go_wp2_with fail
 go_ret
 exact⟨Lib.below_grow _ _ (Nat.le_refl _) k os,rfl⟩
theorem gP (w:World):PredAtRunes prog 148 #[] Km w:=fun W x hx hb=>by
 have hr:x<2147483648:=by omega
 go_enter func148,ntmps148
 by_cases h1:x=32
 ·subst h1
  go_wp2
  go_ret
  exact⟨rfl,0,rfl⟩
 by_cases h2:x=9
 ·subst h2
  go_wp2
  go_ret
  exact⟨rfl,0,rfl⟩
 by_cases h3:x=13
 ·subst h3
  go_wp2
  go_ret
  exact⟨rfl,0,rfl⟩
 have e1:((x:Int)==32)=false:=by rw [beq_eq_false_iff_ne];omega
 have e2:((x:Int)==9)=false:=by rw [beq_eq_false_iff_ne];omega
 have e3:((x:Int)==13)=false:=by rw [beq_eq_false_iff_ne];omega
 have HB:Hid (Km x=false):=AA (by unfold Km;simp [h1,h2,h3])
 clear h1 h2 h3
 go_wp2
 go_ret
 exact⟨by rw [HB.out];rfl,0,rfl⟩
theorem I7 (w:World) {ops:Array Oper} {rest:List Oper} {o:Oper} {a:Act} {Q:Exit→Act→World→Prop} (hgd:o.guard=none) (s x:Operand)
 (ho:o.op= .call {callee:= .builtin .append,args:= #[s,x],argTypes:= #[41,41]}) (base:Nat)
 (A:Option Addr) (n c:Nat) (xs:List Value) (hs:a.eval s= .slice A n c) (hown:w.ownsRow base 5 1 (.slice A n c) n xs)
 (B:Nat) (A2:Option Addr) (m c2:Nat) (ys:List Value) (hx:a.eval x= .slice A2 m c2) (hm:m=ys.length) (hr:Row w B A2 ys) (h1: ∀u∈ys,u.oneCell'=true)
 (h47:n+m≤140737488351232) (hbase:base≤w.heap.size)
 (h: ∀A' c' w',w'.ownsRow base 5 1 (.slice A' (n+m) c') (n+m) (xs++ys)→w.grownBy w' (Value.slice A n c).ownBlock→Below base w w'→wpList prog ops Q rest (a.put o.dst (.slice A' (n+m) c')) w'):wpList prog ops Q (o::rest) a w:=by
 obtain⟨i0,hi,hz,hs',hb⟩:=info_parts G8
 exact Rv w hgd s x 41 ho base 5 i0 (.int .u8 0) 1 underlying41 hi hz hs' hb rfl _ n xs hs hown B A2 m c2 ys hx hm hr h1 (by unfold maxLen;omega) (by omega) hbase
  fun A' c' w' h2 h3 _=>h A' c' w' h2 h3 (own_below hown h3 hbase)
theorem XA (A A2:Option Addr) (n c m c2 B base:Nat) (w:World) (xs ys:List Value) (hown:w.ownsRow base 5 1 (.slice A n c) n xs) (hm:m=ys.length) (hr:Row w B A2 ys) (h1: ∀u∈ys,u.oneCell'=true)
 (h47:n+m≤140737488351232) (hbase:base≤w.heap.size):
 Calls prog 197 #[.slice A n c,.slice A2 m c2] w fun e w'=> ∃A' c',e= .returned (.slice A' (n+m) c')∧w'.ownsRow base 5 1 (.slice A' (n+m) c') (n+m) (xs++ys)∧w.grownBy w' (Value.slice A n c).ownBlock:=by
 obtain⟨i0,hi,hz,hs,hb⟩:=info_parts G8
 have Hm:=AA hm;clear hm
 go_enter func197,ntmps197
 go_wp2_with (at_builtin;refine Rv _ rfl _ _ 41 rfl base 5 i0 (.int .u8 0) 1 underlying41 hi hz hs hb rfl _ n xs rfl hown B A2 m c2 ys rfl Hm.out hr h1 (by unfold maxLen;omega) (by omega) hbase ?_;intro A' c' w' h2 h3 _)
 go_ret
 exact⟨A',c',rfl,h2,h3⟩
def AAx (v0:Nat) (w:World) (L V:Value) (wr:World):Prop:=
 ∃(v:Nat) (xs:List UInt8) (A:Option Addr) (c:Nat),L= .slice A xs.length c∧V= .int .u64 v∧v<18446744073709551616∧xs++enc v=enc v0∧
  wr.ownsRow w.heap.size 5 1 (.slice A xs.length c) xs.length (xs.map bv)∧Below w.heap.size w wr
theorem Nv (v0:Nat) (hv0:v0<18446744073709551616) (w:World):
 Calls prog 159 #[.int .u64 v0] w fun e w'=> ∃A c,e= .returned (.slice A (enc v0).length c)∧w'.ownsRow w.heap.size 5 1 (.slice A (enc v0).length c) (enc v0).length ((enc v0).map bv)∧Below w.heap.size w w':=by
 have hl10:=Ag v0 hv0
 go_enter func159,ntmps159
 go_wp2_with fail
 go_loopw [3,0] (fun L V wr=>AAx v0 w L V wr) (fun _ V _=>(intOf V).toNat)
 case atStart=>exact⟨v0,[],none,0,rfl,rfl,hv0,rfl,World.ownsRow_nil _ _ _ _,Below.refl _ _⟩
 case round=>
  obtain⟨v,xs,A,c,rfl,rfl,hv,hR,hown,hbel⟩:=hrel
  have HR:=AA hR;clear hR
  have gL:=AA hown;clear hown
  have CF:=AA hbel;clear hbel
  have hxs:xs.length≤10:=by have:=congrArg List.length HR.out;rw [List.length_append] at this;omega
  by_cases hlt:v<128
  ·have hge: ¬(128:Int)≤v:=by omega
   have ABg:Hid (xs.map bv++ [.int .u8 (v:Int)]=(enc v0).map bv):=AA (by rw [←HR.out,Kt v hlt,List.map_append];simp [Oe v (by omega)])
   have Hlen:Hid (xs.length+1=(enc v0).length):=AA (by rw [←HR.out,Kt v hlt,List.length_append];rfl)
   go_wp2_with fail
   have hsz:w.heap.size≤(wr.alloc (.cells #[.int .u8 (v:Int)] 5)).heap.size:=by have:=CF.out.size;simp;omega
   refine(XA A _ xs.length c 1 1 (wr.heap.size+1) w.heap.size _ (xs.map bv) [.int .u8 (v:Int)] (gL.out.alloc _) rfl (row_one _ _ _) (by simp [Value.oneCell']) (by omega) hsz).mono ?_
   rintro e w1 ⟨A',c',rfl,h2,h3⟩
   have H2:=AA h2;clear h2
   have H3:Hid (Below w.heap.size w w1):=AA (((CF.out.alloc CF.out.size _)).trans (own_below (gL.out.alloc _) h3 hsz))
   clear h3 hsz
   go_wp2_with fail
   go_ret
   rw [←Hlen.out,←ABg.out]
   exact⟨A',c',rfl,H2.out,H3.out⟩
  ·have hge:(128:Int)≤v:=by omega
   have hx:bits .or .u8 ((v:Int)%256) 128=((v%128+128:Nat):Int):=by
    rw [show(v:Int)%256=((v%256:Nat):Int)from by omega,ADl _ (by omega)]
    omega
   have Hx:=AA hx;clear hx
   have rJ:Hid ((xs++ [UInt8.ofNat (v%128+128)])++enc (v/128)=enc v0):=AA (by rw [←HR.out,PK v hlt,List.append_assoc];rfl)
   go_wp2_with fail
   rw [Hx.out]
   have hsz:w.heap.size≤(wr.alloc (.cells #[.int .u8 ((v%128+128:Nat):Int)] 5)).heap.size:=by have:=CF.out.size;simp;omega
   refine(XA A _ xs.length c 1 1 (wr.heap.size+1) w.heap.size _ (xs.map bv) [.int .u8 ((v%128+128:Nat):Int)] (gL.out.alloc _) rfl (row_one _ _ _) (by simp [Value.oneCell']) (by omega) hsz).mono ?_
   rintro e w1 ⟨A',c',rfl,h2,h3⟩
   have H2:=AA h2;clear h2
   have H3:Hid (Below w.heap.size w w1):=AA (((CF.out.alloc CF.out.size _)).trans (own_below (gL.out.alloc _) h3 hsz))
   clear h3 hsz
   go_wp2_with fail
   refine⟨⟨v/128,xs++ [UInt8.ofNat (v%128+128)],A',c',by simp,by go_num,by omega,rJ.out,?_,H3.out⟩,?_⟩
   ·have:=H2.out
    rw [←Oe _ (by omega),show [bv (UInt8.ofNat (v%128+128))]= [UInt8.ofNat (v%128+128)].map bv from rfl,←List.map_append] at this
    simpa using this
   ·simp [intOf];omega
theorem Mj {fn:Func} {p:Tmp} {ty:TypeId} (h:fn.results= #[.cell p ty]) (tmps:Array Value) (P:Program) (w:World):
 (results fn tmps).run P w=((asAddr (tmps.getD p undef)).run P w).andThen fun a w₁=>(loadVar ty a).run P w₁:=by
 simp only [results,h]
 simp [Sem.run_bind,Result.andThen]
def Yv (x:Av):Prop:=x.l.length≤2147483647
def ABf (x:FL):Prop:=x.code.length≤2147483647∧ ∀i∈x.code,Yv i
def bQ (x:EZ):Prop:=x.b.length≤2147483647
def AAv (x:AQ):Prop:=x.types.length≤2147483647∧x.hosts.length≤2147483647∧x.globs.length≤2147483647∧(x.fns.length≤2147483647∧ ∀i∈x.fns,ABf i)∧(x.dat.length≤2147483647∧ ∀i∈x.dat,bQ i)∧x.AO.length≤2147483647
theorem yG {α:Type} {r:Rd α} {W:World} {k hi:Nat} {cs:List Value} {x:α} (h:r.R W (k+2) hi cs x):r.R W k hi cs x:=r.more (Nat.le_add_right _ 2) (Nat.le_refl _) h
def Za (W:World) (b:Nat):Nat→List Value→World
 | _,[]=>W
 | i,v::l=>Za (W.setCell ⟨b,i,none⟩ v) b (i+1) l
structure QA (T:TypeId) (w W:World) (cs zs:List Value) (Q:World→Prop):Prop where
 b:AV W w.heap.size T cs
 r:AV W (w.heap.size+1) T zs
 H:Below w.heap.size w W
 s:w.heap.size+2≤W.heap.size
 q:Q W
 st: ∀W1 W2,Q W1→w.heap.size+2≤W1.heap.size→(Below W1.heap.size W1 W2∨ ∃p u,p.block<w.heap.size+2∧W2=W1.setCell p u)→Q W2
section
variable {T:TypeId} {w W W':World} {cs zs:List Value} {Q:World→Prop}
theorem QA.init (T:TypeId) (w:World) (cs zs:List Value):QA T w ((w.alloc (.cells cs.toArray T)).alloc (.cells zs.toArray T)) cs zs (fun _=>True):=
 ⟨(AV.new w T cs).alloc _,by have:=AV.new (w.alloc (.cells cs.toArray T)) T zs;rwa [World.size_alloc] at this,((Below.refl _ _).alloc (Nat.le_refl _) _).alloc (by simp) _,by simp,trivial,fun _ _ _ _ _=>trivial⟩
theorem QA.below (h:QA T w W cs zs Q) (hb:Below W.heap.size W W'):QA T w W' cs zs Q:=
 ⟨h.b.below hb h.b.lt,h.r.below hb h.r.lt,h.H.trans (hb.mono h.H.size),Nat.le_trans h.s hb.size,h.st _ _ h.q h.s (.inl hb),h.st⟩
theorem QA.put (h:QA T w W cs zs Q) {α:Type} (r:Rd α) {v:Value} {x:α} (h2:r.R W' W.heap.size W'.heap.size [v] x) (hb:Below W.heap.size W W') (j:Nat):
 QA T w (W'.setCell ⟨w.heap.size,j,none⟩ v) (cs.set j v) zs (fun W=>Q W∧r.R W (w.heap.size+2) W.heap.size [v] x):=by
 have h':=h.below hb
 have hs:=h.s
 have key: ∀W1 W2,r.R W1 (w.heap.size+2) W1.heap.size [v] x→(Below W1.heap.size W1 W2∨ ∃p u,p.block<w.heap.size+2∧W2=W1.setCell p u)→r.R W2 (w.heap.size+2) W2.heap.size [v] x:=by
  rintro W1 W2 h1 (h3 | ⟨p,u,hp,rfl⟩)
  ·exact r.more (Nat.le_refl _) h3.size (Rd.below h1 h3 (Nat.le_refl _))
  ·exact r.more (Nat.le_refl _) (by simp [World.setCell]) (Rd.set h1 u (.inl hp))
 exact⟨h'.b.set j v,h'.r.far (p:=⟨w.heap.size,j,none⟩) (by simp) v,h'.H.setCell (p:=⟨w.heap.size,j,none⟩) (Nat.le_refl _) v,by simpa [World.setCell] using h'.s,⟨h'.st _ _ h'.q h'.s (.inr ⟨_,v,by simp,rfl⟩),key _ _ (r.more hs (Nat.le_refl _) h2) (.inr ⟨_,v,by simp,rfl⟩)⟩,fun W1 W2 h1 h2 h3=>⟨h.st _ _ h1.1 h2 h3,key _ _ h1.2 h3⟩⟩
theorem QA.setR (h:QA T w W cs zs Q) (j:Nat) (v:Value):QA T w (W.setCell ⟨w.heap.size+1,j,none⟩ v) cs (zs.set j v) Q:=
 ⟨h.b.far (p:=⟨w.heap.size+1,j,none⟩) (by simp) v,h.r.set j v,h.H.setCell (p:=⟨w.heap.size+1,j,none⟩) (Nat.le_succ _) v,by simpa [World.setCell] using h.s,h.st _ _ h.q h.s (.inr ⟨_,v,by simp,rfl⟩),h.st⟩
theorem QA.AAw: ∀(l a z:List Value) {W:World},QA T w W cs (a++z) Q→z.length=l.length→QA T w (Za W (w.heap.size+1) a.length l) cs (a++l) Q
 | [],a,z,W,h,hz=>by rw [List.length_eq_zero_iff.1 hz] at h;exact h
 | v::l,a,[],W,h,hz=>by cases hz
 | v::l,a,u::z,W,h,hz=>by
  have h1:=h.setR a.length v
  rw [show(a++u::z).set a.length v=(a++ [v])++z by simp] at h1
  have:=QA.AAw l (a++ [v]) z h1 (by simpa using hz)
  simpa [Za] using this
theorem QA.fill (h:QA T w W cs zs Q) (hz:zs.length=cs.length):QA T w (Za W (w.heap.size+1) 0 cs) cs cs Q:=QA.AAw cs [] zs h hz
end
end Go.Proofs.YtebgikflpgcnlaaGreatDoor
