/- Part 3 of the proof: BackP OpsT StrP ShapeQ Wide WireE DecP NumP WrapS Eq -/
import Derived.Laws.Strings
import Derived.Lib.ItoaNum
import Derived.Lib.ParseIntBTie
import Derived.Lib.ParseIntBCases
import Derived.Handed
import Derived.HandedShaped
import Derived.Test.YtejbcledkhioeaaGreatDoorQ02
namespace Go.Proofs.YtejbcledkhioeaaGreatDoor
set_option linter.unusedVariables false
set_option linter.unusedSimpArgs false
set_option maxRecDepth 100000
set_option maxHeartbeats 4000000
open Go.RowKit Tryz
theorem fZ: ∀(k i x:Nat) (l:List UInt8) (v n:Nat),L9 k i x l=(v,n,0)→
 ∃y,v=x+y*128^i∧(0<i→0<y)∧i<n∧enc y=l.take (n-i)
 | 0,i,x,l,v,n,h=>by simp [L9] at h
 | k+1,i,x,[],v,n,h=>by simp [L9] at h
 | k+1,i,x,c::r,v,n,h=>by
  rw [UL] at h
  have hc:=UInt8.toNat_lt c
  by_cases h1:i=9∧1<c.toNat
  ·rw [if_pos h1] at h;simp at h
  ·rw [if_neg h1] at h
   by_cases h2:c.toNat<128
   ·rw [if_pos h2] at h
    by_cases h3:c.toNat=0∧0<i
    ·rw [if_pos h3] at h;simp at h
    ·rw [if_neg h3] at h
     simp only [Prod.mk.injEq,and_true] at h
     obtain⟨rfl,rfl⟩:=h
     refine⟨c.toNat,by rw [Nat.mod_eq_of_lt h2],by omega,by omega,?_⟩
     rw [Jz _ h2,show i+1-i=1 from by omega]
     simp
   ·rw [if_neg h2] at h
    obtain⟨y,hv,hy,hn,he⟩:=fZ k (i+1) _ r v n h
    have:=hy (by omega)
    refine⟨c.toNat%128+128*y,?_,by omega,by omega,?_⟩
    ·rw [hv,Nat.pow_succ,Nat.add_mul,Nat.mul_comm (128^i) 128,←Nat.mul_assoc,Nat.mul_comm y 128];omega
    ·rw [M0 _ (by omega),show n-i=(n-(i+1))+1 from by omega,List.take_succ_cons,←he]
     congr 1
     ·rw [show(c.toNat%128+128*y)%128+128=c.toNat from by omega]
      exact UInt8.ofNat_toNat
     ·congr 1
      omega
theorem pq (l:List UInt8) (p:Int) (v q:Nat) (h:Ef l p=(v,q,0)): ∃a:Nat,p=a∧a<q∧q≤l.length∧enc v=(l.drop a).take (q-a):=by
 have hf:=IG l p
 rw [h] at hf
 simp only at hf
 have hp: ¬(p<0∨(l.length:Int)<p):=fun hc=>by have:=hf.2.2.2.1.2 hc;omega
 obtain⟨a,rfl⟩:=Int.eq_ofNat_of_zero_le (show 0≤p by omega)
 have hr:L9 10 0 0 (l.drop a)=((L9 10 0 0 (l.drop a)).1,(L9 10 0 0 (l.drop a)).2.1,(L9 10 0 0 (l.drop a)).2.2):=rfl
 rw [NU l a (by omega) hr] at h
 simp only [Prod.mk.injEq] at h
 obtain⟨h1,h2,h3⟩:=h
 rw [h3] at h2 hr
 rw [if_pos rfl] at h2
 obtain⟨y,e1,_,e3,e4⟩:=fZ 10 0 0 _ _ _ hr
 refine⟨a,rfl,by omega,hf.2.1,?_⟩
 rw [←h1,e1,show q-a=(L9 10 0 0 (l.drop a)).2.1-0 from by omega,←e4]
 congr 1;omega
theorem Tt (u:Nat):folded (unfolded u)=u:=by
 unfold unfolded folded
 by_cases h:u%2=1
 ·rw [if_pos h,if_pos (by omega)];omega
 ·rw [if_neg h,if_neg (by omega)];omega
structure XD where
 op:Nat
 word:ByteArray
 takes:Int
 pops:ByteArray
 pushes:ByteArray
 plain:Bool
def EB:List XD:= [
 ⟨0,⟨#[116,114,97,112]⟩,0,⟨#[]⟩,⟨#[]⟩,false⟩,
 ⟨1,⟨#[110,111,112]⟩,0,⟨#[]⟩,⟨#[]⟩,true⟩,
 ⟨2,⟨#[98,108,111,99,107]⟩,1,⟨#[]⟩,⟨#[]⟩,false⟩,
 ⟨3,⟨#[108,111,111,112]⟩,1,⟨#[]⟩,⟨#[]⟩,false⟩,
 ⟨4,⟨#[105,102]⟩,1,⟨#[]⟩,⟨#[]⟩,false⟩,
 ⟨5,⟨#[101,108,115,101]⟩,0,⟨#[]⟩,⟨#[]⟩,false⟩,
 ⟨6,⟨#[101,110,100]⟩,0,⟨#[]⟩,⟨#[]⟩,false⟩,
 ⟨7,⟨#[98,114]⟩,2,⟨#[]⟩,⟨#[]⟩,false⟩,
 ⟨8,⟨#[98,114,105,102]⟩,2,⟨#[]⟩,⟨#[]⟩,false⟩,
 ⟨9,⟨#[98,114,116,97,98,108,101]⟩,3,⟨#[]⟩,⟨#[]⟩,false⟩,
 ⟨10,⟨#[114,101,116,117,114,110]⟩,0,⟨#[]⟩,⟨#[]⟩,false⟩,
 ⟨11,⟨#[99,97,108,108]⟩,4,⟨#[]⟩,⟨#[]⟩,false⟩,
 ⟨12,⟨#[104,111,115,116]⟩,5,⟨#[]⟩,⟨#[]⟩,false⟩,
 ⟨16,⟨#[100,114,111,112]⟩,0,⟨#[]⟩,⟨#[]⟩,false⟩,
 ⟨17,⟨#[115,101,108,101,99,116]⟩,0,⟨#[]⟩,⟨#[]⟩,false⟩,
 ⟨18,⟨#[103,101,116]⟩,6,⟨#[]⟩,⟨#[]⟩,false⟩,
 ⟨19,⟨#[115,101,116]⟩,6,⟨#[]⟩,⟨#[]⟩,false⟩,
 ⟨20,⟨#[116,101,101]⟩,6,⟨#[]⟩,⟨#[]⟩,false⟩,
 ⟨21,⟨#[103,103,101,116]⟩,7,⟨#[]⟩,⟨#[]⟩,false⟩,
 ⟨22,⟨#[103,115,101,116]⟩,7,⟨#[]⟩,⟨#[]⟩,false⟩,
 ⟨24,⟨#[119,46,99,111,110,115,116]⟩,8,⟨#[]⟩,⟨#[119]⟩,true⟩,
 ⟨25,⟨#[108,46,99,111,110,115,116]⟩,8,⟨#[]⟩,⟨#[108]⟩,true⟩,
 ⟨32,⟨#[119,46,108,111,97,100,56,117]⟩,9,⟨#[119]⟩,⟨#[119]⟩,true⟩,
 ⟨33,⟨#[119,46,108,111,97,100,56,115]⟩,9,⟨#[119]⟩,⟨#[119]⟩,true⟩,
 ⟨34,⟨#[119,46,108,111,97,100,49,54,117]⟩,9,⟨#[119]⟩,⟨#[119]⟩,true⟩,
 ⟨35,⟨#[119,46,108,111,97,100,49,54,115]⟩,9,⟨#[119]⟩,⟨#[119]⟩,true⟩,
 ⟨36,⟨#[119,46,108,111,97,100]⟩,9,⟨#[119]⟩,⟨#[119]⟩,true⟩,
 ⟨37,⟨#[108,46,108,111,97,100]⟩,9,⟨#[119]⟩,⟨#[108]⟩,true⟩,
 ⟨38,⟨#[119,46,115,116,111,114,101,56]⟩,9,⟨#[119,119]⟩,⟨#[]⟩,true⟩,
 ⟨39,⟨#[119,46,115,116,111,114,101,49,54]⟩,9,⟨#[119,119]⟩,⟨#[]⟩,true⟩,
 ⟨40,⟨#[119,46,115,116,111,114,101]⟩,9,⟨#[119,119]⟩,⟨#[]⟩,true⟩,
 ⟨41,⟨#[108,46,115,116,111,114,101]⟩,9,⟨#[119,108]⟩,⟨#[]⟩,true⟩,
 ⟨42,⟨#[115,105,122,101]⟩,0,⟨#[]⟩,⟨#[119]⟩,true⟩,
 ⟨43,⟨#[103,114,111,119]⟩,0,⟨#[119]⟩,⟨#[119]⟩,true⟩,
 ⟨48,⟨#[119,46,101,113,122]⟩,0,⟨#[119]⟩,⟨#[119]⟩,true⟩,
 ⟨49,⟨#[119,46,101,113]⟩,0,⟨#[119,119]⟩,⟨#[119]⟩,true⟩,
 ⟨50,⟨#[119,46,110,101]⟩,0,⟨#[119,119]⟩,⟨#[119]⟩,true⟩,
 ⟨51,⟨#[119,46,108,116,115]⟩,0,⟨#[119,119]⟩,⟨#[119]⟩,true⟩,
 ⟨52,⟨#[119,46,108,116,117]⟩,0,⟨#[119,119]⟩,⟨#[119]⟩,true⟩,
 ⟨53,⟨#[119,46,108,101,115]⟩,0,⟨#[119,119]⟩,⟨#[119]⟩,true⟩,
 ⟨54,⟨#[119,46,108,101,117]⟩,0,⟨#[119,119]⟩,⟨#[119]⟩,true⟩,
 ⟨55,⟨#[119,46,99,108,122]⟩,0,⟨#[119]⟩,⟨#[119]⟩,true⟩,
 ⟨56,⟨#[119,46,99,116,122]⟩,0,⟨#[119]⟩,⟨#[119]⟩,true⟩,
 ⟨57,⟨#[119,46,112,111,112]⟩,0,⟨#[119]⟩,⟨#[119]⟩,true⟩,
 ⟨58,⟨#[119,46,97,100,100]⟩,0,⟨#[119,119]⟩,⟨#[119]⟩,true⟩,
 ⟨59,⟨#[119,46,115,117,98]⟩,0,⟨#[119,119]⟩,⟨#[119]⟩,true⟩,
 ⟨60,⟨#[119,46,109,117,108]⟩,0,⟨#[119,119]⟩,⟨#[119]⟩,true⟩,
 ⟨61,⟨#[119,46,100,105,118,115]⟩,0,⟨#[119,119]⟩,⟨#[119]⟩,true⟩,
 ⟨62,⟨#[119,46,100,105,118,117]⟩,0,⟨#[119,119]⟩,⟨#[119]⟩,true⟩,
 ⟨63,⟨#[119,46,114,101,109,115]⟩,0,⟨#[119,119]⟩,⟨#[119]⟩,true⟩,
 ⟨64,⟨#[119,46,114,101,109,117]⟩,0,⟨#[119,119]⟩,⟨#[119]⟩,true⟩,
 ⟨65,⟨#[119,46,97,110,100]⟩,0,⟨#[119,119]⟩,⟨#[119]⟩,true⟩,
 ⟨66,⟨#[119,46,111,114]⟩,0,⟨#[119,119]⟩,⟨#[119]⟩,true⟩,
 ⟨67,⟨#[119,46,120,111,114]⟩,0,⟨#[119,119]⟩,⟨#[119]⟩,true⟩,
 ⟨68,⟨#[119,46,115,104,108]⟩,0,⟨#[119,119]⟩,⟨#[119]⟩,true⟩,
 ⟨69,⟨#[119,46,115,104,114,115]⟩,0,⟨#[119,119]⟩,⟨#[119]⟩,true⟩,
 ⟨70,⟨#[119,46,115,104,114,117]⟩,0,⟨#[119,119]⟩,⟨#[119]⟩,true⟩,
 ⟨71,⟨#[119,46,114,111,116,108]⟩,0,⟨#[119,119]⟩,⟨#[119]⟩,true⟩,
 ⟨72,⟨#[119,46,114,111,116,114]⟩,0,⟨#[119,119]⟩,⟨#[119]⟩,true⟩,
 ⟨80,⟨#[108,46,101,113,122]⟩,0,⟨#[108]⟩,⟨#[119]⟩,true⟩,
 ⟨81,⟨#[108,46,101,113]⟩,0,⟨#[108,108]⟩,⟨#[119]⟩,true⟩,
 ⟨82,⟨#[108,46,110,101]⟩,0,⟨#[108,108]⟩,⟨#[119]⟩,true⟩,
 ⟨83,⟨#[108,46,108,116,115]⟩,0,⟨#[108,108]⟩,⟨#[119]⟩,true⟩,
 ⟨84,⟨#[108,46,108,116,117]⟩,0,⟨#[108,108]⟩,⟨#[119]⟩,true⟩,
 ⟨85,⟨#[108,46,108,101,115]⟩,0,⟨#[108,108]⟩,⟨#[119]⟩,true⟩,
 ⟨86,⟨#[108,46,108,101,117]⟩,0,⟨#[108,108]⟩,⟨#[119]⟩,true⟩,
 ⟨87,⟨#[108,46,99,108,122]⟩,0,⟨#[108]⟩,⟨#[108]⟩,true⟩,
 ⟨88,⟨#[108,46,99,116,122]⟩,0,⟨#[108]⟩,⟨#[108]⟩,true⟩,
 ⟨89,⟨#[108,46,112,111,112]⟩,0,⟨#[108]⟩,⟨#[108]⟩,true⟩,
 ⟨90,⟨#[108,46,97,100,100]⟩,0,⟨#[108,108]⟩,⟨#[108]⟩,true⟩,
 ⟨91,⟨#[108,46,115,117,98]⟩,0,⟨#[108,108]⟩,⟨#[108]⟩,true⟩,
 ⟨92,⟨#[108,46,109,117,108]⟩,0,⟨#[108,108]⟩,⟨#[108]⟩,true⟩,
 ⟨93,⟨#[108,46,100,105,118,115]⟩,0,⟨#[108,108]⟩,⟨#[108]⟩,true⟩,
 ⟨94,⟨#[108,46,100,105,118,117]⟩,0,⟨#[108,108]⟩,⟨#[108]⟩,true⟩,
 ⟨95,⟨#[108,46,114,101,109,115]⟩,0,⟨#[108,108]⟩,⟨#[108]⟩,true⟩,
 ⟨96,⟨#[108,46,114,101,109,117]⟩,0,⟨#[108,108]⟩,⟨#[108]⟩,true⟩,
 ⟨97,⟨#[108,46,97,110,100]⟩,0,⟨#[108,108]⟩,⟨#[108]⟩,true⟩,
 ⟨98,⟨#[108,46,111,114]⟩,0,⟨#[108,108]⟩,⟨#[108]⟩,true⟩,
 ⟨99,⟨#[108,46,120,111,114]⟩,0,⟨#[108,108]⟩,⟨#[108]⟩,true⟩,
 ⟨100,⟨#[108,46,115,104,108]⟩,0,⟨#[108,108]⟩,⟨#[108]⟩,true⟩,
 ⟨101,⟨#[108,46,115,104,114,115]⟩,0,⟨#[108,108]⟩,⟨#[108]⟩,true⟩,
 ⟨102,⟨#[108,46,115,104,114,117]⟩,0,⟨#[108,108]⟩,⟨#[108]⟩,true⟩,
 ⟨103,⟨#[108,46,114,111,116,108]⟩,0,⟨#[108,108]⟩,⟨#[108]⟩,true⟩,
 ⟨104,⟨#[108,46,114,111,116,114]⟩,0,⟨#[108,108]⟩,⟨#[108]⟩,true⟩,
 ⟨112,⟨#[119,46,119,114,97,112]⟩,0,⟨#[108]⟩,⟨#[119]⟩,true⟩,
 ⟨113,⟨#[108,46,101,120,116,101,110,100,115]⟩,0,⟨#[119]⟩,⟨#[108]⟩,true⟩,
 ⟨114,⟨#[108,46,101,120,116,101,110,100,117]⟩,0,⟨#[119]⟩,⟨#[108]⟩,true⟩,
 ⟨115,⟨#[119,46,101,120,116,56]⟩,0,⟨#[119]⟩,⟨#[119]⟩,true⟩,
 ⟨116,⟨#[119,46,101,120,116,49,54]⟩,0,⟨#[119]⟩,⟨#[119]⟩,true⟩,
 ⟨117,⟨#[108,46,101,120,116,51,50]⟩,0,⟨#[108]⟩,⟨#[108]⟩,true⟩]
def DU (n:Nat):Option XD:=EB.find? (fun r=>r.op==n)
theorem Iu {n:Nat} {r:XD} (h:DU n=some r):r∈EB∧r.op=n:=⟨List.mem_of_find?_eq_some h,by have:=List.find?_some h;simpa using this⟩
def Ry (s:ByteArray):Bool:=KV 256 s.data.toList
def ends (s t:ByteArray):Bool:=decide (t.size≤s.size)&&((s.extract (s.size-t.size) s.size).toList==t.toList)
def vV (s t:ByteArray):ByteArray×Nat:=if(Ry s&&Ry t)=false then(ByteArray.empty,15) else if 256<s.size+t.size then(ByteArray.empty,34) else(s++t,0)
def AAj (s t:ByteArray):ByteArray×Nat:=if(Ry s&&Ry t)=false then(ByteArray.empty,15) else if ends s t=false then(ByteArray.empty,33) else(s.extract 0 (s.size-t.size),0)
def vW (s:ByteArray) (f:Int) (t:ByteArray):ByteArray×Nat:=
 if(Ry s&&Ry t)=false then(ByteArray.empty,15)
 else if f<0∨ends s t=false∨(s.size:Int)-t.size<f then(ByteArray.empty,33)
 else(s.extract 0 f.toNat++t,0)
def bl (s:ByteArray):List UInt8:=s.data.toList
theorem aM (s:ByteArray):(bl s).length=s.size:=by simp [bl]
theorem lN {a b:ByteArray} (h:bl a=bl b):a=b:=by
 cases a;cases b
 unfold bl at h
 simpa using h
theorem Ug (s t:ByteArray):bl (s++t)=bl s++bl t:=by
 unfold bl
 rw [ByteArray.data_append,Array.toList_append]
theorem Yr (m:Nat) (l:List UInt8):KV m l=true↔l.length≤m∧ ∀c∈l,Tw c=true:=by
 unfold KV;simp
theorem Yt (s t:ByteArray):(s++t).size=s.size+t.size:=by rw [←aM,Ug,List.length_append,aM,aM]
theorem sizes (s t:ByteArray) (f:Int) (hs:s.size≤1048576) (ht:t.size≤1048576):(vV s t).1.size≤2097152∧(AAj s t).1.size≤2097152∧(vW s f t).1.size≤2097152:=by
 refine⟨?_,?_,?_⟩
 ·unfold vV
  split
  ·simp
  ·split
   ·simp
   ·rw [Yt];omega
 ·unfold AAj
  split
  ·simp
  ·split
   ·simp
   ·simp;omega
 ·unfold vW
  split
  ·simp
  ·split
   ·simp
   ·show(s.extract 0 f.toNat++t).size≤_
    rw [Yt];simp;omega
theorem Jl:(prog.info? 5).map (fun i=>(i.zero,i.size,i.bytes))=some (some (.int .u8 0),1,1):=by kernel_rfl
theorem PL (w:World) {ops:Array Oper} {rest:List Oper} {o:Oper} {a:Act} {Q:Exit→Act→World→Prop} (hgd:o.guard=none) (s x:Operand)
 (ho:o.op= .call {callee:= .builtin .append,args:= #[s,x],argTypes:= #[41,41]}) (base:Nat)
 (A:Option Addr) (n c:Nat) (xs:List Value) (hs:a.eval s= .slice A n c) (hown:w.ownsRow base 5 1 (.slice A n c) n xs)
 (B:Nat) (A2:Option Addr) (m c2:Nat) (ys:List Value) (hx:a.eval x= .slice A2 m c2) (hm:m=ys.length) (hr:Row w B A2 ys) (h1: ∀u∈ys,u.oneCell'=true)
 (h47:n+m≤140737488351232) (hbase:base≤w.heap.size)
 (h: ∀A' c' w',w'.ownsRow base 5 1 (.slice A' (n+m) c') (n+m) (xs++ys)→w.grownBy w' (Value.slice A n c).ownBlock→Below base w w'→wpList prog ops Q rest (a.put o.dst (.slice A' (n+m) c')) w'):wpList prog ops Q (o::rest) a w:=by
 obtain⟨i0,hi,hz,hs',hb⟩:=info_parts Jl
 exact UR w hgd s x 41 ho base 5 i0 (.int .u8 0) 1 underlying41 hi hz hs' hb rfl _ n xs hs hown B A2 m c2 ys hx hm hr h1 (by unfold maxLen;omega) (by omega) hbase
  fun A' c' w' h2 h3 _=>h A' c' w' h2 h3 (own_below hown h3 hbase)
theorem Ui (A A2:Option Addr) (n c m c2 B base:Nat) (w:World) (xs ys:List Value) (hown:w.ownsRow base 5 1 (.slice A n c) n xs) (hm:m=ys.length) (hr:Row w B A2 ys) (h1: ∀u∈ys,u.oneCell'=true)
 (h47:n+m≤140737488351232) (hbase:base≤w.heap.size):
 Calls prog 197 #[.slice A n c,.slice A2 m c2] w fun e w'=> ∃A' c',e= .returned (.slice A' (n+m) c')∧w'.ownsRow base 5 1 (.slice A' (n+m) c') (n+m) (xs++ys)∧w.grownBy w' (Value.slice A n c).ownBlock:=by
 obtain⟨i0,hi,hz,hs,hb⟩:=info_parts Jl
 have Hm:=AA hm;clear hm
 go_enter func197,ntmps197
 go_wp2_with (at_builtin;refine UR _ rfl _ _ 41 rfl base 5 i0 (.int .u8 0) 1 underlying41 hi hz hs hb rfl _ n xs rfl hown B A2 m c2 ys rfl Hm.out hr h1 (by unfold maxLen;omega) (by omega) hbase ?_;intro A' c' w' h2 h3 _)
 go_ret
 exact⟨A',c',rfl,h2,h3⟩
def AAo (v0:Nat) (w:World) (L V:Value) (wr:World):Prop:=
 ∃(v:Nat) (xs:List UInt8) (A:Option Addr) (c:Nat),L= .slice A xs.length c∧V= .int .u64 v∧v<18446744073709551616∧xs++enc v=enc v0∧
  wr.ownsRow w.heap.size 5 1 (.slice A xs.length c) xs.length (xs.map bv)∧Below w.heap.size w wr
theorem La (v0:Nat) (hv0:v0<18446744073709551616) (w:World):
 Calls prog 159 #[.int .u64 v0] w fun e w'=> ∃A c,e= .returned (.slice A (enc v0).length c)∧w'.ownsRow w.heap.size 5 1 (.slice A (enc v0).length c) (enc v0).length ((enc v0).map bv)∧Below w.heap.size w w':=by
 have hl10:=BA v0 hv0
 go_enter func159,ntmps159
 go_wp2_with fail
 go_loopw [3,0] (fun L V wr=>AAo v0 w L V wr) (fun _ V _=>(intOf V).toNat)
 case atStart=>exact⟨v0,[],none,0,rfl,rfl,hv0,rfl,World.ownsRow_nil _ _ _ _,Below.refl _ _⟩
 case round=>
  obtain⟨v,xs,A,c,rfl,rfl,hv,hR,hown,hbel⟩:=hrel
  have HR:=AA hR;clear hR
  have rW:=AA hown;clear hown
  have JR:=AA hbel;clear hbel
  have hxs:xs.length≤10:=by have:=congrArg List.length HR.out;rw [List.length_append] at this;omega
  by_cases hlt:v<128
  ·have hge: ¬(128:Int)≤v:=by omega
   have Henc:Hid (xs.map bv++ [.int .u8 (v:Int)]=(enc v0).map bv):=AA (by rw [←HR.out,Jz v hlt,List.map_append];simp [Sy v (by omega)])
   have Hlen:Hid (xs.length+1=(enc v0).length):=AA (by rw [←HR.out,Jz v hlt,List.length_append];rfl)
   go_wp2_with fail
   have hsz:w.heap.size≤(wr.alloc (.cells #[.int .u8 (v:Int)] 5)).heap.size:=by have:=JR.out.size;simp;omega
   refine(Ui A _ xs.length c 1 1 (wr.heap.size+1) w.heap.size _ (xs.map bv) [.int .u8 (v:Int)] (rW.out.alloc _) rfl (row_one _ _ _) (by simp [Value.oneCell']) (by omega) hsz).mono ?_
   rintro e w1 ⟨A',c',rfl,h2,h3⟩
   have H2:=AA h2;clear h2
   have H3:Hid (Below w.heap.size w w1):=AA (((JR.out.alloc JR.out.size _)).trans (own_below (rW.out.alloc _) h3 hsz))
   clear h3 hsz
   go_wp2_with fail
   go_ret
   rw [←Hlen.out,←Henc.out]
   exact⟨A',c',rfl,H2.out,H3.out⟩
  ·have hge:(128:Int)≤v:=by omega
   have hx:bits .or .u8 ((v:Int)%256) 128=((v%128+128:Nat):Int):=by
    rw [show(v:Int)%256=((v%256:Nat):Int)from by omega,AAi _ (by omega)]
    omega
   have Hx:=AA hx;clear hx
   have AAp:Hid ((xs++ [UInt8.ofNat (v%128+128)])++enc (v/128)=enc v0):=AA (by rw [←HR.out,M0 v hlt,List.append_assoc];rfl)
   go_wp2_with fail
   rw [Hx.out]
   have hsz:w.heap.size≤(wr.alloc (.cells #[.int .u8 ((v%128+128:Nat):Int)] 5)).heap.size:=by have:=JR.out.size;simp;omega
   refine(Ui A _ xs.length c 1 1 (wr.heap.size+1) w.heap.size _ (xs.map bv) [.int .u8 ((v%128+128:Nat):Int)] (rW.out.alloc _) rfl (row_one _ _ _) (by simp [Value.oneCell']) (by omega) hsz).mono ?_
   rintro e w1 ⟨A',c',rfl,h2,h3⟩
   have H2:=AA h2;clear h2
   have H3:Hid (Below w.heap.size w w1):=AA (((JR.out.alloc JR.out.size _)).trans (own_below (rW.out.alloc _) h3 hsz))
   clear h3 hsz
   go_wp2_with fail
   refine⟨⟨v/128,xs++ [UInt8.ofNat (v%128+128)],A',c',by simp,by go_num,by omega,AAp.out,?_,H3.out⟩,?_⟩
   ·have:=H2.out
    rw [←Sy _ (by omega),show [bv (UInt8.ofNat (v%128+128))]= [UInt8.ofNat (v%128+128)].map bv from rfl,←List.map_append] at this
    simpa using this
   ·simp [intOf];omega
def YV (s:List UInt8):Nat:=s.foldl (fun u c=>10*u+(c.toNat-48)) 0
theorem gL (s:List UInt8) (c:UInt8):YV (s++ [c])=10*YV s+(c.toNat-48):=by
 unfold YV
 rw [List.foldl_append]
 rfl
theorem LY {d:Nat} (h:d<10):(UInt8.ofNat (48+d)).toNat=48+d:=by
 rw [UInt8.toNat_ofNat']
 omega
theorem YW (u:Nat):YV (Lib.decDigits u)=u:=by
 induction u using Nat.strongRecOn with
 | _ u ih=>
  by_cases h10:u<10
  ·rw [Lib.decDigits,dif_pos h10]
   show 10*0+((UInt8.ofNat (48+u)).toNat-48)=u
   rw [LY h10]
   omega
  ·rw [Lib.decDigits,dif_neg h10,gL,ih (u/10) (by omega),LY (Nat.mod_lt _ (by decide))]
   omega
theorem PK (u:Nat): ∀c∈Lib.decDigits u,48≤c.toNat∧c.toNat≤57:=by
 induction u using Nat.strongRecOn with
 | _ u ih=>
  intro c hc
  by_cases h10:u<10
  ·rw [Lib.decDigits,dif_pos h10,List.mem_singleton] at hc
   subst hc
   rw [LY h10]
   omega
  ·rw [Lib.decDigits,dif_neg h10,List.mem_append,List.mem_singleton] at hc
   rcases hc with hc | rfl
   ·exact ih (u/10) (by omega) c hc
   ·have:=Nat.mod_lt u (show 0<10 by decide)
    rw [LY this]
    omega
theorem QJ (u:Nat):Lib.decDigits u≠ []:=by
 rw [Lib.decDigits]
 split
 ·exact List.cons_ne_nil _ _
 ·exact List.append_ne_nil_of_right_ne_nil _ (List.cons_ne_nil _ _)
def QK:List UInt8→Int
 | 45::s=> -(YV s:Int)
 | s=>(YV s:Int)
theorem YX (n:Int):QK (Lib.itoa n)=n:=by
 unfold Lib.itoa
 split
 ·show-(YV (Lib.decDigits n.natAbs):Int)=n
  rw [YW]
  omega
 ·rename_i h
  have hd:=PK n.toNat
  have he:QK (Lib.decDigits n.toNat)=(YV (Lib.decDigits n.toNat):Int):=by
   unfold QK
   split
   ·rename_i s hs
    have:=hd 45 (by rw [hs];exact List.mem_cons_self ..)
    exact absurd this.1 (by decide)
   ·rfl
  rw [he,YW]
  omega
def Mh (s:List UInt8):Option Int:=if-9223372036854775808≤QK s∧QK s≤9223372036854775807∧Lib.itoa (QK s)=s then some (QK s) else none
theorem Sr {n:Int} (h0: -9223372036854775808≤n) (h1:n≤9223372036854775807):Mh (Lib.itoa n)=some n:=by
 unfold Mh
 rw [YX]
 exact if_pos ⟨h0,h1,rfl⟩
theorem Sv {s:List UInt8} {n:Int} (h:Mh s=some n): -9223372036854775808≤n∧n≤9223372036854775807∧s=Lib.itoa n:=by
 unfold Mh at h
 split at h
 ·rename_i hc
  injection h with h
  subst h
  exact⟨hc.1,hc.2.1,hc.2.2.symm⟩
 ·cases h
theorem aO (u:Nat): ∀r,u<18446744073709551616→Lib.parseUint10 0 (Lib.decDigits u++r)=Lib.parseUint10 u r:=by
 induction u using Nat.strongRecOn with
 | _ u ih=>
  intro r h
  by_cases h10:u<10
  ·rw [Lib.decDigits,dif_pos h10]
   show Lib.parseUint10 0 (UInt8.ofNat (48+u)::r)=_
   rw [Lib.parseUint10,LY h10,if_pos (by omega),if_neg (by omega),if_neg (by omega)]
   congr 1
   omega
  ·rw [Lib.decDigits,dif_neg h10,List.append_assoc,ih (u/10) (by omega) _ (by omega)]
   show Lib.parseUint10 (u/10) (UInt8.ofNat (48+u%10)::r)=_
   have hm:=Nat.mod_lt u (show 0<10 by decide)
   rw [Lib.parseUint10,LY hm,if_pos (by omega),if_neg (by omega),if_neg (by omega)]
   congr 1
   omega
theorem dz {u:Nat} (h:u<18446744073709551616):Lib.parseMag (Lib.decDigits u)= .ok u:=by
 unfold Lib.parseMag
 rw [if_neg (QJ u)]
 have:=aO u [] h
 rw [List.append_nil] at this
 rw [this]
 rfl
theorem Us {n:Int} (h0: -9223372036854775808≤n) (h1:n≤9223372036854775807):Lib.parseIntB 64 (Lib.itoa n)= .ok n:=by
 unfold Lib.itoa
 split
 ·rw [Lib.parseIntB_minus,Lib.parseUintB_64,dz (by omega)]
  show(if 2^(64-1)<n.natAbs then _ else _)=_
  rw [if_neg (by omega)]
  congr 1
  omega
 ·have hd:=PK n.toNat
  have hp:Lib.parseUintB 64 (Lib.decDigits n.toNat)= .ok n.toNat:=by rw [Lib.parseUintB_64,dz (by omega)]
  cases hl:Lib.decDigits n.toNat with
  | nil=>exact absurd hl (QJ _)
  | cons c r=>
   have hc:=hd c (by rw [hl];exact List.mem_cons_self ..)
   rw [hl] at hp
   rw [Lib.parseIntB_plain 64 c r (by omega) (by omega),hp]
   show(if 2^(64-1)≤n.toNat then _ else _)=_
   rw [if_neg (by omega)]
   congr 1
   omega
theorem yC {l:List UInt8} {v:Int} (h:Lib.parseIntB 64 l= .ok v):(-9223372036854775808≤v∧v≤9223372036854775807)∧((Lib.itoa v=l∧Mh l=some v)∨(Lib.itoa v≠l∧Mh l=none)):=by
 have hb:=Lib.parseIntB_bounds h
 have h0: -9223372036854775808≤v:=by simpa using hb.1
 have h1:v≤9223372036854775807:=by have:=hb.2;simp at this;omega
 refine⟨⟨h0,h1⟩,?_⟩
 by_cases he:Lib.itoa v=l
 ·exact .inl ⟨he,by rw [←he];exact Sr h0 h1⟩
 ·refine .inr ⟨he,?_⟩
  cases hn:Mh l with
  | none=>rfl
  | some n=>
   obtain⟨a,b,rfl⟩:=Sv hn
   rw [Us a b] at h
   injection h with h
   subst h
   exact absurd rfl he
theorem eB {l:List UInt8} (h: ∀v,Lib.parseIntB 64 l≠ .ok v):Mh l=none:=by
 cases hn:Mh l with
 | none=>rfl
 | some n=>
  obtain⟨a,b,rfl⟩:=Sv hn
  exact absurd (Us a b) (h n)
section
variable {H:Type} {enc:TypeId×Value→H}
theorem Rw {a:Assume} {C:Checked} {os:Os} {f:FuncId} {fn:Func} {s:ChangeSpec} {conds:List PathCond} {apart fresh handsOn again:Bool} {X:World→Array Value→Prop}
 (hX: ∀(w w':World) (args:Array Value),w.heap=w'.heap→X w args→X w' args)
 (own:ownKnob C.prog.godebug=none) (started:os.Started) (noInit:C.prog.inits.idxOf? f=none) (hfn:C.prog.funcs[f]?=some fn)
 (witness: ∃(w:World) (tape:Tape) (i:Input),w.os=os∧(w.forCall tape i).Shaped C.prog∧i.vars= []∧Input.okWide C.prog (w.forCall tape i) .any w.heap.size f i∧
  ((s.pre enc C.prog fn conds apart (w.forCall tape i).memory i.args∧X (w.forCall tape i).memory i.args)∧sizedMet enc C.prog fn (OpenSpec.ofChange s) apart (w.forCall tape i).memory i.args)∧a.holds C.prog (lone (Frame.enter C.prog f i.args .normal) [] (w.forCall tape i)))
 (contract: ∀(W:World) (base:Nat) (args:Array Value) (ds gs:List (DataW H)) (before:List MemPlace),
  (∀(j:Nat) t v,fn.params[j]?=some t→args[j]?=some v→Value.okWide C.prog W .any base t v)→
  DataW.Whole enc C.prog fn.params.toList s.vars apart W args.toList ds gs before→
  conds.all (PathCond.test C.prog ⟨fn.params.toList,ds,s.plain.varTypes C.prog,gs⟩)=true→
  (DataW.weightsEach C.prog (fn.params.toList++s.plain.varTypes C.prog) (ds++gs)).all (· ≤reachBytes)=true→X W args→W.ShapedOpen C.prog→
  a.holds C.prog (lone (Frame.enter C.prog f args .normal) [] W)→
  Calls C.prog f args W fun e W'=> ∃v,e= .returned v∧s.post enc C.prog fn apart fresh handsOn again W args v W'):
 ReturnsInHanded a C os f .any (fun w args=>(s.pre enc C.prog fn conds apart w args∧X w args)∧sizedMet enc C.prog fn (OpenSpec.ofChange s) apart w args) (s.post enc C.prog fn apart fresh handsOn again):=by
 refine returnsInHanded_of_calls own started noInit witness ?_
 intro w tape i _ hsh _ hok hpre hholds
 obtain⟨_,_,_,fn',hfn',_,_,_,_,hval⟩:=hok
 obtain rfl:fn'=fn:=Option.some.inj (hfn'.symm.trans hfn)
 obtain⟨⟨⟨ds,gs,before,hw,hc⟩,hx⟩,hz⟩:=hpre
 have hw':=DataW.Whole.of_heap (w':=w.forCall tape i) (by rfl) hw
 refine(contract (w.forCall tape i) w.heap.size i.args ds gs before hval hw' hc (hz.weights hw) (hX _ _ _ (show(w.forCall tape i).memory.heap=(w.forCall tape i).heap from rfl) hx) hsh hholds).mono fun e W' ⟨v,he,hp⟩=> ?_
 subst he
 exact ChangeSpec.post_blind hp
end
def AA7 (l l':List UInt8) (w:World) (n:Nat) (i:Value) (wr:World):Prop:=
 ∃k m:Nat,k≤n∧i= .int .i64 k∧wr=w.drewN m∧l.take k=l'.take k
theorem ZG (A A':Option Addr) (n n' c c' B B':Nat) (w:World) (l l':List UInt8) (hn:n=l.length) (hn':n'=l'.length) (h47:n≤140737488351232) (hr:Row w B A (l.map bv)) (hr':Row w B' A' (l'.map bv)):
 Calls prog 19 #[.slice A n c,.slice A' n' c'] w fun e w'=>(∃k,w'=w.drewN k)∧e= .returned (.bool (decide (l=l'))):=by
 by_cases hnn:n=n'
 ·subst hnn
  have Hr:=Lib.hid hr;clear hr
  have Hn:=Lib.hid hn;clear hn
  have Hr':=Lib.hid hr';clear hr'
  have TY:=Lib.hid hn';clear hn'
  go_enter func19,ntmps19
  go_wp2
  go_loopw [5] (fun i wr=>AA7 l l' w n i wr) (fun i _=>n-(intOf i).toNat)
  case atStart=>exact⟨0,0,by omega,rfl,rfl,rfl⟩
  case round=>
   obtain⟨k,m,hk,rfl,rfl,hR⟩:=hrel
   have HR:=Lib.hid hR;clear hR
   by_cases hlt:k<n
   ·obtain⟨b,o,rfl,_,hcell⟩:=Hr.out.byte (j:=k) (by rw [←Hn.out];exact hlt)
    obtain⟨b',o',rfl,_,hcell'⟩:=Hr'.out.byte (j:=k) (by rw [←TY.out];exact hlt)
    have hB:(l[k]?.getD 0).toNat<256:=UInt8.toNat_lt _
    have hB':(l'[k]?.getD 0).toNat<256:=UInt8.toNat_lt _
    have hi:(0:Int)≤k:=by omega
    have hlk:l[k]?=some (l[k]?.getD 0):=by rw [List.getElem?_eq_getElem (by rw [←Hn.out];exact hlt)];rfl
    have nJ:l'[k]?=some (l'[k]?.getD 0):=by rw [List.getElem?_eq_getElem (by rw [←TY.out];exact hlt)];rfl
    have yK:=Lib.hid hlk;clear hlk
    have aZ:=Lib.hid nJ;clear nJ
    by_cases hq:l[k]?.getD 0=l'[k]?.getD 0
    ·have HT:Hid (l.take (k+1)=l'.take (k+1)):=by
      have h1:=yK.out
      rw [hq,←aZ.out] at h1
      refine Lib.hid ?_
      rw [List.take_add_one,List.take_add_one,HR.out,h1]
     rw [hq] at hcell
     clear hq hB yK aZ
     generalize (l'[k]?.getD 0).toNat=x at*
     have hne:((x:Int) !=x)=false:=by simp
     go_wp2
     go_quiet (fail)
     go_wp2
     exact⟨⟨k+1,m+nq,by omega,by go_num,rfl,HT.out⟩,by simp [intOf];omega⟩
    ·have hF:Hid (decide (l=l')=false):=by
      refine Lib.hid (decide_eq_false fun h=>hq ?_)
      rw [h]
     have hq':(l[k]?.getD 0).toNat≠(l'[k]?.getD 0).toNat:=fun h=>hq (UInt8.toNat_inj.1 h)
     clear hq yK aZ
     generalize (l'[k]?.getD 0).toNat=x at*
     generalize (l[k]?.getD 0).toNat=y at*
     have hne:((y:Int) !=x)=true:=by simp;omega
     clear hq'
     go_wp2
     go_quiet (fail)
     go_wp2
     go_ret
     exact⟨⟨m+nq,World.drewN_drewN _ _ _⟩,by rw [hF.out];rfl⟩
   ·obtain rfl:k=n:=by omega
    have hT:Hid (decide (l=l')=true):=by
     have:=HR.out
     rw [List.take_of_length_le (by rw [Hn.out];exact Nat.le_refl _),List.take_of_length_le (by rw [TY.out];exact Nat.le_refl _)] at this
     exact Lib.hid (decide_eq_true this)
    go_wp2
    go_ret
    exact⟨⟨_,rfl⟩,by rw [hT.out];rfl⟩
 ·have hF:Hid (decide (l=l')=false):=Lib.hid (decide_eq_false fun h=>hnn (by rw [hn,hn',h]))
  have hne:((n:Int) !=n')=true:=by simp;omega
  clear hr hr' hn hn'
  go_enter func19,ntmps19
  go_wp2
  go_ret
  exact⟨⟨0,rfl⟩,by rw [hF.out];rfl⟩
end Go.Proofs.YtejbcledkhioeaaGreatDoor
