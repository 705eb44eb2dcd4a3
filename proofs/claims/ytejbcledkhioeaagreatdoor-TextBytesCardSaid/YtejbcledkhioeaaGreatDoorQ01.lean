/- Part 1 of the proof: Base Open WireA Mem Iter Lists ShapeP -/
import Derived.WalkKit
import Derived.Laws.BitsAllLaws
import Derived.Lib.Hide
import Derived.Below
import Derived.OwnWalk
import Derived.Laws.OwnMore
import Derived.Laws.BytesArg
import Derived.ChangeSlices
import Derived.SizedLaws
import Derived.Test.YtejbcledkhioeaaGreatDoorProg
import Derived.Handy
import Derived.Laws.MakeOwn
import Derived.Laws.NewBlocks
import Derived.Deep.Draws
import Derived.OrdersHeld
import Derived.Laws.RangeAny
namespace Go.Proofs.YtejbcledkhioeaaGreatDoor
set_option linter.unusedVariables false
set_option linter.unusedSimpArgs false
set_option maxRecDepth 100000
set_option maxHeartbeats 4000000
open Go.RowKit Tryz
def Row (w:World) (B:Nat) (A:Option Addr) (xs:List Value):Prop:=
 0<xs.length→ ∃b o,A=some ⟨b,o,none⟩∧b<B∧ ∀j u,xs[j]?=some u→w.cell? ⟨b,o+j,none⟩=some u
theorem Row.nil (w:World) (B:Nat) (A:Option Addr):Row w B A []:=fun h=>absurd h (by simp)
theorem Row.more {w:World} {B B':Nat} {A:Option Addr} {xs:List Value} (h:Row w B A xs) (hb:B≤B'):Row w B' A xs:=fun hn=>
 let ⟨b,o,e,hlt,hc⟩:=h hn
 ⟨b,o,e,Nat.lt_of_lt_of_le hlt hb,hc⟩
theorem Row.keep {w w':World} {B:Nat} {A:Option Addr} {xs:List Value} (h:Row w B A xs) (hk: ∀p:Addr,p.block<B→w'.cell? p=w.cell? p):Row w' B A xs:=fun hn=>
 let ⟨b,o,e,hlt,hc⟩:=h hn
 ⟨b,o,e,hlt,fun j u hu=>(hk _ hlt).trans (hc j u hu)⟩
theorem Row.below {w w':World} {B:Nat} {A:Option Addr} {xs:List Value} (h:Row w B A xs) (hb:Below B w w'):Row w' B A xs:=
 h.keep fun _ hp=>hb.cell hp
theorem Row.below' {w w':World} {B B':Nat} {A:Option Addr} {xs:List Value} (h:Row w B A xs) (hb:Below B' w w') (hB:B≤B'):Row w' B A xs:=
 h.keep fun _ hp=>hb.cell (Nat.lt_of_lt_of_le hp hB)
theorem Row.at {w:World} {B:Nat} {A:Option Addr} {xs:List Value} (h:Row w B A xs) {j:Nat} {u:Value} (hu:xs[j]?=some u):
 ∃b o,A=some ⟨b,o,none⟩∧b<B∧w.cell? ⟨b,o+j,none⟩=some u:=by
 have hj:j<xs.length:=(List.getElem?_eq_some_iff.1 hu).1
 obtain⟨b,o,e,hlt,hc⟩:=h (by omega)
 exact⟨b,o,e,hlt,hc j u hu⟩
theorem Row.cut {w:World} {B:Nat} {A:Option Addr} {xs:List Value} (h:Row w B A xs) (n:Nat):Row w B A (xs.take n):=fun hn=>by
 rw [List.length_take] at hn
 obtain⟨b,o,e,hlt,hc⟩:=h (by omega)
 refine⟨b,o,e,hlt,fun j u hu=>hc j u ?_⟩
 rw [List.getElem?_take] at hu
 split at hu
 ·exact hu
 ·cases hu
theorem Row.own {w:World} {base:Nat} {e:TypeId} {A:Option Addr} {n c:Nat} {xs:List Value} (h:w.ownsRow base e 1 (.slice A n c) n xs):Row w w.heap.size A xs:=by
 intro hn
 rcases h.2 with⟨_,h0⟩ | ⟨g,cap,cur,hv,_,hg,_,_,_,_⟩
 ·have:=h.1;subst h0;simp at this;subst this;simp at hn
 ·have hA:A=some ⟨g,0,none⟩:=by injection hv
  subst hA
  refine⟨g,0,rfl,(Array.getElem?_eq_some_iff.1 hg).1,fun j u hu=> ?_⟩
  have:=h.cells (g:=g) rfl j u hu
  rw [Addr.add_lit] at this
  exact this
def bv (c:UInt8):Value:= .int .u8 (c.toNat:Int)
theorem Row.byte {w:World} {B:Nat} {A:Option Addr} {l:List UInt8} (h:Row w B A (l.map bv)) {j:Nat} (hj:j<l.length):
 ∃b o,A=some ⟨b,o,none⟩∧b<B∧w.cell? ⟨b,o+j,none⟩=some (.int .u8 ((l[j]?.getD 0).toNat:Int)):=by
 refine h.at ?_
 rw [List.getElem?_map,List.getElem?_eq_getElem hj]
 rfl
theorem Row.drop {w:World} {B:Nat} {A:Option Addr} {xs:List Value} (h:Row w B A xs) (k:Nat):Row w B (A.map (·.add k)) (xs.drop k):=by
 intro hn
 rw [List.length_drop] at hn
 obtain⟨b,o,rfl,hlt,hc⟩:=h (by omega)
 refine⟨b,o+k,by rw [Option.map_some,Addr.add_lit],hlt,fun j u hu=> ?_⟩
 rw [List.getElem?_drop] at hu
 rw [Nat.add_assoc]
 exact hc _ u hu
theorem Jv {P:Program} (src e dst:TypeId) (hs:P.underlying src=some (.slice e)) (he:P.underlying e=some (.int .u8)) (hd:P.underlying dst=some .string)
 (w:World) (B:Nat) (A:Option Addr) (m c:Nat) (sub:List UInt8) (hm:m=sub.length) (h:Row w B A (sub.map bv)):
 (convert src dst (.slice A m c)).run P w= .ok (.string ⟨sub.toArray⟩) w:=by
 rw [run_convert_bytes_string w src dst e A m c hs he hd]
 rcases A with _ | a
 ·have:sub= []:=by
   rcases Nat.eq_zero_or_pos sub.length with h0 | h0
   ·exact List.eq_nil_of_length_eq_zero h0
   ·obtain⟨_,_,h',_⟩:=h (by simpa using h0)
    cases h'
  subst this
  simp [Conv.bytesToString]
  rfl
 ·have hl:(loadCells a m).run P w= .ok ((sub.map fun c=>(c.toNat:Int)).map (Value.int .u8)).toArray w:=by
   have:=run_loadCells_list (P:=P) w a (sub.map bv) (fun j v hj=>by
    have hj':=(List.getElem?_eq_some_iff.1 hj).1
    obtain⟨b,o,h',_,hc⟩:=h (by omega)
    injection h' with h'
    subst h'
    rw [Addr.add_lit]
    exact hc j v hj)
   rw [List.length_map,←hm] at this
   rw [this,List.map_map]
   rfl
  rw [run_bytesToString w a m c _ hl,foldl_push_bytes,List.map_map]
  congr 2
  show ByteArray.mk (#[]++_)=_
  rw [Array.empty_append]
  congr 2
  exact List.map_id'' (fun c=>by simp) sub
def L9:Nat→Nat→Nat→List UInt8→Nat×Nat×Nat
 | 0,_,_,_=>(0,0,11)
 | _+1,_,_,[]=>(0,0,10)
 | n+1,i,v,c::r=>
  if i=9∧1<c.toNat then(0,0,11)
  else if c.toNat<128 then(if c.toNat=0∧0<i then(0,0,12) else(v+c.toNat%128*128^i,i+1,0))
  else L9 n (i+1) (v+c.toNat%128*128^i) r
theorem xI (c:Nat) (h:c<256):bits .and .u8 (c:Int) 127=((c%128:Nat):Int):=by
 have:=u8_and_nat c 127 h (by omega)
 rw [show((127:Nat):Int)=127 from rfl] at this
 rw [this,show(127:Nat)=2^7-1 from rfl,Nat.and_two_pow_sub_one_eq_mod]
theorem xJ (x d k:Nat) (hx:x<128^k) (hx64:x<18446744073709551616) (hd:d*128^k<18446744073709551616):
 bits .or .u64 (x:Int) ((d*128^k:Nat):Int)=((x+d*128^k:Nat):Int):=by
 rw [u64_or_nat x _ hx64 hd]
 have e:(128:Nat)^k=2^(7*k):=by rw [Nat.pow_mul]
 rw [e] at hx⊢
 have:=Nat.shiftLeft_add_eq_or_of_lt hx d
 rw [Nat.shiftLeft_eq] at this
 rw [Nat.or_comm,←this,Nat.add_comm]
theorem gM (k:Nat) (hk:k≤9):128^k≤9223372036854775808:=by
 have:=Nat.pow_le_pow_right (show 0<128 by omega) hk
 exact Nat.le_trans this (by decide)
theorem kY (x c k:Nat) (hk:k≤9) (hx:x<128^k) (h9:k=9→c≤1):x+c%128*128^k<18446744073709551616:=by
 have xK:=gM k hk
 by_cases h:k=9
 ·have:=h9 h;subst h
  have:c%128=0∨c%128=1:=by omega
  rcases this with e | e<;>rw [e]<;>omega
 ·have h8:128^k≤72057594037927936:=by
   have:=Nat.pow_le_pow_right (show 0<128 by omega) (show k≤8 by omega)
   exact Nat.le_trans this (by decide)
  have:c%128*128^k≤127*128^k:=Nat.mul_le_mul_right _ (by omega)
  omega
theorem dI (x c k:Nat) (hx:x<128^k):x+c%128*128^k<128^(k+1):=by
 have:c%128*128^k≤127*128^k:=Nat.mul_le_mul_right _ (by omega)
 rw [Nat.pow_succ];omega
theorem acc (x c k:Nat) (hk:k≤9) (hc:c<256) (hx:x<128^k) (h9:k=9→c≤1):
 bits .or .u64 (x:Int) (IntKind.u64.wrap (IntKind.u64.wrap (bits .and .u8 (c:Int) 127)*2^(7*k)))=((x+c%128*128^k:Nat):Int):=by
 have hlt:=kY x c k hk hx h9
 rw [xI c hc]
 have e1:IntKind.u64.wrap ((c%128:Nat):Int)=((c%128:Nat):Int):=by
  rw [IntKind.wrap_u64];omega
 rw [e1]
 have e2:(((c%128:Nat):Int)*2^(7*k))=((c%128*128^k:Nat):Int):=by
  have e:(128:Nat)^k=2^(7*k):=by rw [Nat.pow_mul]
  rw [e];simp
 rw [e2]
 have e3:IntKind.u64.wrap ((c%128*128^k:Nat):Int)=((c%128*128^k:Nat):Int):=by
  rw [IntKind.wrap_u64];omega
 rw [e3]
 exact xJ x _ k hx (by omega) (by omega)
def Ef (l:List UInt8) (p:Int):Nat×Nat×Nat:=
 if p<0∨(l.length:Int)<p then(0,0,1)
 else
  let r:=L9 10 0 0 (l.drop p.toNat)
  (r.1,(if r.2.2=0 then p.toNat+r.2.1 else 0),r.2.2)
theorem Rx {k1 k2 k3:IntKind} {a a' b b' c c':Int} (h1:a=a') (h2:b=b') (h3:c=c'):
 Ending.returned (.tuple #[.int k1 a,.int k2 b,.int k3 c])= .returned (.tuple #[.int k1 a',.int k2 b',.int k3 c']):=by
 rw [h1,h2,h3]
theorem dJ {k2 k3:IntKind} {a a':ByteArray} {b b' c c':Int} (h1:a=a') (h2:b=b') (h3:c=c'):
 Ending.returned (.tuple #[.string a,.int k2 b,.int k3 c])= .returned (.tuple #[.string a',.int k2 b',.int k3 c']):=by
 rw [h1,h2,h3]
theorem UK (l:List UInt8) (p:Int) (h:p<0∨(l.length:Int)<p):Ef l p=(0,0,1):=by rw [Ef,if_pos h]
theorem NU (l:List UInt8) (p:Nat) (h:p≤l.length) {v n e:Nat} (hr:L9 10 0 0 (l.drop p)=(v,n,e)):
 Ef l p=(v,(if e=0 then p+n else 0),e):=by
 rw [Ef,if_neg (by omega)]
 simp [hr]
theorem UL (n i v:Nat) (c:UInt8) (r:List UInt8):L9 (n+1) i v (c::r)=
 if i=9∧1<c.toNat then(0,0,11)
 else if c.toNat<128 then(if c.toNat=0∧0<i then(0,0,12) else(v+c.toNat%128*128^i,i+1,0))
 else L9 n (i+1) (v+c.toNat%128*128^i) r:=rfl
theorem rD (n i v:Nat):L9 (n+1) i v []=(0,0,10):=rfl
theorem drop_at (l:List UInt8) (k:Nat) (h:k<l.length):l.drop k=(l[k]?.getD 0)::l.drop (k+1):=by
 rw [List.drop_eq_getElem_cons h,List.getElem?_eq_getElem h];rfl
theorem WA: ∀(n i v:Nat) (l:List UInt8),i+n=10→v<128^i→
 (L9 n i v l).1<18446744073709551616∧((L9 n i v l).2.2=0→(L9 n i v l).2.1≤i+l.length∧i<(L9 n i v l).2.1)∧
  ((L9 n i v l).2.2≠0→(L9 n i v l).1=0∧(L9 n i v l).2.1=0)∧
  ((L9 n i v l).2.2=0∨(L9 n i v l).2.2=10∨(L9 n i v l).2.2=11∨(L9 n i v l).2.2=12)
 | 0,_,_,_,_,_=>by simp [L9]
 | n+1,_,_,[],_,_=>by simp [L9]
 | n+1,i,v,c::r,h,hv=>by
  rw [UL]
  by_cases h1:i=9∧1<c.toNat
  ·rw [if_pos h1];simp
  ·rw [if_neg h1]
   have hlt:=kY v c.toNat i (by omega) hv (by omega)
   by_cases h2:c.toNat<128
   ·rw [if_pos h2]
    by_cases h3:c.toNat=0∧0<i
    ·rw [if_pos h3];simp
    ·rw [if_neg h3];simp;omega
   ·rw [if_neg h2]
    have:=WA n (i+1) (v+c.toNat%128*128^i) r (by omega) (dI v c.toNat i hv)
    refine⟨this.1,fun h=> ?_,this.2.2⟩
    have:=this.2.1 h
    simp;omega
theorem IG (l:List UInt8) (p:Int):(Ef l p).1<18446744073709551616∧(Ef l p).2.1≤l.length∧
 ((Ef l p).2.2≠0→(Ef l p).1=0∧(Ef l p).2.1=0)∧((Ef l p).2.2=1↔(p<0∨(l.length:Int)<p))∧(Ef l p).2.2≤12:=by
 by_cases h:p<0∨(l.length:Int)<p
 ·rw [UK l p h];simp [h]
 ·obtain⟨q,rfl⟩:=Int.eq_ofNat_of_zero_le (show 0≤p by omega)
  have hq:q≤l.length:=by omega
  have hf:=WA 10 0 0 (l.drop q) rfl (by omega)
  rw [NU l q hq (v:=(L9 10 0 0 (l.drop q)).1) (n:=(L9 10 0 0 (l.drop q)).2.1) (e:=(L9 10 0 0 (l.drop q)).2.2) rfl]
  generalize L9 10 0 0 (l.drop q)=r at*
  obtain⟨v,n,e⟩:=r
  simp only [List.length_drop] at hf⊢
  refine⟨hf.1,?_,?_,?_,?_⟩
  ·split<;>omega
  ·intro he;rw [if_neg he];exact⟨(hf.2.2.1 he).1,rfl⟩
  ·constructor
   ·intro he;omega
   ·intro he;omega
  ·omega
def unfolded (u:Nat):Int:=if u%2=1 then-((u/2:Nat):Int)-1 else((u/2:Nat):Int)
theorem and1 (v:Nat) (h:v<18446744073709551616):bits .and .u64 (v:Int) 1=((v%2:Nat):Int):=by
 have:=u64_and_nat v 1 h (by omega)
 rw [show((1:Nat):Int)=1 from rfl] at this
 rw [this,show(1:Nat)=2^1-1 from rfl,Nat.and_two_pow_sub_one_eq_mod]
theorem xL (a:Nat) (ha:a<9223372036854775808):bits .xor .i64 (a:Int) (-1)= -(a:Int)-1:=by
 show IntKind.i64.wrap ((BitVec.ofInt 64 (a:Int)^^^BitVec.ofInt 64 (-1)).toNat:Int)=_
 have e:BitVec.ofInt 64 (-1)=BitVec.allOnes 64:=by decide
 have e2:(BitVec.ofInt 64 (a:Int)).toNat=a:=by
  rw [BitVec.ofInt_natCast,BitVec.toNat_ofNat];exact Nat.mod_eq_of_lt (by omega)
 rw [e,BitVec.xor_allOnes,BitVec.toNat_not,e2,IntKind.wrap_i64]
 omega
theorem AAh (a:Nat) (ha:a<9223372036854775808):bits .xor .i64 (a:Int) 0=(a:Int):=by
 show IntKind.i64.wrap ((BitVec.ofInt 64 (a:Int)^^^BitVec.ofInt 64 0).toNat:Int)=_
 have e:BitVec.ofInt 64 0=0#64:=by decide
 have e2:(BitVec.ofInt 64 (a:Int)).toNat=a:=by
  rw [BitVec.ofInt_natCast,BitVec.toNat_ofNat];exact Nat.mod_eq_of_lt (by omega)
 rw [e,BitVec.xor_zero,e2,IntKind.wrap_i64]
 omega
theorem YZ (v:Nat) (h:v<18446744073709551616):
 bits .xor .i64 ((v:Int)/2) (wrap64 (-wrap64 (bits .and .u64 (v:Int) 1)))=unfolded v:=by
 rw [and1 v h,show((v:Int)/2)=((v/2:Nat):Int)from by omega]
 unfold unfolded
 have:v%2=0∨v%2=1:=by omega
 rcases this with e | e<;>rw [e]
 ·rw [show wrap64 (-wrap64 ((0:Nat):Int))=0 from by unfold wrap64;omega,AAh _ (by omega)];simp
 ·rw [show wrap64 (-wrap64 ((1:Nat):Int))= -1 from by unfold wrap64;omega,xL _ (by omega)];simp
def cnt (l:List UInt8) (p most:Int) (great:Nat):Nat×Nat×Nat:=
 if(Ef l p).2.2=1∨most<0 then(0,0,1)
 else if(Ef l p).2.2≠0 then(0,0,(Ef l p).2.2)
 else if most<((Ef l p).1:Int) then(0,0,great)
 else((Ef l p).1,(Ef l p).2.1,0)
def txt (l:List UInt8) (p most:Int):List UInt8×Nat×Nat:=
 if(cnt l p most 13).2.2≠0 then([],0,(cnt l p most 13).2.2)
 else if l.length<(cnt l p most 13).1+(cnt l p most 13).2.1 then([],0,10)
 else((l.drop (cnt l p most 13).2.1).take (cnt l p most 13).1,(cnt l p most 13).2.1+(cnt l p most 13).1,0)
theorem gN (l:List UInt8) (p most:Int) (great:Nat) (hm:most<9223372036854775808) (hg:great≤100):
 (cnt l p most great).1<9223372036854775808∧(cnt l p most great).2.1≤l.length∧(cnt l p most great).2.2≤100:=by
 have hf:=IG l p
 unfold cnt
 generalize Ef l p=r at*
 obtain⟨v,n,e⟩:=r
 simp only at hf⊢
 repeat' split
 all_goals simp<;>omega
section
open Go.ChangeShapes Go.WideShapes Go.RowKit
section
variable {H:Type} {enc:TypeId×Value→H} {P:Program} {w:World} {base:Nat} {spare:Nat→Bool} {held:Bool}
theorem open_row {t e:TypeId} {k:IntKind} {by_:Nat} (ht:P.underlying t=some (.slice e)) (he:P.underlying e=some (.int k)) (hc:P.cellsOf e=1) (hby:P.bytesOf e=by_)
 {A:Option Addr} {len cap:Nat} {d:DataW H} {p:List MemPlace} (h:DataW.Trod enc P w base spare held t (.slice A len cap) d p):
 ∃xs:List Int,len=xs.length∧len≤cap∧cap≤maxLen∧Row w w.heap.size A (xs.map (Value.int k))∧(∀n∈xs,(Lit.int k n).wf=true)∧
  ∀(ts:List TypeId) (ds:List (DataW H)) (j:Nat),(DataW.weightsEach P ts ds).all (· ≤reachBytes)=true→ts[j]?=some t→ds[j]?=some d→len*by_≤140737488351232:=by
 obtain⟨fuel,hf⟩:=h
 rcases open_ints ht he hc hf with⟨hcs,_⟩ | ⟨x,l,c,zs,hcs,_,hl,hm,hz,hx,hcell,hwz⟩
 ·simp [Value.cells] at hcs
  obtain⟨rfl,rfl,rfl⟩:=hcs
  exact⟨[],rfl,Nat.le_refl _,Nat.zero_le _,Row.nil _ _ _,by simp,fun _ _ _ _ _ _=>by omega⟩
 ·simp [Value.cells] at hcs
  obtain⟨rfl,rfl,rfl⟩:=hcs
  have hlz:len≤zs.length:=by rw [hz];split<;>omega
  refine⟨zs.take len,by rw [List.length_take];omega,hl,hm,?_,fun n hn=>hwz n (List.mem_of_mem_take hn),?_⟩
  ·intro hn
   obtain⟨b,off,spot⟩:=x
   have h0:=hcell 0 (by simp at hn;omega)
   have hspot:spot=none:=by simpa [Addr.add] using World.cell?_spot h0
   subst hspot
   have hb:b<w.heap.size:=World.block_lt_of_cell? w _ (by simpa [Addr.add] using h0)
   refine⟨b,off,rfl,hb,fun j u hu=> ?_⟩
   rw [List.map_take,List.getElem?_take] at hu
   split at hu
   ·rename_i hj
    rw [←Addr.add_lit,hcell j (by omega),List.getD]
    rw [List.getElem?_map] at hu
    cases hzj:zs[j]? with
    | none=>rw [hzj] at hu;cases hu
    | some z=>rw [hzj] at hu;simpa using hu
   ·cases hu
  ·intro ts ds j hs hts hds
   injection hx with hx1 hx2
   subst hx1
   have:=sized_slice hs hts hds ht
   rw [hby] at this
   simp only [lits,List.length_map,List.length_take,List.length_drop,reachBytes] at this
   have hle:len*by_≤(min len zs.length+(zs.length-len))*by_:=Nat.mul_le_mul_right _ (by omega)
   omega
theorem QA: ∀(xs:List Int),(∀n∈xs,(Lit.int .u8 n).wf=true)→ ∃l:List UInt8,l.length=xs.length∧xs.map (Value.int .u8)=l.map bv
 | [],_=>⟨[],rfl,rfl⟩
 | x::xs,h=>by
  obtain⟨l,hl,he⟩:=QA xs fun n hn=>h n (List.mem_cons_of_mem _ hn)
  have hx:=h x (List.mem_cons_self ..)
  simp only [Lit.wf,Bool.and_eq_true,decide_eq_true_eq] at hx
  have hmin:IntKind.u8.min=0:=rfl
  have hmax:IntKind.u8.max=255:=rfl
  refine⟨UInt8.ofNat x.toNat::l,by simp [hl],?_⟩
  rw [List.map_cons,List.map_cons,he]
  congr 1
  unfold bv
  rw [UInt8.toNat_ofNat_of_lt' (by simp only [UInt8.size];omega)]
  congr 1
  omega
theorem aB {t e:TypeId} (ht:P.underlying t=some (.slice e)) (he:P.underlying e=some (.int .u8)) (hc:P.cellsOf e=1) (hby:P.bytesOf e=1)
 {A:Option Addr} {len cap:Nat} {d:DataW H} {p:List MemPlace} (h:DataW.Trod enc P w base spare held t (.slice A len cap) d p):
 ∃l:List UInt8,len=l.length∧len≤cap∧Row w w.heap.size A (l.map bv)∧
  ∀(ts:List TypeId) (ds:List (DataW H)) (j:Nat),(DataW.weightsEach P ts ds).all (· ≤reachBytes)=true→ts[j]?=some t→ds[j]?=some d→len≤140737488351232:=by
 obtain⟨xs,h1,h2,_,h3,h4,h5⟩:=open_row ht he hc hby h
 obtain⟨l,hl,hm⟩:=QA xs h4
 exact⟨l,by omega,h2,by rw [←hm];exact h3,fun ts ds j a b c=>by have:=h5 ts ds j a b c;omega⟩
end
end
theorem KH (A:Option Addr) (n cap B:Nat) (p:Int) (w:World) (l:List UInt8) (hn:n=l.length) (h47:n≤140737488351232) (hr:Row w B A (l.map bv)):
 Calls prog 150 #[.slice A n cap,.int .i64 p] w fun e w'=>w=w'∧e= .returned (.tuple #[.int .u64 (Ef l p).1,.int .i64 (Ef l p).2.1,.int .i64 (Ef l p).2.2]):=by
 have Hr:=Lib.hid hr;clear hr
 have Hn:=Lib.hid hn;clear hn
 by_cases h0:0≤p
 ·obtain⟨q,rfl⟩:=Int.eq_ofNat_of_zero_le h0
  by_cases h1:q≤n
  ·go_enter func150,ntmps150
   go_wp2
   go_loop [7,18] (fun v i=> ∃k x:Nat,k≤10∧x<128^k∧i= .int .i64 k∧v= .int .u64 x∧L9 (10-k) k x (l.drop (q+k))=L9 10 0 0 (l.drop q)) (fun _ i=>10-(intOf i).toNat)
   case atStart=>exact⟨0,0,by omega,by omega,rfl,rfl,rfl⟩
   case round=>
    obtain⟨k,x,hk,hx,rfl,rfl,hR⟩:=hrel
    have Hx:=Lib.hid hx;clear hx
    have HR:=Lib.hid hR;clear hR
    by_cases hlt:k<10
    ·have ABq:10-k=(9-k)+1:=by omega
     have HR2:Hid (L9 ((9-k)+1) k x (l.drop (q+k))=L9 10 0 0 (l.drop q)):=by rw [←ABq];exact HR
     clear ABq
     by_cases hend:q+k<n
     ·obtain⟨b,o,rfl,_,hcell⟩:=Hr.out.byte (j:=q+k) (by rw [←Hn.out];exact hend)
      have HR3:Hid (L9 ((9-k)+1) k x ((l[q+k]?.getD 0)::l.drop (q+k+1))=L9 10 0 0 (l.drop q)):=by
       rw [←drop_at l (q+k) (by rw [←Hn.out];exact hend)];exact HR2
      clear HR2 HR
      have hB:(l[q+k]?.getD 0).toNat<256:=UInt8.toNat_lt _
      generalize l[q+k]?.getD 0=c8 at*
      have HR4:=Lib.hid ((UL _ _ _ _ _).symm.trans HR3.out)
      generalize hc:c8.toNat=c at*
      have Hc:=Lib.hid hc;clear hc HR3
      have hk0:(0:Int)≤q+k:=by omega
      have hAcc:Hid (k=9→c≤1)∨(k=9∧1<c):=by
       by_cases h:k=9∧1<c
       ·exact .inr h
       ·exact .inl (Lib.hid (by omega))
      rcases hAcc with h9c | ⟨h9,h1c⟩
      ·have hnot: ¬(k=9∧1<c):=by have:=h9c.out;omega
       have HS:Hid ((if c<128 then(if c=0∧0<k then(0,0,12) else(x+c%128*128^k,k+1,0)) else L9 (9-k) (k+1) (x+c%128*128^k) (l.drop (q+k+1)))=L9 10 0 0 (l.drop q)):=by
        have:=HR4.out;rw [if_neg hnot] at this;exact this
       clear HR4 hnot
       have HA:=Lib.hid (acc x c k (by omega) hB Hx.out h9c.out)
       have HL:=Lib.hid (dI x c k Hx.out)
       have qA:(k<9∧((k:Int)==9)=false)∨(((k:Int)==9)=true∧c≤1):=by
        by_cases h:k<9
        ·exact .inl ⟨h,by simp;omega⟩
        ·exact .inr ⟨by simp;omega,h9c.out (by omega)⟩
       by_cases h128:c<128
       ·by_cases hc0:c=0∧0<k
        ·obtain⟨rfl,hk1⟩:=hc0
         have HT:Hid ((0,0,12)=L9 10 0 0 (l.drop q)):=by
          have:=HS.out;rw [if_pos (by omega),if_pos ⟨rfl,hk1⟩] at this;exact this
         clear HS HA HL
         rcases qA with⟨_,xK⟩ | ⟨xK,_⟩<;>
         ·go_wp2
          go_ret3
          rw [NU l q (by rw [←Hn.out];exact h1) HT.out.symm]
          exact⟨rfl,Rx rfl rfl rfl⟩
        ·have HT:Hid ((x+c%128*128^k,k+1,0)=L9 10 0 0 (l.drop q)):=by
          have:=HS.out;rw [if_pos h128,if_neg hc0] at this;exact this
         have hz:(((c:Int)==0)=true∧ ¬(0:Int)<k)∨((c:Int)==0)=false:=by
          by_cases h:c=0
          ·exact .inl ⟨by simp;omega,by omega⟩
          ·exact .inr (by simp;omega)
         clear HS
         rcases qA with⟨_,xK⟩ | ⟨xK,_⟩<;>rcases hz with⟨hz1,hz2⟩ | hz1<;>
         ·go_wp2
          go_ret3
          rw [NU l q (by rw [←Hn.out];exact h1) HT.out.symm]
          exact⟨rfl,Rx HA.out (by simp;omega) rfl⟩
       ·have HT:Hid (L9 (9-k) (k+1) (x+c%128*128^k) (l.drop (q+k+1))=L9 10 0 0 (l.drop q)):=by
         have:=HS.out;rw [if_neg h128] at this;exact this
        clear HS
        rcases qA with⟨_,xK⟩ | ⟨xK,h⟩
        ·go_wp2
         go_round
         case rel=>exact⟨k+1,_,by omega,HL.out,by go_num,by rw [HA.out],by rw [←HT.out,show 10-(k+1)=9-k from by omega,show q+(k+1)=q+k+1 from by omega]⟩
         case measure=>simp [intOf];omega
        ·exact absurd h (by omega)
      ·have HT:Hid ((0,0,11)=L9 10 0 0 (l.drop q)):=by
        have:=HR4.out;rw [if_pos ⟨h9,h1c⟩] at this;exact this
       clear HR4
       have xK:((k:Int)==9)=true:=by simp;omega
       have h1c2:(1:Int)<c:=by omega
       clear h9 h1c
       go_wp2
       go_ret3
       rw [NU l q (by rw [←Hn.out];exact h1) HT.out.symm]
       exact⟨rfl,Rx rfl rfl rfl⟩
     ·have HT:Hid ((0,0,10)=L9 10 0 0 (l.drop q)):=by
       have:=HR2.out
       rw [List.drop_of_length_le (by rw [←Hn.out];omega),rD] at this
       exact this
      go_wp2
      go_ret3
      rw [NU l q (by rw [←Hn.out];exact h1) HT.out.symm]
      exact⟨rfl,Rx rfl rfl rfl⟩
    ·obtain rfl:k=10:=by omega
     have HT:Hid ((0,0,11)=L9 10 0 0 (l.drop q)):=HR.out
     go_wp2
     go_ret3
     rw [NU l q (by rw [←Hn.out];exact h1) HT.out.symm]
     exact⟨rfl,Rx rfl rfl rfl⟩
  ·go_enter func150,ntmps150
   go_wp2
   go_ret3
   rw [UK l q (.inr (by rw [←Hn.out];omega))]
   exact⟨rfl,Rx rfl rfl rfl⟩
 ·go_enter func150,ntmps150
  go_wp2
  go_ret3
  rw [UK l p (.inl (by omega))]
  exact⟨rfl,Rx rfl rfl rfl⟩
theorem takeIt {P:Program} {ops:Array Oper} {Q:Exit→Act→World→Prop} {md:Region.Mode} {S:World→Prop} {i:Nat} {oi:Oper} {v:Value} {fuel:Nat} {listed:Array Bool} {a:Act} {w:World} (hi:ops[i]?=some oi) (hq:(Region.noSelect ops&&Region.free md ops listed i&&(Region.ready md ops listed).contains i)=true) (hQ: ∀c a w,Q (.panic c) (a.put oi.dst v) w→Q (.panic c) a w) (hw:Region.wanted oi (yielded ops a.tmps)=true) (hy: ∀w,S w→(execOp a.eval oi).run P w= .ok (.value v) w) (hS:S w)
 (h:wpAnyH P md ops Q S fuel (listed.setIfInBounds i true) (a.put oi.dst v) w):wpAnyH P md ops Q S (fuel+1) listed a w:=by
 simp only [Bool.and_eq_true] at hq
 exact wpAnyH_take hi hq.1.1 hq.1.2 hq.2 hQ (.inl ⟨hw,hy⟩) hS h
theorem AA {p:Prop} (h:p):Hid p:=h
def AL (w:World) (g:Nat) (t:TypeId) (xs:List Value):Prop:=w.heap[g]?=some (.cells xs.toArray t (0,0))
section
variable {w w':World} {g:Nat} {t:TypeId} {xs:List Value}
theorem AL.lt (h:AL w g t xs):g<w.heap.size:=(Array.getElem?_eq_some_iff.1 h).1
theorem AL.cell (h:AL w g t xs) (i:Nat):w.cell? ⟨g,i,none⟩=xs[i]?:=by
 unfold AL at h
 simp [World.cell?,h]
theorem AL.q (h:AL w g t xs) (i:Nat) {v:Value} (e:xs[i]?=some v):w.cell? ⟨g,i,none⟩=some v:=(h.cell i).trans e
theorem AL.frozen (h:AL w g t xs) (i:Nat):w.frozen? ⟨g,i,none⟩=false:=by
 unfold AL at h
 simp [World.frozen?,h]
theorem AL.new (w:World) (t:TypeId) (xs:List Value):AL (w.alloc (.cells xs.toArray t)) w.heap.size t xs:=heap_alloc_new w _
theorem AL.set (h:AL w g t xs) (i:Nat) (u:Value):AL (w.setCell ⟨g,i,none⟩ u) g t (xs.set i u):=by
 unfold AL at h⊢
 simp [World.setCell,Array.getElem?_modify,h]
theorem AL.below {B:Nat} (h:AL w g t xs) (hb:Below B w w') (hg:g<B):AL w' g t xs:=(hb.block g hg).trans h
theorem AL.drewN (h:AL w g t xs) (k:Nat):AL (w.drewN k) g t xs:=h
theorem AL.alloc (h:AL w g t xs) (o:Obj):AL (w.alloc o) g t xs:=(Below.heap_alloc w o g h.lt).trans h
theorem AL.far (h:AL w g t xs) {p:Addr} (hp:g≠p.block) (u:Value):AL (w.setCell p u) g t xs:=(Below.heap_setCell w p u g hp).trans h
theorem AL.row (h:AL w g t xs) (o n:Nat):Row w (g+1) (some ⟨g,o,none⟩) ((xs.drop o).take n):=by
 intro _
 refine⟨g,o,rfl,Nat.lt_succ_self g,fun j u hu=> ?_⟩
 rw [h.cell]
 rw [List.getElem?_take] at hu
 split at hu
 ·rw [List.getElem?_drop] at hu;exact hu
 ·cases hu
end
theorem Row.drewN {w:World} {B:Nat} {A:Option Addr} {xs:List Value} (h:Row w B A xs) (k:Nat):Row (w.drewN k) B A xs:=h
theorem Ya {P:Program} {f:FuncId} {args:Array Value} {w:World} {x:Nat} {v:Value} (h:Calls P f args (w.drewN x) fun e w'=>w.drewN x=w'∧e= .returned v):
 Calls P f args (w.drewN x) fun e w''=>e= .returned v∧ ∃n,w''=w.drewN n:=h.mono fun _ _ ⟨hw,he⟩=>⟨he,x,hw.symm⟩
theorem Am {w w':World} (h:Below w.drew.heap.size w.drew w'):Below w.heap.size w w':=⟨h.os,h.tape,h.output,h.size,h.block⟩
theorem below_drewN {B:Nat} {a w:World} (h:Below B a w) (k:Nat):Below B a (w.drewN k):=⟨h.os,h.tape,h.output,h.size,h.block⟩
theorem AB {P:Program} {ops:Array Oper} {Q:Exit→Act→World→Prop} {md:Region.Mode} {S:World→Prop} {i:Nat} {oi:Oper} {v:Value} {fuel:Nat} {listed:Array Bool} {a:Act} {w:World} (hi:ops[i]?=some oi) (hq:(Region.noSelect ops&&Region.free md ops listed i&&(Region.ready md ops listed).contains i&&Region.wanted oi (yielded ops a.tmps))=true) (hQ: ∀c a w,Q (.panic c) (a.put oi.dst v) w→Q (.panic c) a w) (hy: ∀w,S w→(execOp a.eval oi).run P w= .ok (.value v) w) (hS:S w)
 (h:wpAnyH P md ops Q S fuel (listed.setIfInBounds i true) (a.put oi.dst v) w):wpAnyH P md ops Q S (fuel+1) listed a w:=by
 simp only [Bool.and_eq_true] at hq
 exact wpAnyH_take hi hq.1.1.1 hq.1.1.2 hq.1.2 hQ (.inl ⟨hq.2,hy⟩) hS h
theorem AJ {P:Program} {ops:Array Oper} {Q:Exit→Act→World→Prop} {md:Region.Mode} {S:World→Prop} {i:Nat} {oi:Oper} {fuel:Nat} {listed:Array Bool} {a:Act} {w:World} (hi:ops[i]?=some oi) (hq:(Region.noSelect ops&&Region.free md ops listed i&&(Region.ready md ops listed).contains i&& !(Region.wanted oi (yielded ops a.tmps)))=true) (hQ: ∀c a w,Q (.panic c) (a.put oi.dst undef) w→Q (.panic c) a w) (hS:S w)
 (h:wpAnyH P md ops Q S fuel (listed.setIfInBounds i true) (a.put oi.dst undef) w):wpAnyH P md ops Q S (fuel+1) listed a w:=by
 simp only [Bool.and_eq_true,Bool.not_eq_true'] at hq
 exact wpAnyH_take hi hq.1.1.1 hq.1.1.2 hq.1.2 hQ (.inr ⟨hq.2,rfl⟩) hS h

def Eu (w:World) (g:Nat) (s:ByteArray) (pos:Nat):Prop:=w.heap[g]?=some (.stringIter s pos)
def setIter (w:World) (g:Nat) (s:ByteArray) (pos:Nat):World:= {w with heap:=w.heap.setIfInBounds g (.stringIter s pos)}
theorem Eu.lt {w:World} {g:Nat} {s:ByteArray} {pos:Nat} (h:Eu w g s pos):g<w.heap.size:=(Array.getElem?_eq_some_iff.1 h).1
theorem Eu.new (w:World) (s:ByteArray) (pos:Nat):Eu (w.iter s pos) w.heap.size s pos:=World.iter_heap w s pos
theorem Eu.set {w:World} {g:Nat} {s:ByteArray} {pos:Nat} (h:Eu w g s pos) (pos':Nat):Eu (setIter w g s pos') g s pos':=by
 have:=h.lt
 simp [Eu,setIter,this]
theorem Eu.below {w w':World} {g B:Nat} {s:ByteArray} {pos:Nat} (h:Eu w g s pos) (hb:Below B w w') (hg:g<B):Eu w' g s pos:=(hb.block g hg).trans h
theorem P_ {w:World} {g B:Nat} {s:ByteArray} (pos':Nat) (hB:B≤g):Below B w (setIter w g s pos'):=
 ⟨rfl,rfl,rfl,by simp [setIter],fun k hk=>by simp only [setIter];rw [Array.getElem?_setIfInBounds_ne (by omega)]⟩
theorem Z_ (w:World) (s:ByteArray) (pos:Nat):Below w.heap.size w (w.iter s pos):=(Below.refl _ _).alloc (Nat.le_refl _) _
theorem rE {P:Program} {w:World} {g:Nat} {s:ByteArray} {pos:Nat} (h:Eu w g s pos) (hlt:pos<s.size) (ty:TypeId):
 (Instr.next (.pointer (some ⟨g,0,none⟩)) true ty).run P w= .ok (.tuple #[.bool true,.int .i64 pos,.int .i32 (Utf8.decode s pos).1]) (setIter w g s (pos+(Utf8.decode s pos).2)):=by
 unfold Eu at h
 simp only [Instr.next,getObj,setObj,Sem.run_bind,Sem.run,h,Result.andThen,hlt,if_true]
 simp [goInt,setIter]
theorem kZ {P:Program} {w:World} {g:Nat} {s:ByteArray} {pos:Nat} (h:Eu w g s pos) (hge: ¬pos<s.size) (ty:TypeId):
 (Instr.next (.pointer (some ⟨g,0,none⟩)) true ty).run P w= .ok (.tuple #[.bool false]) w:=by
 unfold Eu at h
 simp [Instr.next,getObj,Sem.run,h,hge]
def UM (w:World) (g:Nat):Nat:=match w.heap[g]? with | some (.stringIter _ p)=>p | _=>0
theorem Eu.pos {w:World} {g:Nat} {s:ByteArray} {pos:Nat} (h:Eu w g s pos):UM w g=pos:=by
 unfold Eu at h
 simp [UM,h]
theorem byte_at (s:ByteArray) (k:Nat) (h:k<s.size):s[k]=s.data.toList[k]?.getD 0:=by
 have:k<s.data.toList.length:=by simpa using h
 rw [List.getElem?_eq_getElem this]
 rfl
theorem aA (s:ByteArray) (k:Nat) (h:k<s.size) (hc:(s.data.toList[k]?.getD 0).toNat<128):Utf8.decode s k=((s.data.toList[k]?.getD 0).toNat,1):=by
 rw [←byte_at s k h] at hc⊢
 exact decode_ascii s k h hc
theorem gP (s:ByteArray) (k:Nat) (h:k<s.size) (hc: ¬(s.data.toList[k]?.getD 0).toNat<128):128≤(Utf8.decode s k).1∧1≤(Utf8.decode s k).2:=by
 rw [←byte_at s k h] at hc
 exact decode_high s k h (by omega)
def Qg (c:Nat):Bool:=c==119||c==108
def Tw (c:UInt8):Bool:=Qg c.toNat
def OD (gd:Nat→UInt8→Bool):Nat→List UInt8→Bool
 | _,[]=>true
 | i,c::r=>Tw c&&(gd i c&&OD gd (i+1) r)
theorem UN (gd:Nat→UInt8→Bool) (i:Nat) (c:UInt8) (r:List UInt8):OD gd i (c::r)=(Tw c&&(gd i c&&OD gd (i+1) r)):=rfl
theorem xM (c:Nat) (h: ¬c<128):Qg c=false:=by
 unfold Qg
 simp
 omega
def WB (ps:List Int):List Value:=ps.map (Value.int .i64)
theorem UW {w:World} {B:Nat} {A:Option Addr} {ps:List Int} (h:Row w B A (WB ps)) {k:Nat} (hk:k<ps.length):
 ∃b o,A=some ⟨b,o,none⟩∧b<B∧w.cell? ⟨b,o+k,none⟩=some (.int .i64 (ps[k]?.getD 0)):=by
 refine h.at ?_
 unfold WB
 rw [List.getElem?_map,List.getElem?_eq_getElem hk]
 rfl
def KV (m:Nat) (l:List UInt8):Bool:=decide (l.length≤m)&&l.all Tw
theorem UO: ∀(i:Nat) (l:List UInt8),OD (fun _ _=>true) i l=l.all Tw
 | _,[]=>rfl
 | i,c::r=>by rw [UN,UO (i+1) r];simp
def Je (v c:Nat):Bool:=c==108||(c==119&&decide (v<4294967296))
def uv (v:Nat):Go.Value:= .int .u64 (v:Int)
theorem Row.word {w:Go.World} {B:Nat} {A:Option Go.Addr} {l:List Nat} (h:Row w B A (l.map uv)) {j:Nat} (hj:j<l.length):
 ∃b o,A=some ⟨b,o,none⟩∧b<B∧w.cell? ⟨b,o+j,none⟩=some (.int .u64 ((l[j]?.getD 0:Nat):Int)):=by
 refine h.at ?_
 rw [List.getElem?_map,List.getElem?_eq_getElem hj]
 rfl
end Go.Proofs.YtejbcledkhioeaaGreatDoor
