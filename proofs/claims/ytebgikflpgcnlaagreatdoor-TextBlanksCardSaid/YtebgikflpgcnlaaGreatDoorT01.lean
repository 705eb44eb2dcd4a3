/- Part 1 of the proof: Base Open Mem Iter ShapeP Rd -/
import Derived.WalkKit
import Derived.Laws.BitsAllLaws
import Derived.Lib.Hide
import Derived.Below
import Derived.OwnWalk
import Derived.Laws.OwnMore
import Derived.Laws.BytesArg
import Derived.ChangeSlices
import Derived.SizedLaws
import Derived.Laws.MakeOwn
import Derived.Laws.NewBlocks
import Derived.Deep.Draws
import Derived.OrdersHeld
import Derived.Laws.RangeAny
import Derived.ChangeArms
import Derived.ChangeSame
namespace Go.Proofs.YtebgikflpgcnlaaGreatDoor
set_option linter.unusedVariables false
set_option linter.unusedSimpArgs false
set_option maxRecDepth 100000
set_option maxHeartbeats 4000000
open Go.RowKit
def Row (w:World) (B:Nat) (A:Option Addr) (xs:List Value):Prop:=
 0<xs.length→ ∃b o,A=some ⟨b,o,none⟩∧b<B∧ ∀j u,xs[j]?=some u→w.cell? ⟨b,o+j,none⟩=some u
theorem Row.nil (w:World) (B:Nat) (A:Option Addr):Row w B A []:=fun h=>absurd h (by simp)
theorem Row.more {w:World} {B B':Nat} {A:Option Addr} {xs:List Value} (h:Row w B A xs) (hb:B≤B'):Row w B' A xs:=fun hn=>
 let ⟨b,o,e,hlt,hc⟩:=h hn
 ⟨b,o,e,Nat.lt_of_lt_of_le hlt hb,hc⟩
theorem Row.keep {w w':World} {B:Nat} {A:Option Addr} {xs:List Value} (h:Row w B A xs) (hk: ∀p:Addr,p.block<B→w'.cell? p=w.cell? p):Row w' B A xs:=fun hn=>
 let ⟨b,o,e,hlt,hc⟩:=h hn
 ⟨b,o,e,hlt,fun j u hu=>(hk _ hlt).trans (hc j u hu)⟩
theorem Row.below {w w':World} {B:Nat} {A:Option Addr} {xs:List Value} (h:Row w B A xs) (hb:Below B w w'):Row w' B A xs:=
 h.keep fun _ hp=>hb.cell hp
theorem Row.below' {w w':World} {B B':Nat} {A:Option Addr} {xs:List Value} (h:Row w B A xs) (hb:Below B' w w') (hB:B≤B'):Row w' B A xs:=
 h.keep fun _ hp=>hb.cell (Nat.lt_of_lt_of_le hp hB)
theorem Row.at {w:World} {B:Nat} {A:Option Addr} {xs:List Value} (h:Row w B A xs) {j:Nat} {u:Value} (hu:xs[j]?=some u):
 ∃b o,A=some ⟨b,o,none⟩∧b<B∧w.cell? ⟨b,o+j,none⟩=some u:=by
 have hj:j<xs.length:=(List.getElem?_eq_some_iff.1 hu).1
 obtain⟨b,o,e,hlt,hc⟩:=h (by omega)
 exact⟨b,o,e,hlt,hc j u hu⟩
theorem Row.cut {w:World} {B:Nat} {A:Option Addr} {xs:List Value} (h:Row w B A xs) (n:Nat):Row w B A (xs.take n):=fun hn=>by
 rw [List.length_take] at hn
 obtain⟨b,o,e,hlt,hc⟩:=h (by omega)
 refine⟨b,o,e,hlt,fun j u hu=>hc j u ?_⟩
 rw [List.getElem?_take] at hu
 split at hu
 ·exact hu
 ·cases hu
theorem Row.own {w:World} {base:Nat} {e:TypeId} {A:Option Addr} {n c:Nat} {xs:List Value} (h:w.ownsRow base e 1 (.slice A n c) n xs):Row w w.heap.size A xs:=by
 intro hn
 rcases h.2 with⟨_,h0⟩ | ⟨g,cap,cur,hv,_,hg,_,_,_,_⟩
 ·have:=h.1;subst h0;simp at this;subst this;simp at hn
 ·have hA:A=some ⟨g,0,none⟩:=by injection hv
  subst hA
  refine⟨g,0,rfl,(Array.getElem?_eq_some_iff.1 hg).1,fun j u hu=> ?_⟩
  have:=h.cells (g:=g) rfl j u hu
  rw [Addr.add_lit] at this
  exact this
def bv (c:UInt8):Value:= .int .u8 (c.toNat:Int)
theorem Row.byte {w:World} {B:Nat} {A:Option Addr} {l:List UInt8} (h:Row w B A (l.map bv)) {j:Nat} (hj:j<l.length):
 ∃b o,A=some ⟨b,o,none⟩∧b<B∧w.cell? ⟨b,o+j,none⟩=some (.int .u8 ((l[j]?.getD 0).toNat:Int)):=by
 refine h.at ?_
 rw [List.getElem?_map,List.getElem?_eq_getElem hj]
 rfl
theorem Row.drop {w:World} {B:Nat} {A:Option Addr} {xs:List Value} (h:Row w B A xs) (k:Nat):Row w B (A.map (·.add k)) (xs.drop k):=by
 intro hn
 rw [List.length_drop] at hn
 obtain⟨b,o,rfl,hlt,hc⟩:=h (by omega)
 refine⟨b,o+k,by rw [Option.map_some,Addr.add_lit],hlt,fun j u hu=> ?_⟩
 rw [List.getElem?_drop] at hu
 rw [Nat.add_assoc]
 exact hc _ u hu
theorem conv_bytes {P:Program} (src e dst:TypeId) (hs:P.underlying src=some (.slice e)) (he:P.underlying e=some (.int .u8)) (hd:P.underlying dst=some .string)
 (w:World) (B:Nat) (A:Option Addr) (m c:Nat) (sub:List UInt8) (hm:m=sub.length) (h:Row w B A (sub.map bv)):
 (convert src dst (.slice A m c)).run P w= .ok (.string ⟨sub.toArray⟩) w:=by
 rw [run_convert_bytes_string w src dst e A m c hs he hd]
 rcases A with _ | a
 ·have:sub= []:=by
   rcases Nat.eq_zero_or_pos sub.length with h0 | h0
   ·exact List.eq_nil_of_length_eq_zero h0
   ·obtain⟨_,_,h',_⟩:=h (by simpa using h0)
    cases h'
  subst this
  simp [Conv.bytesToString]
  rfl
 ·have hl:(loadCells a m).run P w= .ok ((sub.map fun c=>(c.toNat:Int)).map (Value.int .u8)).toArray w:=by
   have:=run_loadCells_list (P:=P) w a (sub.map bv) (fun j v hj=>by
    have hj':=(List.getElem?_eq_some_iff.1 hj).1
    obtain⟨b,o,h',_,hc⟩:=h (by omega)
    injection h' with h'
    subst h'
    rw [Addr.add_lit]
    exact hc j v hj)
   rw [List.length_map,←hm] at this
   rw [this,List.map_map]
   rfl
  rw [run_bytesToString w a m c _ hl,foldl_push_bytes,List.map_map]
  congr 2
  show ByteArray.mk (#[]++_)=_
  rw [Array.empty_append]
  congr 2
  exact List.map_id'' (fun c=>by simp) sub
def ruv:Nat→Nat→Nat→List UInt8→Nat×Nat×Nat
 | 0,_,_,_=>(0,0,11)
 | _+1,_,_,[]=>(0,0,10)
 | n+1,i,v,c::r=>
  if i=9∧1<c.toNat then(0,0,11)
  else if c.toNat<128 then(if c.toNat=0∧0<i then(0,0,12) else(v+c.toNat%128*128^i,i+1,0))
  else ruv n (i+1) (v+c.toNat%128*128^i) r
theorem and127 (c:Nat) (h:c<256):bits .and .u8 (c:Int) 127=((c%128:Nat):Int):=by
 have:=u8_and_nat c 127 h (by omega)
 rw [show((127:Nat):Int)=127 from rfl] at this
 rw [this,show(127:Nat)=2^7-1 from rfl,Nat.and_two_pow_sub_one_eq_mod]
theorem or_add (x d k:Nat) (hx:x<128^k) (hx64:x<18446744073709551616) (hd:d*128^k<18446744073709551616):
 bits .or .u64 (x:Int) ((d*128^k:Nat):Int)=((x+d*128^k:Nat):Int):=by
 rw [u64_or_nat x _ hx64 hd]
 have e:(128:Nat)^k=2^(7*k):=by rw [Nat.pow_mul]
 rw [e] at hx⊢
 have:=Nat.shiftLeft_add_eq_or_of_lt hx d
 rw [Nat.shiftLeft_eq] at this
 rw [Nat.or_comm,←this,Nat.add_comm]
theorem pow128_le (k:Nat) (hk:k≤9):128^k≤9223372036854775808:=by
 have:=Nat.pow_le_pow_right (show 0<128 by omega) hk
 exact Nat.le_trans this (by decide)
theorem acc_lt (x c k:Nat) (hk:k≤9) (hx:x<128^k) (h9:k=9→c≤1):x+c%128*128^k<18446744073709551616:=by
 have h9':=pow128_le k hk
 by_cases h:k=9
 ·have:=h9 h;subst h
  have:c%128=0∨c%128=1:=by omega
  rcases this with e | e<;>rw [e]<;>omega
 ·have h8:128^k≤72057594037927936:=by
   have:=Nat.pow_le_pow_right (show 0<128 by omega) (show k≤8 by omega)
   exact Nat.le_trans this (by decide)
  have:c%128*128^k≤127*128^k:=Nat.mul_le_mul_right _ (by omega)
  omega
theorem acc_lt' (x c k:Nat) (hx:x<128^k):x+c%128*128^k<128^(k+1):=by
 have:c%128*128^k≤127*128^k:=Nat.mul_le_mul_right _ (by omega)
 rw [Nat.pow_succ];omega
theorem acc (x c k:Nat) (hk:k≤9) (hc:c<256) (hx:x<128^k) (h9:k=9→c≤1):
 bits .or .u64 (x:Int) (IntKind.u64.wrap (IntKind.u64.wrap (bits .and .u8 (c:Int) 127)*2^(7*k)))=((x+c%128*128^k:Nat):Int):=by
 have hlt:=acc_lt x c k hk hx h9
 rw [and127 c hc]
 have e1:IntKind.u64.wrap ((c%128:Nat):Int)=((c%128:Nat):Int):=by
  rw [IntKind.wrap_u64];omega
 rw [e1]
 have e2:(((c%128:Nat):Int)*2^(7*k))=((c%128*128^k:Nat):Int):=by
  have e:(128:Nat)^k=2^(7*k):=by rw [Nat.pow_mul]
  rw [e];simp
 rw [e2]
 have e3:IntKind.u64.wrap ((c%128*128^k:Nat):Int)=((c%128*128^k:Nat):Int):=by
  rw [IntKind.wrap_u64];omega
 rw [e3]
 exact or_add x _ k hx (by omega) (by omega)
theorem accR (x c k u:Nat) (hk:k≤9) (_hc:c<256) (hx:x<128^k) (h9:k=9→c≤1) (hu:u=128^k):
 IntKind.u64.wrap ((x:Int)+IntKind.u64.wrap ((c:Int)%128*u))=((x+c%128*128^k:Nat):Int):=by
 have hlt:=acc_lt x c k hk hx h9
 subst hu
 have e:((c:Int)%128*((128^k:Nat):Int))=((c%128*128^k:Nat):Int):=by simp
 rw [e,IntKind.wrap_u64,IntKind.wrap_u64]
 omega
theorem unit_step (k u:Nat) (hk:k<9) (hu:u=128^k):IntKind.u64.wrap ((u:Int)*128)=((128^(k+1):Nat):Int):=by
 have:=pow128_le (k+1) (by omega)
 subst hu
 rw [IntKind.wrap_u64,Nat.pow_succ]
 rw [Nat.pow_succ] at this
 omega
def uvar (l:List UInt8) (p:Int):Nat×Nat×Nat:=
 if p<0∨(l.length:Int)<p then(0,0,1)
 else
  let r:=ruv 10 0 0 (l.drop p.toNat)
  (r.1,(if r.2.2=0 then p.toNat+r.2.1 else 0),r.2.2)
theorem ret3 {k1 k2 k3:IntKind} {a a' b b' c c':Int} (h1:a=a') (h2:b=b') (h3:c=c'):
 Ending.returned (.tuple #[.int k1 a,.int k2 b,.int k3 c])= .returned (.tuple #[.int k1 a',.int k2 b',.int k3 c']):=by
 rw [h1,h2,h3]
theorem ret3s {k2 k3:IntKind} {a a':ByteArray} {b b' c c':Int} (h1:a=a') (h2:b=b') (h3:c=c'):
 Ending.returned (.tuple #[.string a,.int k2 b,.int k3 c])= .returned (.tuple #[.string a',.int k2 b',.int k3 c']):=by
 rw [h1,h2,h3]
theorem uvar_bad (l:List UInt8) (p:Int) (h:p<0∨(l.length:Int)<p):uvar l p=(0,0,1):=by rw [uvar,if_pos h]
theorem uvar_of (l:List UInt8) (p:Nat) (h:p≤l.length) {v n e:Nat} (hr:ruv 10 0 0 (l.drop p)=(v,n,e)):
 uvar l p=(v,(if e=0 then p+n else 0),e):=by
 rw [uvar,if_neg (by omega)]
 simp [hr]
theorem ruv_cons (n i v:Nat) (c:UInt8) (r:List UInt8):ruv (n+1) i v (c::r)=
 if i=9∧1<c.toNat then(0,0,11)
 else if c.toNat<128 then(if c.toNat=0∧0<i then(0,0,12) else(v+c.toNat%128*128^i,i+1,0))
 else ruv n (i+1) (v+c.toNat%128*128^i) r:=rfl
theorem ruv_end (n i v:Nat):ruv (n+1) i v []=(0,0,10):=rfl
theorem drop_at (l:List UInt8) (k:Nat) (h:k<l.length):l.drop k=(l[k]?.getD 0)::l.drop (k+1):=by
 rw [List.drop_eq_getElem_cons h,List.getElem?_eq_getElem h];rfl
theorem ruv_facts: ∀(n i v:Nat) (l:List UInt8),i+n=10→v<128^i→
 (ruv n i v l).1<18446744073709551616∧((ruv n i v l).2.2=0→(ruv n i v l).2.1≤i+l.length∧i<(ruv n i v l).2.1)∧
  ((ruv n i v l).2.2≠0→(ruv n i v l).1=0∧(ruv n i v l).2.1=0)∧
  ((ruv n i v l).2.2=0∨(ruv n i v l).2.2=10∨(ruv n i v l).2.2=11∨(ruv n i v l).2.2=12)
 | 0,_,_,_,_,_=>by simp [ruv]
 | n+1,_,_,[],_,_=>by simp [ruv]
 | n+1,i,v,c::r,h,hv=>by
  rw [ruv_cons]
  by_cases h1:i=9∧1<c.toNat
  ·rw [if_pos h1];simp
  ·rw [if_neg h1]
   have hlt:=acc_lt v c.toNat i (by omega) hv (by omega)
   by_cases h2:c.toNat<128
   ·rw [if_pos h2]
    by_cases h3:c.toNat=0∧0<i
    ·rw [if_pos h3];simp
    ·rw [if_neg h3];simp;omega
   ·rw [if_neg h2]
    have:=ruv_facts n (i+1) (v+c.toNat%128*128^i) r (by omega) (acc_lt' v c.toNat i hv)
    refine⟨this.1,fun h=> ?_,this.2.2⟩
    have:=this.2.1 h
    simp;omega
theorem uvar_facts (l:List UInt8) (p:Int):(uvar l p).1<18446744073709551616∧(uvar l p).2.1≤l.length∧
 ((uvar l p).2.2≠0→(uvar l p).1=0∧(uvar l p).2.1=0)∧((uvar l p).2.2=1↔(p<0∨(l.length:Int)<p))∧(uvar l p).2.2≤12:=by
 by_cases h:p<0∨(l.length:Int)<p
 ·rw [uvar_bad l p h];simp [h]
 ·obtain⟨q,rfl⟩:=Int.eq_ofNat_of_zero_le (show 0≤p by omega)
  have hq:q≤l.length:=by omega
  have hf:=ruv_facts 10 0 0 (l.drop q) rfl (by omega)
  rw [uvar_of l q hq (v:=(ruv 10 0 0 (l.drop q)).1) (n:=(ruv 10 0 0 (l.drop q)).2.1) (e:=(ruv 10 0 0 (l.drop q)).2.2) rfl]
  generalize ruv 10 0 0 (l.drop q)=r at*
  obtain⟨v,n,e⟩:=r
  simp only [List.length_drop] at hf⊢
  refine⟨hf.1,?_,?_,?_,?_⟩
  ·split<;>omega
  ·intro he;rw [if_neg he];exact⟨(hf.2.2.1 he).1,rfl⟩
  ·constructor
   ·intro he;omega
   ·intro he;omega
  ·omega
def unfolded (u:Nat):Int:=if u%2=1 then-((u/2:Nat):Int)-1 else((u/2:Nat):Int)
theorem and1 (v:Nat) (h:v<18446744073709551616):bits .and .u64 (v:Int) 1=((v%2:Nat):Int):=by
 have:=u64_and_nat v 1 h (by omega)
 rw [show((1:Nat):Int)=1 from rfl] at this
 rw [this,show(1:Nat)=2^1-1 from rfl,Nat.and_two_pow_sub_one_eq_mod]
theorem xor_m1 (a:Nat) (ha:a<9223372036854775808):bits .xor .i64 (a:Int) (-1)= -(a:Int)-1:=by
 show IntKind.i64.wrap ((BitVec.ofInt 64 (a:Int)^^^BitVec.ofInt 64 (-1)).toNat:Int)=_
 have e:BitVec.ofInt 64 (-1)=BitVec.allOnes 64:=by decide
 have e2:(BitVec.ofInt 64 (a:Int)).toNat=a:=by
  rw [BitVec.ofInt_natCast,BitVec.toNat_ofNat];exact Nat.mod_eq_of_lt (by omega)
 rw [e,BitVec.xor_allOnes,BitVec.toNat_not,e2,IntKind.wrap_i64]
 omega
theorem xor_0 (a:Nat) (ha:a<9223372036854775808):bits .xor .i64 (a:Int) 0=(a:Int):=by
 show IntKind.i64.wrap ((BitVec.ofInt 64 (a:Int)^^^BitVec.ofInt 64 0).toNat:Int)=_
 have e:BitVec.ofInt 64 0=0#64:=by decide
 have e2:(BitVec.ofInt 64 (a:Int)).toNat=a:=by
  rw [BitVec.ofInt_natCast,BitVec.toNat_ofNat];exact Nat.mod_eq_of_lt (by omega)
 rw [e,BitVec.xor_zero,e2,IntKind.wrap_i64]
 omega
theorem unfold_wire (v:Nat) (h:v<18446744073709551616):
 bits .xor .i64 ((v:Int)/2) (wrap64 (-wrap64 (bits .and .u64 (v:Int) 1)))=unfolded v:=by
 rw [and1 v h,show((v:Int)/2)=((v/2:Nat):Int)from by omega]
 unfold unfolded
 have:v%2=0∨v%2=1:=by omega
 rcases this with e | e<;>rw [e]
 ·rw [show wrap64 (-wrap64 ((0:Nat):Int))=0 from by unfold wrap64;omega,xor_0 _ (by omega)];simp
 ·rw [show wrap64 (-wrap64 ((1:Nat):Int))= -1 from by unfold wrap64;omega,xor_m1 _ (by omega)];simp
def cnt (l:List UInt8) (p most:Int) (great:Nat):Nat×Nat×Nat:=
 if(uvar l p).2.2=1∨most<0 then(0,0,1)
 else if(uvar l p).2.2≠0 then(0,0,(uvar l p).2.2)
 else if most<((uvar l p).1:Int) then(0,0,great)
 else((uvar l p).1,(uvar l p).2.1,0)
def txt (l:List UInt8) (p most:Int):List UInt8×Nat×Nat:=
 if(cnt l p most 13).2.2≠0 then([],0,(cnt l p most 13).2.2)
 else if l.length<(cnt l p most 13).1+(cnt l p most 13).2.1 then([],0,10)
 else((l.drop (cnt l p most 13).2.1).take (cnt l p most 13).1,(cnt l p most 13).2.1+(cnt l p most 13).1,0)
theorem cnt_great (l:List UInt8) (p most:Int) (g g':Nat) (hg:g=13∨g=20) (hg':g'=13∨g'=20):
 ((cnt l p most g).2.2=g∧(cnt l p most g').2.2=g')∨((cnt l p most g).2.2≠g∧(cnt l p most g').2.2≠g'∧cnt l p most g=cnt l p most g'):=by
 have hf:=uvar_facts l p
 unfold cnt
 generalize uvar l p=r at*
 obtain⟨v,n,e⟩:=r
 simp only at hf⊢
 by_cases h1:e=1∨most<0
 ·simp only [if_pos h1];right;simp;omega
 ·simp only [if_neg h1]
  by_cases h2:e≠0
  ·simp only [if_pos h2];right;simp;omega
  ·simp only [if_neg h2]
   by_cases h3:most<(v:Int)
   ·simp only [if_pos h3];left;simp
   ·simp only [if_neg h3];right;simp;omega
theorem cnt_facts (l:List UInt8) (p most:Int) (great:Nat) (hm:most<9223372036854775808) (hg:great≤100):
 (cnt l p most great).1<9223372036854775808∧(cnt l p most great).2.1≤l.length∧(cnt l p most great).2.2≤100:=by
 have hf:=uvar_facts l p
 unfold cnt
 generalize uvar l p=r at*
 obtain⟨v,n,e⟩:=r
 simp only at hf⊢
 repeat' split
 all_goals simp<;>omega
section
open Go.ChangeShapes Go.WideShapes Go.RowKit
section
variable {H:Type} {enc:TypeId×Value→H} {P:Program} {w:World} {base:Nat} {spare:Nat→Bool} {held:Bool}
theorem open_row {t e:TypeId} {k:IntKind} {by_:Nat} (ht:P.underlying t=some (.slice e)) (he:P.underlying e=some (.int k)) (hc:P.cellsOf e=1) (hby:P.bytesOf e=by_)
 {A:Option Addr} {len cap:Nat} {d:DataW H} {p:List MemPlace} (h:DataW.Trod enc P w base spare held t (.slice A len cap) d p):
 ∃xs:List Int,len=xs.length∧len≤cap∧cap≤maxLen∧Row w w.heap.size A (xs.map (Value.int k))∧(∀n∈xs,(Lit.int k n).wf=true)∧
  ∀(ts:List TypeId) (ds:List (DataW H)) (j:Nat),(DataW.weightsEach P ts ds).all (· ≤reachBytes)=true→ts[j]?=some t→ds[j]?=some d→len*by_≤140737488351232:=by
 obtain⟨fuel,hf⟩:=h
 rcases open_ints ht he hc hf with⟨hcs,_⟩ | ⟨x,l,c,zs,hcs,_,hl,hm,hz,hx,hcell,hwz⟩
 ·simp [Value.cells] at hcs
  obtain⟨rfl,rfl,rfl⟩:=hcs
  exact⟨[],rfl,Nat.le_refl _,Nat.zero_le _,Row.nil _ _ _,by simp,fun _ _ _ _ _ _=>by omega⟩
 ·simp [Value.cells] at hcs
  obtain⟨rfl,rfl,rfl⟩:=hcs
  have hlz:len≤zs.length:=by rw [hz];split<;>omega
  refine⟨zs.take len,by rw [List.length_take];omega,hl,hm,?_,fun n hn=>hwz n (List.mem_of_mem_take hn),?_⟩
  ·intro hn
   obtain⟨b,off,spot⟩:=x
   have h0:=hcell 0 (by simp at hn;omega)
   have hspot:spot=none:=by simpa [Addr.add] using World.cell?_spot h0
   subst hspot
   have hb:b<w.heap.size:=World.block_lt_of_cell? w _ (by simpa [Addr.add] using h0)
   refine⟨b,off,rfl,hb,fun j u hu=> ?_⟩
   rw [List.map_take,List.getElem?_take] at hu
   split at hu
   ·rename_i hj
    rw [←Addr.add_lit,hcell j (by omega),List.getD]
    rw [List.getElem?_map] at hu
    cases hzj:zs[j]? with
    | none=>rw [hzj] at hu;cases hu
    | some z=>rw [hzj] at hu;simpa using hu
   ·cases hu
  ·intro ts ds j hs hts hds
   injection hx with hx1 hx2
   subst hx1
   have:=sized_slice hs hts hds ht
   rw [hby] at this
   simp only [lits,List.length_map,List.length_take,List.length_drop,reachBytes] at this
   have hle:len*by_≤(min len zs.length+(zs.length-len))*by_:=Nat.mul_le_mul_right _ (by omega)
   omega
theorem bytes_of_ints: ∀(xs:List Int),(∀n∈xs,(Lit.int .u8 n).wf=true)→ ∃l:List UInt8,l.length=xs.length∧xs.map (Value.int .u8)=l.map bv
 | [],_=>⟨[],rfl,rfl⟩
 | x::xs,h=>by
  obtain⟨l,hl,he⟩:=bytes_of_ints xs fun n hn=>h n (List.mem_cons_of_mem _ hn)
  have hx:=h x (List.mem_cons_self ..)
  simp only [Lit.wf,Bool.and_eq_true,decide_eq_true_eq] at hx
  have hmin:IntKind.u8.min=0:=rfl
  have hmax:IntKind.u8.max=255:=rfl
  refine⟨UInt8.ofNat x.toNat::l,by simp [hl],?_⟩
  rw [List.map_cons,List.map_cons,he]
  congr 1
  unfold bv
  rw [UInt8.toNat_ofNat_of_lt' (by simp only [UInt8.size];omega)]
  congr 1
  omega
theorem open_bytes {t e:TypeId} (ht:P.underlying t=some (.slice e)) (he:P.underlying e=some (.int .u8)) (hc:P.cellsOf e=1) (hby:P.bytesOf e=1)
 {A:Option Addr} {len cap:Nat} {d:DataW H} {p:List MemPlace} (h:DataW.Trod enc P w base spare held t (.slice A len cap) d p):
 ∃l:List UInt8,len=l.length∧len≤cap∧Row w w.heap.size A (l.map bv)∧
  ∀(ts:List TypeId) (ds:List (DataW H)) (j:Nat),(DataW.weightsEach P ts ds).all (· ≤reachBytes)=true→ts[j]?=some t→ds[j]?=some d→len≤140737488351232:=by
 obtain⟨xs,h1,h2,_,h3,h4,h5⟩:=open_row ht he hc hby h
 obtain⟨l,hl,hm⟩:=bytes_of_ints xs h4
 exact⟨l,by omega,h2,by rw [←hm];exact h3,fun ts ds j a b c=>by have:=h5 ts ds j a b c;omega⟩
theorem bd_i64 {n:Int} (h:(Lit.int .i64 n).wf=true): -9223372036854775808≤n∧n<9223372036854775808:=by
 simp only [Lit.wf,Bool.and_eq_true,decide_eq_true_eq] at h
 have hmin:IntKind.i64.min= -9223372036854775808:=rfl
 have hmax:IntKind.i64.max=9223372036854775807:=rfl
 omega
theorem bd_u64 {n:Int} (h:(Lit.int .u64 n).wf=true):0≤n∧n<18446744073709551616:=by
 simp only [Lit.wf,Bool.and_eq_true,decide_eq_true_eq] at h
 have hmin:IntKind.u64.min=0:=rfl
 have hmax:IntKind.u64.max=18446744073709551615:=rfl
 omega
theorem bd_u8 {n:Int} (h:(Lit.int .u8 n).wf=true):0≤n∧n<256:=by
 simp only [Lit.wf,Bool.and_eq_true,decide_eq_true_eq] at h
 have hmin:IntKind.u8.min=0:=rfl
 have hmax:IntKind.u8.max=255:=rfl
 omega
end
end
theorem takeIt {P:Program} {ops:Array Oper} {Q:Exit→Act→World→Prop} {md:Region.Mode} {S:World→Prop} {i:Nat} {oi:Oper} {v:Value} {fuel:Nat} {listed:Array Bool} {a:Act} {w:World} (hi:ops[i]?=some oi) (hq:(Region.noSelect ops&&Region.free md ops listed i&&(Region.ready md ops listed).contains i)=true) (hQ: ∀c a w,Q (.panic c) (a.put oi.dst v) w→Q (.panic c) a w) (hw:Region.wanted oi (yielded ops a.tmps)=true) (hy: ∀w,S w→(execOp a.eval oi).run P w= .ok (.value v) w) (hS:S w)
 (h:wpAnyH P md ops Q S fuel (listed.setIfInBounds i true) (a.put oi.dst v) w):wpAnyH P md ops Q S (fuel+1) listed a w:=by
 simp only [Bool.and_eq_true] at hq
 exact wpAnyH_take hi hq.1.1 hq.1.2 hq.2 hQ (.inl ⟨hw,hy⟩) hS h
theorem hideIt {p:Prop} (h:p):Hid p:=h
def Blk (w:World) (g:Nat) (t:TypeId) (xs:List Value):Prop:=w.heap[g]?=some (.cells xs.toArray t (0,0))
section
variable {w w':World} {g:Nat} {t:TypeId} {xs:List Value}
theorem Blk.lt (h:Blk w g t xs):g<w.heap.size:=(Array.getElem?_eq_some_iff.1 h).1
theorem Blk.cell (h:Blk w g t xs) (i:Nat):w.cell? ⟨g,i,none⟩=xs[i]?:=by
 unfold Blk at h
 simp [World.cell?,h]
theorem Blk.q (h:Blk w g t xs) (i:Nat) {v:Value} (e:xs[i]?=some v):w.cell? ⟨g,i,none⟩=some v:=(h.cell i).trans e
theorem Blk.frozen (h:Blk w g t xs) (i:Nat):w.frozen? ⟨g,i,none⟩=false:=by
 unfold Blk at h
 simp [World.frozen?,h]
theorem Blk.new (w:World) (t:TypeId) (xs:List Value):Blk (w.alloc (.cells xs.toArray t)) w.heap.size t xs:=heap_alloc_new w _
theorem Blk.set (h:Blk w g t xs) (i:Nat) (u:Value):Blk (w.setCell ⟨g,i,none⟩ u) g t (xs.set i u):=by
 unfold Blk at h⊢
 simp [World.setCell,Array.getElem?_modify,h]
theorem Blk.below {B:Nat} (h:Blk w g t xs) (hb:Below B w w') (hg:g<B):Blk w' g t xs:=(hb.block g hg).trans h
theorem Blk.drewN (h:Blk w g t xs) (k:Nat):Blk (w.drewN k) g t xs:=h
theorem Blk.alloc (h:Blk w g t xs) (o:Obj):Blk (w.alloc o) g t xs:=(Below.heap_alloc w o g h.lt).trans h
theorem Blk.far (h:Blk w g t xs) {p:Addr} (hp:g≠p.block) (u:Value):Blk (w.setCell p u) g t xs:=(Below.heap_setCell w p u g hp).trans h
theorem Blk.row (h:Blk w g t xs) (o n:Nat):Row w (g+1) (some ⟨g,o,none⟩) ((xs.drop o).take n):=by
 intro _
 refine⟨g,o,rfl,Nat.lt_succ_self g,fun j u hu=> ?_⟩
 rw [h.cell]
 rw [List.getElem?_take] at hu
 split at hu
 ·rw [List.getElem?_drop] at hu;exact hu
 ·cases hu
end
theorem Row.drewN {w:World} {B:Nat} {A:Option Addr} {xs:List Value} (h:Row w B A xs) (k:Nat):Row (w.drewN k) B A xs:=h
theorem quiet_at {P:Program} {f:FuncId} {args:Array Value} {w:World} {a x:Nat} {v:Value} (h:Calls P f args (w.drewN (a+x)) fun e w'=>w.drewN (a+x)=w'∧e= .returned v):
 Calls P f args (w.drewN (a+x)) fun e w''=>e= .returned v∧ ∃n,w''=w.drewN (a+n):=h.mono fun _ _ ⟨hw,he⟩=>⟨he,x,hw.symm⟩
theorem quiet_on {P:Program} {f:FuncId} {args:Array Value} {w:World} {x:Nat} {v:Value} (h:Calls P f args (w.drewN x) fun e w'=>w.drewN x=w'∧e= .returned v):
 Calls P f args (w.drewN x) fun e w''=>e= .returned v∧ ∃n,w''=w.drewN n:=h.mono fun _ _ ⟨hw,he⟩=>⟨he,x,hw.symm⟩
theorem below_of_drew {w w':World} (h:Below w.drew.heap.size w.drew w'):Below w.heap.size w w':=⟨h.os,h.tape,h.output,h.size,h.block⟩
theorem below_drewN {B:Nat} {a w:World} (h:Below B a w) (k:Nat):Below B a (w.drewN k):=⟨h.os,h.tape,h.output,h.size,h.block⟩
def zrow (z:Value) (n:Nat):Array Value:=(List.replicate n z).toArray
theorem run_make_zeros {P:Program} (t e:TypeId) (i:TypeInfo) (z:Value) (bytes:Nat) (ht:P.underlying t=some (.slice e)) (hi:P.info? e=some i) (hz:i.zero=some z) (h1:z.cells= #[z]) (hs:i.size=1) (hb:i.bytes=bytes)
 (n:Int) (m:Nat) (hn:n=m) (hbytes:bytes*m≤281474976710656) (h63:m≤9223372036854775807) (w:World):
 (Instr.makeSlice t (.int .i64 n) (.int .i64 n)).run P w= .ok (.slice (some ⟨w.heap.size,0,none⟩) m m) (w.alloc (.cells (zrow z m) e)):=by
 subst hn
 have hb':(i.bytes:Int)*(m:Int)≤281474976710656:=by
  rw [hb]
  have h:((bytes*m:Nat):Int)≤281474976710656:=by omega
  rwa [Int.natCast_mul] at h
 have hr:=run_make (P:=P) w t e i z ht hi hz .i64 .i64 m m (by omega) (by omega) hb' (by omega)
 simp only [Int.toNat_natCast] at hr
 rw [hr,h1,hs,Nat.mul_one]
 congr 3
 have:=toList_madeCells_one z m
 rw [←Array.toList_inj,this]
 rfl
theorem take_set_next {xs full:List Value} {k:Nat} {u:Value} (h:xs.take k=full.take k) (hk:k<xs.length) (hu:full[k]?=some u):(xs.set k u).take (k+1)=full.take (k+1):=by
 rw [List.take_add_one,List.take_add_one,List.take_set_of_le (Nat.le_refl k),h,hu]
 simp [hk]
def markB (i:Nat):Value:= .int .u8 (((282+7*i)%256:Nat):Int)
def marksB (n:Nat):List Value:=(List.range 64).map fun j=>markB (n+j)
theorem marksB_get (n j:Nat) (h:j<64):(marksB n)[j]?=some (markB (n+j)):=by
 unfold marksB
 rw [List.getElem?_map,List.getElem?_range h];rfl
theorem marksB_len (n:Nat):(marksB n).length=64:=by simp [marksB]
theorem wide_get (l:List UInt8) (k:Nat) (hk:k<l.length+64):(l.map bv++marksB l.length)[k]?=some (if k<l.length then .int .u8 ((l[k]?.getD 0).toNat:Int) else markB k):=by
 by_cases h:k<l.length
 ·rw [List.getElem?_append_left (by simpa using h),if_pos h,List.getElem?_map,List.getElem?_eq_getElem h];rfl
 ·rw [List.getElem?_append_right (by simpa using Nat.le_of_not_lt h),if_neg h,List.length_map,marksB_get _ _ (by omega)]
  congr 2;omega
def IterAt (w:World) (g:Nat) (s:ByteArray) (pos:Nat):Prop:=w.heap[g]?=some (.stringIter s pos)
def setIter (w:World) (g:Nat) (s:ByteArray) (pos:Nat):World:= {w with heap:=w.heap.setIfInBounds g (.stringIter s pos)}
theorem IterAt.lt {w:World} {g:Nat} {s:ByteArray} {pos:Nat} (h:IterAt w g s pos):g<w.heap.size:=(Array.getElem?_eq_some_iff.1 h).1
theorem IterAt.new (w:World) (s:ByteArray) (pos:Nat):IterAt (w.iter s pos) w.heap.size s pos:=World.iter_heap w s pos
theorem IterAt.set {w:World} {g:Nat} {s:ByteArray} {pos:Nat} (h:IterAt w g s pos) (pos':Nat):IterAt (setIter w g s pos') g s pos':=by
 have:=h.lt
 simp [IterAt,setIter,this]
theorem IterAt.below {w w':World} {g B:Nat} {s:ByteArray} {pos:Nat} (h:IterAt w g s pos) (hb:Below B w w') (hg:g<B):IterAt w' g s pos:=(hb.block g hg).trans h
theorem below_setIter {w:World} {g B:Nat} {s:ByteArray} (pos':Nat) (hB:B≤g):Below B w (setIter w g s pos'):=
 ⟨rfl,rfl,rfl,by simp [setIter],fun k hk=>by simp only [setIter];rw [Array.getElem?_setIfInBounds_ne (by omega)]⟩
theorem below_iter (w:World) (s:ByteArray) (pos:Nat):Below w.heap.size w (w.iter s pos):=(Below.refl _ _).alloc (Nat.le_refl _) _
theorem next_at {P:Program} {w:World} {g:Nat} {s:ByteArray} {pos:Nat} (h:IterAt w g s pos) (hlt:pos<s.size) (ty:TypeId):
 (Instr.next (.pointer (some ⟨g,0,none⟩)) true ty).run P w= .ok (.tuple #[.bool true,.int .i64 pos,.int .i32 (Utf8.decode s pos).1]) (setIter w g s (pos+(Utf8.decode s pos).2)):=by
 unfold IterAt at h
 simp only [Instr.next,getObj,setObj,Sem.run_bind,Sem.run,h,Result.andThen,hlt,if_true]
 simp [goInt,setIter]
theorem next_end {P:Program} {w:World} {g:Nat} {s:ByteArray} {pos:Nat} (h:IterAt w g s pos) (hge: ¬pos<s.size) (ty:TypeId):
 (Instr.next (.pointer (some ⟨g,0,none⟩)) true ty).run P w= .ok (.tuple #[.bool false]) w:=by
 unfold IterAt at h
 simp [Instr.next,getObj,Sem.run,h,hge]
def iterPos' (w:World) (g:Nat):Nat:=match w.heap[g]? with | some (.stringIter _ p)=>p | _=>0
theorem IterAt.pos {w:World} {g:Nat} {s:ByteArray} {pos:Nat} (h:IterAt w g s pos):iterPos' w g=pos:=by
 unfold IterAt at h
 simp [iterPos',h]
theorem byte_at (s:ByteArray) (k:Nat) (h:k<s.size):s[k]=s.data.toList[k]?.getD 0:=by
 have:k<s.data.toList.length:=by simpa using h
 rw [List.getElem?_eq_getElem this]
 rfl
theorem decode_low (s:ByteArray) (k:Nat) (h:k<s.size) (hc:(s.data.toList[k]?.getD 0).toNat<128):Utf8.decode s k=((s.data.toList[k]?.getD 0).toNat,1):=by
 rw [←byte_at s k h] at hc⊢
 exact decode_ascii s k h hc
theorem decode_hi (s:ByteArray) (k:Nat) (h:k<s.size) (hc: ¬(s.data.toList[k]?.getD 0).toNat<128):128≤(Utf8.decode s k).1∧1≤(Utf8.decode s k).2:=by
 rw [←byte_at s k h] at hc
 exact decode_high s k h (by omega)
def isN (c:Nat):Bool:=c==119||c==108
def isL (c:UInt8):Bool:=isN c.toNat
def eachB (gd:Nat→UInt8→Bool):Nat→List UInt8→Bool
 | _,[]=>true
 | i,c::r=>isL c&&(gd i c&&eachB gd (i+1) r)
theorem eachB_cons (gd:Nat→UInt8→Bool) (i:Nat) (c:UInt8) (r:List UInt8):eachB gd i (c::r)=(isL c&&(gd i c&&eachB gd (i+1) r)):=rfl
theorem isN_hi (c:Nat) (h: ¬c<128):isN c=false:=by
 unfold isN
 simp
 omega
def letB (m:Nat) (l:List UInt8):Bool:=decide (l.length≤m)&&l.all isL
theorem eachB_true: ∀(i:Nat) (l:List UInt8),eachB (fun _ _=>true) i l=l.all isL
 | _,[]=>rfl
 | i,c::r=>by rw [eachB_cons,eachB_true (i+1) r];simp
def fitN (v c:Nat):Bool:=c==108||(c==119&&decide (v<4294967296))
def fitB (v:Nat) (c:UInt8):Bool:=fitN v c.toNat
def allB:List Nat→List UInt8→Bool
 | [],[]=>true
 | v::vs,c::cs=>fitB v c&&allB vs cs
 | _,_=>false
theorem fit_letter (v:Nat) (c:UInt8) (h:fitB v c=true):isL c=true:=by
 unfold fitB fitN at h
 unfold isL isN
 simp at h⊢
 omega
theorem eachB_fit (vs0:List Nat): ∀(k:Nat) (l:List UInt8),vs0.length=k+l.length→eachB (fun i c=>fitB (vs0[i]?.getD 0) c) k l=allB (vs0.drop k) l
 | k,[],h=>by
  rw [List.drop_of_length_le (by simp at h;omega)]
  rfl
 | k,c::r,h=>by
  have hk:k<vs0.length:=by simp at h;omega
  rw [eachB_cons,eachB_fit vs0 (k+1) r (by simp at h;omega),List.drop_eq_getElem_cons hk,List.getElem?_eq_getElem hk]
  show(isL c&&(fitB vs0[k] c&&allB (vs0.drop (k+1)) r))=(fitB vs0[k] c&&allB (vs0.drop (k+1)) r)
  cases hf:fitB vs0[k] c with
  | false=>simp
  | true=>rw [fit_letter _ _ hf];simp
theorem allB_len: ∀(vs:List Nat) (l:List UInt8),allB vs l=true→vs.length=l.length
 | [],[],_=>rfl
 | v::vs,c::cs,h=>by
  simp only [allB,Bool.and_eq_true] at h
  simp [allB_len vs cs h.2]
 | [],c::cs,h=>by simp [allB] at h
 | v::vs,[],h=>by simp [allB] at h
theorem allB_ne (vs:List Nat) (l:List UInt8) (h:vs.length≠l.length):allB vs l=false:=by
 cases hb:allB vs l with
 | false=>rfl
 | true=>exact absurd (allB_len vs l hb) h
def uv (v:Nat):Go.Value:= .int .u64 (v:Int)
theorem Row.word {w:Go.World} {B:Nat} {A:Option Go.Addr} {l:List Nat} (h:Row w B A (l.map uv)) {j:Nat} (hj:j<l.length):
 ∃b o,A=some ⟨b,o,none⟩∧b<B∧w.cell? ⟨b,o+j,none⟩=some (.int .u64 ((l[j]?.getD 0:Nat):Int)):=by
 refine h.at ?_
 rw [List.getElem?_map,List.getElem?_eq_getElem hj]
 rfl
section
structure Rd (α:Type) where
 z:Nat
 R:World→Nat→Nat→List Value→α→Prop
 len: ∀ {W:World} {lo hi:Nat} {cs:List Value} {x:α},R W lo hi cs x→cs.length=z
 keep: ∀ {W W':World} {lo hi:Nat} {cs:List Value} {x:α},(∀p:Addr,lo≤p.block→p.block<hi→W'.cell? p=W.cell? p)→R W lo hi cs x→R W' lo hi cs x
 more: ∀ {W:World} {lo hi lo' hi':Nat} {cs:List Value} {x:α},lo'≤lo→hi≤hi'→R W lo hi cs x→R W lo' hi' cs x
namespace Rd
variable {α β γ:Type}
def at_ (r:Rd α) (W:World) (lo hi b o:Nat) (x:α):Prop:= ∃cs,(∀(j:Nat) u,cs[j]?=some u→W.cell? ⟨b,o+j,none⟩=some u)∧r.R W lo hi cs x
theorem at_.keep {r:Rd α} {W W':World} {lo hi b o:Nat} {x:α} (hb:lo≤b∧b<hi) (hk: ∀p:Addr,lo≤p.block→p.block<hi→W'.cell? p=W.cell? p) (h:r.at_ W lo hi b o x):r.at_ W' lo hi b o x:=by
 obtain⟨cs,hc,hr⟩:=h
 exact⟨cs,fun j u hu=>(hk _ hb.1 hb.2).trans (hc j u hu),r.keep hk hr⟩
theorem at_.more {r:Rd α} {W:World} {lo hi lo' hi' b o:Nat} {x:α} (h1:lo'≤lo) (h2:hi≤hi') (h:r.at_ W lo hi b o x):r.at_ W lo' hi' b o x:=by
 obtain⟨cs,hc,hr⟩:=h
 exact⟨cs,hc,r.more h1 h2 hr⟩
def one (f:α→Value) (ok:α→Prop):Rd α where
 z:=1
 R _ _ _ cs x:=cs= [f x]∧ok x
 len h:=by rw [h.1];rfl
 keep _ h:=h
 more _ _ h:=h
def B64 (n:Nat):Prop:=n<18446744073709551616
def B63 (n:Int):Prop:= -9223372036854775808≤n∧n<9223372036854775808
def B8 (n:Int):Prop:= -128≤n∧n<128
def SOk (s:ByteArray):Prop:=s.size≤140737488351232
def u64:Rd Nat:=one uv B64
def i64:Rd Int:=one (Value.int .i64) B63
def i8:Rd Int:=one (Value.int .i8) B8
def u8:Rd UInt8:=one bv fun _=>True
def bool:Rd Bool:=one Value.bool fun _=>True
def str:Rd ByteArray:=one Value.string SOk
def sl (sp:Bool) (r:Rd α):Rd (List α) where
 z:=1
 R W lo hi cs xs:= ∃A c,cs= [.slice A xs.length c]∧((sp=true→ ∀a,A=some a→a.spot=none)∧xs.length≤c)∧(0<xs.length→ ∃b o,A=some ⟨b,o,none⟩∧lo≤b∧b<hi∧ ∀(k:Nat) x,xs[k]?=some x→r.at_ W lo hi b (o+k*r.z) x)
 len h:=by obtain⟨A,c,rfl,_⟩:=h;rfl
 keep hk h:=by
  obtain⟨A,c,rfl,hs,h⟩:=h
  refine⟨A,c,rfl,hs,fun hn=> ?_⟩
  obtain⟨b,o,e,h1,h2,hx⟩:=h hn
  exact⟨b,o,e,h1,h2,fun k x hkx=>(hx k x hkx).keep ⟨h1,h2⟩ hk⟩
 more h1 h2 h:=by
  obtain⟨A,c,rfl,hs,h⟩:=h
  refine⟨A,c,rfl,hs,fun hn=> ?_⟩
  obtain⟨b,o,e,h3,h4,hx⟩:=h hn
  exact⟨b,o,e,by omega,by omega,fun k x hkx=>(hx k x hkx).more h1 h2⟩
def pair (r:Rd α) (s:Rd β):Rd (α×β) where
 z:=r.z+s.z
 R W lo hi cs x:= ∃c1 c2,cs=c1++c2∧r.R W lo hi c1 x.1∧s.R W lo hi c2 x.2
 len h:=by obtain⟨c1,c2,rfl,h1,h2⟩:=h;rw [List.length_append,r.len h1,s.len h2]
 keep hk h:=by obtain⟨c1,c2,e,h1,h2⟩:=h;exact⟨c1,c2,e,r.keep hk h1,s.keep hk h2⟩
 more h1 h2 h:=by obtain⟨c1,c2,e,h3,h4⟩:=h;exact⟨c1,c2,e,r.more h1 h2 h3,s.more h1 h2 h4⟩
def unit:Rd Unit where
 z:=0
 R _ _ _ cs _:=cs= []
 len h:=by rw [h];rfl
 keep _ h:=h
 more _ _ h:=h
def via (r:Rd α) (f:β→α):Rd β where
 z:=r.z
 R W lo hi cs x:=r.R W lo hi cs (f x)
 len h:=r.len h
 keep hk h:=r.keep hk h
 more h1 h2 h:=r.more h1 h2 h
variable {r:Rd α} {W W':World} {lo hi:Nat} {cs:List Value} {x:α}
theorem below (h:r.R W lo hi cs x) {B:Nat} (hb:Below B W W') (hB:hi≤B):r.R W' lo hi cs x:=
 r.keep (fun p _ h2=>hb.cell (Nat.lt_of_lt_of_le h2 hB)) h
theorem grown (h:r.R W lo hi cs x) {row:Option Nat} (hg:W.grownBy W' row) (hB:hi≤W.heap.size) (hr: ∀k,row=some k→k<lo∨hi≤k):r.R W' lo hi cs x:=
 r.keep (fun p h1 h2=>by
  have hb:=hg.block p.block (by omega) (fun e=>by have:=hr _ e.symm;omega)
  simp [World.cell?,hb]) h
theorem sl_row {sp:Bool} {f:α→Value} {ok:α→Prop} {A:Option Addr} {n c:Nat} {xs:List α} (h:(sl sp (one f ok)).R W lo hi [.slice A n c] xs):n=xs.length∧Row W hi A (xs.map f):=by
 obtain⟨A',c',he,_,h⟩:=h
 injection he with he _
 injection he with h1 h2 h3
 subst h1 h2
 refine⟨rfl,fun hn=> ?_⟩
 rw [List.length_map] at hn
 obtain⟨b,o,e,_,hlt,hx⟩:=h hn
 refine⟨b,o,e,hlt,fun j u hu=> ?_⟩
 rw [List.getElem?_map] at hu
 cases hxj:xs[j]? with
 | none=>rw [hxj] at hu;cases hu
 | some y=>
  rw [hxj] at hu
  obtain⟨cs,hc,hcs,_⟩:=hx j y hxj
  subst hcs
  have:=hc 0 (f y) rfl
  rw [show(one f ok).z=1 from rfl,Nat.mul_one,Nat.add_zero] at this
  rw [this]
  simpa using hu
theorem sl_ok {sp:Bool} {f:α→Value} {ok:α→Prop} {A:Option Addr} {n c:Nat} {xs:List α} (h:(sl sp (one f ok)).R W lo hi [.slice A n c] xs): ∀x∈xs,ok x:=by
 obtain⟨A',c',he,_,h⟩:=h
 intro x hx
 obtain⟨k,hk,rfl⟩:=List.getElem_of_mem hx
 obtain⟨b,o,e,_,hlt,hx⟩:=h (by omega)
 obtain⟨cs,hc,hcs,hok⟩:=hx k _ (List.getElem?_eq_getElem hk)
 exact hok
end Rd
theorem Row.spotless {W:World} {base:Nat} {e:TypeId} {A:Option Addr} {n c m size:Nat} {xs:List Value} (h:W.ownsRow base e size (.slice A n c) m xs): ∀a,A=some a→a.spot=none:=by
 rintro a rfl
 rcases h.2 with⟨hv,_⟩ | ⟨g,cap,cur,hv,_⟩
 ·injection hv with h1;cases h1
 ·injection hv with h1;injection h1 with h1;rw [h1]
theorem Row.few {W:World} {base:Nat} {e:TypeId} {A:Option Addr} {n c size:Nat} {xs:List Value} (h:W.ownsRow base e size (.slice A n c) n xs):n≤c:=by
 rcases h.2 with⟨hv,h0⟩ | ⟨g,cap,cur,hv,_,_,hle,_⟩
 ·injection hv with h1 h2 h3;omega
 ·injection hv with h1 h2 h3;omega
theorem Rd.own {α:Type} (sp:Bool) {r:Rd α} {W:World} {base:Nat} {e:TypeId} {A:Option Addr} {n c:Nat} {vs:List Value} {xs:List α} (h:W.ownsRow base e r.z (.slice A n c) n vs) (hn:n=xs.length)
 (hx: ∀(k:Nat) x,xs[k]?=some x→r.R W base W.heap.size ((vs.drop (k*r.z)).take r.z) x):(r.sl sp).R W base W.heap.size [.slice A n c] xs:=by
 subst hn
 refine⟨A,c,rfl,⟨fun _=>Row.spotless h,Row.few h⟩,fun hn=> ?_⟩
 rcases h.2 with⟨_,h0⟩ | ⟨g,cap,cur,hv,hb,hg,_⟩
 ·omega
 ·have hA:A=some ⟨g,0,none⟩:=by injection hv
  subst hA
  refine⟨g,0,rfl,hb,(Array.getElem?_eq_some_iff.1 hg).1,fun k x hk=>⟨_,fun j u hu=> ?_,hx k x hk⟩⟩
  rw [List.getElem?_take] at hu
  split at hu
  ·rw [List.getElem?_drop] at hu
   have:=h.cells (g:=g) rfl (k*r.z+j) u hu
   rw [Addr.add_lit] at this
   simpa [Nat.add_assoc] using this
  ·cases hu
section
variable {α β:Type}
def Opens (P:Program) (t:TypeId) (r:Rd α) (ok:α→Prop):Prop:=P.cellsOf t=r.z∧
 ∀ {H:Type} {enc:TypeId×Value→H} {W:World} {base:Nat} {spare:Nat→Bool} {held:Bool} {n:Nat} {cs:List Value} {x:DataW H×List MemPlace},
  DataW.trod enc P W base spare held n t cs=some x→(∀m∈x.1.weights P t,m≤140737488351232)→ ∃y,r.R W 0 W.heap.size cs y∧ok y
theorem opens_int {P:Program} {t:TypeId} {k:IntKind} (ht:P.underlying t=some (.int k)) (hc:P.cellsOf t=1) {f:α→Value} {ok:α→Prop} (hf: ∀n:Int,(Lit.int k n).wf=true→ ∃x,f x= .int k n∧ok x):Opens P t (Rd.one f ok) ok:=by
 refine⟨hc,fun h _=> ?_⟩
 obtain⟨n,rfl,_,hw⟩:=DataW.trod_int ht h
 obtain⟨x,hx,hok⟩:=hf n hw
 exact⟨x,⟨by rw [hx],hok⟩,hok⟩
theorem opens_u64 {P:Program} {t:TypeId} (ht:P.underlying t=some (.int .u64)) (hc:P.cellsOf t=1):Opens P t Rd.u64 Rd.B64:=
 opens_int ht hc fun n hn=>⟨n.toNat,by have:=bd_u64 hn;unfold uv;rw [Int.toNat_of_nonneg this.1],by have:=bd_u64 hn;unfold Rd.B64;omega⟩
theorem opens_i64 {P:Program} {t:TypeId} (ht:P.underlying t=some (.int .i64)) (hc:P.cellsOf t=1):Opens P t Rd.i64 Rd.B63:=
 opens_int ht hc fun n hn=>⟨n,rfl,bd_i64 hn⟩
theorem opens_i8 {P:Program} {t:TypeId} (ht:P.underlying t=some (.int .i8)) (hc:P.cellsOf t=1):Opens P t Rd.i8 Rd.B8:=
 opens_int ht hc fun n hn=>⟨n,rfl,by
  simp only [Lit.wf,Bool.and_eq_true,decide_eq_true_eq] at hn
  have hmin:IntKind.i8.min= -128:=rfl
  have hmax:IntKind.i8.max=127:=rfl
  unfold Rd.B8
  omega⟩
theorem opens_u8 {P:Program} {t:TypeId} (ht:P.underlying t=some (.int .u8)) (hc:P.cellsOf t=1):Opens P t Rd.u8 (fun _=>True):=
 opens_int ht hc fun n hn=>⟨UInt8.ofNat n.toNat,by
  have:=bd_u8 hn
  unfold bv
  rw [UInt8.toNat_ofNat_of_lt' (by simp only [UInt8.size];omega),Int.toNat_of_nonneg this.1],trivial⟩
theorem opens_bool {P:Program} {t:TypeId} (ht:P.underlying t=some .bool) (hc:P.cellsOf t=1):Opens P t Rd.bool (fun _=>True):=by
 refine⟨hc,fun h _=> ?_⟩
 obtain⟨b,rfl,_⟩:=DataW.trod_bool ht h
 exact⟨b,⟨rfl,trivial⟩,trivial⟩
theorem opens_str {P:Program} {t:TypeId} (ht:P.underlying t=some .string) (hc:P.cellsOf t=1):Opens P t Rd.str Rd.SOk:=by
 refine⟨hc,fun h hw=> ?_⟩
 obtain⟨s,rfl,rfl,_⟩:=DataW.trod_string ht h
 have:=hw s.data.toList.length (by simp [DataW.weights])
 exact⟨s,⟨rfl,by simpa [Rd.SOk] using this⟩,by simpa [Rd.SOk] using this⟩
theorem weightsAll_mem {H:Type} {P:Program} {e:TypeId}: ∀ {xs:List (DataW H)} {d:DataW H},d∈xs→ ∀m∈d.weights P e,m∈DataW.weightsAll P e xs
 | x::xs,d,h,m,hm=>by
  rw [DataW.weightsAll,List.mem_append]
  rcases List.mem_cons.1 h with rfl | h
  ·exact .inl hm
  ·exact .inr (weightsAll_mem h m hm)
theorem opens_sl {P:Program} {t e:TypeId} {r:Rd α} {ok:α→Prop} (ht:P.underlying t=some (.slice e)) (hc:P.cellsOf t=1) (he:Opens P e r ok) {by_:Nat} (hby:P.bytesOf e=by_) (hz:0<P.cellsOf e):
 Opens P t (r.sl false) (fun xs=>xs.length*by_≤140737488351232∧ ∀x∈xs,ok x):=by
 refine⟨hc,?_⟩
 intro H enc W base spare held n cs x h hw
 rcases DataW.trod_slice ht h with⟨rfl,rfl⟩ | ⟨a,len,cap,elems,rest,m,rfl,rfl,rfl,_,hlc,hcm,hel,hget,_⟩
 ·exact⟨[],⟨none,0,rfl,⟨fun h=>(by cases h),Nat.le_refl _⟩,fun h=>absurd h (by simp)⟩,by simp,by simp⟩
 ·have key: ∀(k:Nat),k<len→ ∃y:α,ok y∧ ∃cs:List Value,W.cells? base (a.add (k*P.cellsOf e)) (P.cellsOf e)=some cs∧r.R W 0 W.heap.size cs y:=by
   intro k hk
   have hg:=hget k hk
   have hkl:k<elems.length:=by omega
   rw [List.getElem?_eq_getElem hkl] at hg
   obtain⟨cs,hcs,htr⟩:=Option.bind_eq_some_iff.1 hg
   obtain⟨y,hy,hok⟩:=he.2 htr (fun q hq=>hw q (by
    simp only [DataW.weights,ht,List.mem_cons,List.mem_append]
    exact .inr (.inl (weightsAll_mem (List.mem_map_of_mem (List.getElem_mem hkl)) q hq))))
   exact⟨y,hok,cs,hcs,hy⟩
  have hlist: ∀m:Nat,m≤len→ ∃xs:List α,xs.length=m∧ ∀(k:Nat) y,xs[k]?=some y→ok y∧ ∃cs:List Value,W.cells? base (a.add (k*P.cellsOf e)) (P.cellsOf e)=some cs∧r.R W 0 W.heap.size cs y:=by
   intro m
   induction m with
   | zero=>exact fun _=>⟨[],rfl,by simp⟩
   | succ m ih=>
    intro hm
    obtain⟨xs,hl,hx⟩:=ih (by omega)
    obtain⟨y,hok,cs,hcs,hy⟩:=key m (by omega)
    refine⟨xs++ [y],by simp [hl],fun k u hu=> ?_⟩
    rw [List.getElem?_append] at hu
    split at hu
    ·exact hx k u hu
    ·rename_i hge
     have hk:k=m:=by
      have:=(List.getElem?_eq_some_iff.1 hu).1
      simp at this;omega
     subst hk
     rw [hl,Nat.sub_self] at hu
     simp at hu
     subst hu
     exact⟨hok,cs,hcs,hy⟩
  obtain⟨xs,hl,hx⟩:=hlist len (Nat.le_refl _)
  have hlen:len*by_≤140737488351232:=by
   have:=hw _ (by simp only [DataW.weights,ht];exact List.mem_cons_self ..)
   rw [hby,List.length_map,List.length_map,hel] at this
   exact Nat.le_trans (Nat.mul_le_mul_right _ (by omega)) this
  subst hl
  refine⟨xs,⟨some a,cap,rfl,⟨(fun h=>by cases h),by omega⟩,fun hn=> ?_⟩,hlen,fun y hy=> ?_⟩
  ·obtain⟨_,cs0,hcs0,_⟩:=hx 0 _ (List.getElem?_eq_getElem hn)
   have hb:=World.cells?_block hcs0 hz
   obtain⟨_,hl0,hg0⟩:=World.cells?_some hcs0
   have h0:=hg0 0 hz
   rw [List.getElem?_eq_getElem (by omega)] at h0
   have hs0:=World.cell?_spot h0
   obtain⟨b,o,spot⟩:=a
   have hspot:spot=none:=by simpa [Addr.add] using hs0
   subst hspot
   have hbl:b<W.heap.size:=by simpa [Addr.add] using hb
   refine⟨b,o,rfl,Nat.zero_le _,hbl,fun k x hk=> ?_⟩
   obtain⟨_,cs,hcs,hr⟩:=hx k x hk
   obtain⟨_,hl1,hg1⟩:=World.cells?_some hcs
   refine⟨cs,fun j u hu=> ?_,hr⟩
   have hj:=(List.getElem?_eq_some_iff.1 hu).1
   have:=hg1 j (by omega)
   rw [Addr.add_lit,Addr.add_lit,he.1,hu] at this
   rw [←this]
  ·obtain⟨k,hk,rfl⟩:=List.getElem_of_mem hy
   exact(hx k _ (List.getElem?_eq_getElem hk)).1
structure OpensF (P:Program) (fs:List Field) (off:Nat) (r:Rd α) (ok:α→Prop):Prop where
 out: ∀ {H:Type} {enc:TypeId×Value→H} {W:World} {base:Nat} {spare:Nat→Bool} {held:Bool} {n:Nat} {cs:List Value} {xs:List (DataW H×List MemPlace)},
  cs.length=off+r.z→fs.map (fun f=>DataW.trod enc P W base spare held n f.type ((cs.drop f.offset).take (P.cellsOf f.type)))=xs.map some→
  (∀m∈DataW.weightsEach P (fs.map (·.type)) (xs.map (·.1)),m≤140737488351232)→ ∃y,r.R W 0 W.heap.size (cs.drop off) y∧ok y
theorem opensF_nil {P:Program} {off:Nat}:OpensF P [] off Rd.unit (fun _=>True):=by
 constructor
 intro H enc W base spare held n cs xs hl _ _
 exact⟨(),by show cs.drop off= [];exact List.drop_eq_nil_of_le (by rw [hl];exact Nat.le_refl _),trivial⟩
theorem opensF_cons {P:Program} {f:Field} {fs:List Field} {off:Nat} {r:Rd α} {s:Rd β} {ok:α→Prop} {ok2:β→Prop} (hf:f.offset=off) (h1:Opens P f.type r ok) (h2:OpensF P fs (off+r.z) s ok2):
 OpensF P (f::fs) off (r.pair s) (fun x=>ok x.1∧ok2 x.2):=by
 constructor
 intro H enc W base spare held n cs xs hl hx hw
 cases xs with
 | nil=>cases hx
 | cons x xs=>
  simp only [List.map_cons,List.cons.injEq] at hx
  obtain⟨hx,hxs⟩:=hx
  simp only [List.map_cons,DataW.weightsEach,List.mem_append] at hw
  have hlen:cs.length=off+(r.z+s.z):=hl
  obtain⟨y,hy,hok⟩:=h1.2 hx (fun m hm=>hw m (.inl hm))
  obtain⟨y2,hy2,hok2⟩:=h2.out (cs:=cs) (by rw [hlen,Nat.add_assoc]) hxs (fun m hm=>hw m (.inr hm))
  refine⟨(y,y2),⟨_,_,?_,hy,hy2⟩,hok,hok2⟩
  rw [hf,h1.1,←List.drop_drop,List.take_append_drop]
theorem opens_struct {P:Program} {t:TypeId} {fs:Array Field} {r:Rd α} {ok:α→Prop} (ht:P.underlying t=some (.struct fs)) (hc:P.cellsOf t=r.z) (h:OpensF P fs.toList 0 r ok):Opens P t r ok:=by
 refine⟨hc,?_⟩
 intro H enc W base spare held n cs x hx hw
 obtain⟨xs,m,rfl,rfl,hl,hlen,hf⟩:=DataW.trod_struct ht hx
 obtain⟨y,hy,hok⟩:=h.out (enc:=enc) (W:=W) (base:=base) (spare:=spare) (held:=held) (n:=m) (cs:=cs) (xs:=xs) (by rw [hl,hc,Nat.zero_add]) (by
  refine List.ext_getElem? fun i=> ?_
  rw [List.getElem?_map,List.getElem?_map]
  cases hi:fs.toList[i]? with
  | none=>
   have hge:fs.size≤i:=by simpa using List.getElem?_eq_none_iff.1 hi
   rw [List.getElem?_eq_none (by omega)];rfl
  | some f=>
   have hfi:fs[i]?=some f:=by simpa using hi
   have hlt:i<xs.length:=by rw [hlen];exact(Array.getElem?_eq_some_iff.1 hfi).1
   have:=hf i f hfi
   rw [List.getElem?_eq_getElem hlt] at this⊢
   simpa using this) (by
  intro q hq
  apply hw q
  simp only [DataW.weights,ht]
  exact hq)
 exact⟨y,by simpa using hy,hok⟩
theorem opens_via {P:Program} {t:TypeId} {r:Rd α} {ok:α→Prop} (h:Opens P t r ok) (f:β→α) (g:α→β) (hfg: ∀a,f (g a)=a):Opens P t (r.via f) (fun b=>ok (f b)):=by
 refine⟨h.1,fun hx hw=> ?_⟩
 obtain⟨y,hy,hok⟩:=h.2 hx hw
 exact⟨g y,by show r.R _ _ _ _ (f (g y));rw [hfg];exact hy,by show ok (f (g y));rw [hfg];exact hok⟩
theorem opens_arg {P:Program} {t:TypeId} {r:Rd α} {ok:α→Prop} (h:Opens P t r ok) {H:Type} {enc:TypeId×Value→H} {W:World} {base:Nat} {spare:Nat→Bool} {held:Bool} {v:Value} {d:DataW H} {p:List MemPlace}
 (hv:DataW.Trod enc P W base spare held t v d p) {ts:List TypeId} {ds:List (DataW H)} {j:Nat} (hs:(DataW.weightsEach P ts ds).all (· ≤reachBytes)=true) (ht:ts[j]?=some t) (hd:ds[j]?=some d):
 ∃y,r.R W 0 W.heap.size v.cells.toList y∧ok y:=by
 obtain⟨n,hv⟩:=hv
 refine h.2 hv fun m hm=> ?_
 have:=List.all_eq_true.1 hs m (DataW.weights_mem_each ht hd m hm)
 exact of_decide_eq_true this
end
end
end Go.Proofs.YtebgikflpgcnlaaGreatDoor
