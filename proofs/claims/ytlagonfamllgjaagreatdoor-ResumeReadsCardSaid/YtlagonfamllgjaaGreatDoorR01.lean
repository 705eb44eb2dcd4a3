/- Part 1 of the proof: Base Fold Mem BoxB Iter ShapeP Lists App EqW TypesA EachL Open Rd AppZ Keep -/
import Derived.WalkKit
import Derived.Laws.BitsAllLaws
import Derived.Lib.Hide
import Derived.Below
import Derived.OwnWalk
import Derived.Laws.OwnMore
import Derived.Laws.BytesArg
import Derived.Laws.MakeOwn
import Derived.Laws.NewBlocks
import Derived.Deep.Draws
import Derived.OrdersHeld
import Derived.Laws.RangeAny
import Derived.Maps.AppendAt
import Derived.Lib.ConvBytes
import Derived.Test.YtlagonfamllgjaaGreatDoorProg
import Derived.Handy
import Derived.Deep.QuietTactic
import Derived.BigQuiet
import Derived.ChangeSlices
import Derived.SizedLaws
import Derived.ChangeArms
import Derived.ChangeSame
import Derived.Deep.RegionLaw
import Derived.Deep.Onto
namespace Go.Proofs.YtlagonfamllgjaaGreatDoor
set_option linter.unusedVariables false
set_option linter.unusedSimpArgs false
set_option maxRecDepth 100000
set_option maxHeartbeats 4000000
open Go.RowKit Tryz
def Row (w:World) (B:Nat) (A:Option Addr) (xs:List Value):Prop:=
 0<xs.length→ ∃b o,A=some ⟨b,o,none⟩∧b<B∧ ∀j u,xs[j]?=some u→w.cell? ⟨b,o+j,none⟩=some u
theorem Row.nil (w:World) (B:Nat) (A:Option Addr):Row w B A []:=fun h=>absurd h (by simp)
theorem Row.more {w:World} {B B':Nat} {A:Option Addr} {xs:List Value} (h:Row w B A xs) (hb:B≤B'):Row w B' A xs:=fun hn=>
 let ⟨b,o,e,hlt,hc⟩:=h hn
 ⟨b,o,e,Nat.lt_of_lt_of_le hlt hb,hc⟩
theorem Row.keep {w w':World} {B:Nat} {A:Option Addr} {xs:List Value} (h:Row w B A xs) (hk: ∀p:Addr,p.block<B→w'.cell? p=w.cell? p):Row w' B A xs:=fun hn=>
 let ⟨b,o,e,hlt,hc⟩:=h hn
 ⟨b,o,e,hlt,fun j u hu=>(hk _ hlt).trans (hc j u hu)⟩
theorem Row.below {w w':World} {B:Nat} {A:Option Addr} {xs:List Value} (h:Row w B A xs) (hb:Below B w w'):Row w' B A xs:=
 h.keep fun _ hp=>hb.cell hp
theorem Row.below' {w w':World} {B B':Nat} {A:Option Addr} {xs:List Value} (h:Row w B A xs) (hb:Below B' w w') (hB:B≤B'):Row w' B A xs:=
 h.keep fun _ hp=>hb.cell (Nat.lt_of_lt_of_le hp hB)
theorem Row.at {w:World} {B:Nat} {A:Option Addr} {xs:List Value} (h:Row w B A xs) {j:Nat} {u:Value} (hu:xs[j]?=some u):
 ∃b o,A=some ⟨b,o,none⟩∧b<B∧w.cell? ⟨b,o+j,none⟩=some u:=by
 have hj:j<xs.length:=(List.getElem?_eq_some_iff.1 hu).1
 obtain⟨b,o,e,hlt,hc⟩:=h (by omega)
 exact⟨b,o,e,hlt,hc j u hu⟩
theorem Row.cut {w:World} {B:Nat} {A:Option Addr} {xs:List Value} (h:Row w B A xs) (n:Nat):Row w B A (xs.take n):=fun hn=>by
 rw [List.length_take] at hn
 obtain⟨b,o,e,hlt,hc⟩:=h (by omega)
 refine⟨b,o,e,hlt,fun j u hu=>hc j u ?_⟩
 rw [List.getElem?_take] at hu
 split at hu
 ·exact hu
 ·cases hu
theorem Row.own {w:World} {base:Nat} {e:TypeId} {A:Option Addr} {n c:Nat} {xs:List Value} (h:w.ownsRow base e 1 (.slice A n c) n xs):Row w w.heap.size A xs:=by
 intro hn
 rcases h.2 with⟨_,h0⟩ | ⟨g,cap,cur,hv,_,hg,_,_,_,_⟩
 ·have:=h.1;subst h0;simp at this;subst this;simp at hn
 ·have hA:A=some ⟨g,0,none⟩:=by injection hv
  subst hA
  refine⟨g,0,rfl,(Array.getElem?_eq_some_iff.1 hg).1,fun j u hu=> ?_⟩
  have:=h.cells (g:=g) rfl j u hu
  rw [Addr.add_lit] at this
  exact this
def bv (c:UInt8):Value:= .int .u8 (c.toNat:Int)
theorem Row.byte {w:World} {B:Nat} {A:Option Addr} {l:List UInt8} (h:Row w B A (l.map bv)) {j:Nat} (hj:j<l.length):
 ∃b o,A=some ⟨b,o,none⟩∧b<B∧w.cell? ⟨b,o+j,none⟩=some (.int .u8 ((l[j]?.getD 0).toNat:Int)):=by
 refine h.at ?_
 rw [List.getElem?_map,List.getElem?_eq_getElem hj]
 rfl
theorem Row.drop {w:World} {B:Nat} {A:Option Addr} {xs:List Value} (h:Row w B A xs) (k:Nat):Row w B (A.map (·.add k)) (xs.drop k):=by
 intro hn
 rw [List.length_drop] at hn
 obtain⟨b,o,rfl,hlt,hc⟩:=h (by omega)
 refine⟨b,o+k,by rw [Option.map_some,Addr.add_lit],hlt,fun j u hu=> ?_⟩
 rw [List.getElem?_drop] at hu
 rw [Nat.add_assoc]
 exact hc _ u hu
theorem NJ {P:Program} (src e dst:TypeId) (hs:P.underlying src=some (.slice e)) (he:P.underlying e=some (.int .u8)) (hd:P.underlying dst=some .string)
 (w:World) (B:Nat) (A:Option Addr) (m c:Nat) (sub:List UInt8) (hm:m=sub.length) (h:Row w B A (sub.map bv)):
 (convert src dst (.slice A m c)).run P w= .ok (.string ⟨sub.toArray⟩) w:=by
 rw [run_convert_bytes_string w src dst e A m c hs he hd]
 rcases A with _ | a
 ·have:sub= []:=by
   rcases Nat.eq_zero_or_pos sub.length with h0 | h0
   ·exact List.eq_nil_of_length_eq_zero h0
   ·obtain⟨_,_,h',_⟩:=h (by simpa using h0)
    cases h'
  subst this
  simp [Conv.bytesToString]
  rfl
 ·have hl:(loadCells a m).run P w= .ok ((sub.map fun c=>(c.toNat:Int)).map (Value.int .u8)).toArray w:=by
   have:=run_loadCells_list (P:=P) w a (sub.map bv) (fun j v hj=>by
    have hj':=(List.getElem?_eq_some_iff.1 hj).1
    obtain⟨b,o,h',_,hc⟩:=h (by omega)
    injection h' with h'
    subst h'
    rw [Addr.add_lit]
    exact hc j v hj)
   rw [List.length_map,←hm] at this
   rw [this,List.map_map]
   rfl
  rw [run_bytesToString w a m c _ hl,foldl_push_bytes,List.map_map]
  congr 2
  show ByteArray.mk (#[]++_)=_
  rw [Array.empty_append]
  congr 2
  exact List.map_id'' (fun c=>by simp) sub
def IJ:Nat→Nat→Nat→List UInt8→Nat×Nat×Nat
 | 0,_,_,_=>(0,0,11)
 | _+1,_,_,[]=>(0,0,10)
 | n+1,i,v,c::r=>
  if i=9∧1<c.toNat then(0,0,11)
  else if c.toNat<128 then(if c.toNat=0∧0<i then(0,0,12) else(v+c.toNat%128*128^i,i+1,0))
  else IJ n (i+1) (v+c.toNat%128*128^i) r
theorem xJ (c:Nat) (h:c<256):bits .and .u8 (c:Int) 127=((c%128:Nat):Int):=by
 have:=u8_and_nat c 127 h (by omega)
 rw [show((127:Nat):Int)=127 from rfl] at this
 rw [this,show(127:Nat)=2^7-1 from rfl,Nat.and_two_pow_sub_one_eq_mod]
theorem xK (x d k:Nat) (hx:x<128^k) (hx64:x<18446744073709551616) (hd:d*128^k<18446744073709551616):
 bits .or .u64 (x:Int) ((d*128^k:Nat):Int)=((x+d*128^k:Nat):Int):=by
 rw [u64_or_nat x _ hx64 hd]
 have e:(128:Nat)^k=2^(7*k):=by rw [Nat.pow_mul]
 rw [e] at hx⊢
 have:=Nat.shiftLeft_add_eq_or_of_lt hx d
 rw [Nat.shiftLeft_eq] at this
 rw [Nat.or_comm,←this,Nat.add_comm]
theorem UF (k:Nat) (hk:k≤9):128^k≤9223372036854775808:=by
 have:=Nat.pow_le_pow_right (show 0<128 by omega) hk
 exact Nat.le_trans this (by decide)
theorem Yq (x c k:Nat) (hk:k≤9) (hx:x<128^k) (h9:k=9→c≤1):x+c%128*128^k<18446744073709551616:=by
 have aM:=UF k hk
 by_cases h:k=9
 ·have:=h9 h;subst h
  have:c%128=0∨c%128=1:=by omega
  rcases this with e | e<;>rw [e]<;>omega
 ·have h8:128^k≤72057594037927936:=by
   have:=Nat.pow_le_pow_right (show 0<128 by omega) (show k≤8 by omega)
   exact Nat.le_trans this (by decide)
  have:c%128*128^k≤127*128^k:=Nat.mul_le_mul_right _ (by omega)
  omega
theorem VI (x c k:Nat) (hx:x<128^k):x+c%128*128^k<128^(k+1):=by
 have:c%128*128^k≤127*128^k:=Nat.mul_le_mul_right _ (by omega)
 rw [Nat.pow_succ];omega
theorem acc (x c k:Nat) (hk:k≤9) (hc:c<256) (hx:x<128^k) (h9:k=9→c≤1):
 bits .or .u64 (x:Int) (IntKind.u64.wrap (IntKind.u64.wrap (bits .and .u8 (c:Int) 127)*2^(7*k)))=((x+c%128*128^k:Nat):Int):=by
 have hlt:=Yq x c k hk hx h9
 rw [xJ c hc]
 have e1:IntKind.u64.wrap ((c%128:Nat):Int)=((c%128:Nat):Int):=by
  rw [IntKind.wrap_u64];omega
 rw [e1]
 have e2:(((c%128:Nat):Int)*2^(7*k))=((c%128*128^k:Nat):Int):=by
  have e:(128:Nat)^k=2^(7*k):=by rw [Nat.pow_mul]
  rw [e];simp
 rw [e2]
 have e3:IntKind.u64.wrap ((c%128*128^k:Nat):Int)=((c%128*128^k:Nat):Int):=by
  rw [IntKind.wrap_u64];omega
 rw [e3]
 exact xK x _ k hx (by omega) (by omega)
theorem accR (x c k u:Nat) (hk:k≤9) (_hc:c<256) (hx:x<128^k) (h9:k=9→c≤1) (hu:u=128^k):
 IntKind.u64.wrap ((x:Int)+IntKind.u64.wrap ((c:Int)%128*u))=((x+c%128*128^k:Nat):Int):=by
 have hlt:=Yq x c k hk hx h9
 subst hu
 have e:((c:Int)%128*((128^k:Nat):Int))=((c%128*128^k:Nat):Int):=by simp
 rw [e,IntKind.wrap_u64,IntKind.wrap_u64]
 omega
theorem dM (k u:Nat) (hk:k<9) (hu:u=128^k):IntKind.u64.wrap ((u:Int)*128)=((128^(k+1):Nat):Int):=by
 have:=UF (k+1) (by omega)
 subst hu
 rw [IntKind.wrap_u64,Nat.pow_succ]
 rw [Nat.pow_succ] at this
 omega
def EJ (l:List UInt8) (p:Int):Nat×Nat×Nat:=
 if p<0∨(l.length:Int)<p then(0,0,1)
 else
  let r:=IJ 10 0 0 (l.drop p.toNat)
  (r.1,(if r.2.2=0 then p.toNat+r.2.1 else 0),r.2.2)
theorem PK {k1 k2 k3:IntKind} {a a' b b' c c':Int} (h1:a=a') (h2:b=b') (h3:c=c'):
 Ending.returned (.tuple #[.int k1 a,.int k2 b,.int k3 c])= .returned (.tuple #[.int k1 a',.int k2 b',.int k3 c']):=by
 rw [h1,h2,h3]
theorem LW (l:List UInt8) (p:Int) (h:p<0∨(l.length:Int)<p):EJ l p=(0,0,1):=by rw [EJ,if_pos h]
theorem Gz (l:List UInt8) (p:Nat) (h:p≤l.length) {v n e:Nat} (hr:IJ 10 0 0 (l.drop p)=(v,n,e)):
 EJ l p=(v,(if e=0 then p+n else 0),e):=by
 rw [EJ,if_neg (by omega)]
 simp [hr]
theorem RL (n i v:Nat) (c:UInt8) (r:List UInt8):IJ (n+1) i v (c::r)=
 if i=9∧1<c.toNat then(0,0,11)
 else if c.toNat<128 then(if c.toNat=0∧0<i then(0,0,12) else(v+c.toNat%128*128^i,i+1,0))
 else IJ n (i+1) (v+c.toNat%128*128^i) r:=rfl
theorem aN (n i v:Nat):IJ (n+1) i v []=(0,0,10):=rfl
theorem drop_at (l:List UInt8) (k:Nat) (h:k<l.length):l.drop k=(l[k]?.getD 0)::l.drop (k+1):=by
 rw [List.drop_eq_getElem_cons h,List.getElem?_eq_getElem h];rfl
theorem UG: ∀(n i v:Nat) (l:List UInt8),i+n=10→v<128^i→
 (IJ n i v l).1<18446744073709551616∧((IJ n i v l).2.2=0→(IJ n i v l).2.1≤i+l.length∧i<(IJ n i v l).2.1)∧
  ((IJ n i v l).2.2≠0→(IJ n i v l).1=0∧(IJ n i v l).2.1=0)∧
  ((IJ n i v l).2.2=0∨(IJ n i v l).2.2=10∨(IJ n i v l).2.2=11∨(IJ n i v l).2.2=12)
 | 0,_,_,_,_,_=>by simp [IJ]
 | n+1,_,_,[],_,_=>by simp [IJ]
 | n+1,i,v,c::r,h,hv=>by
  rw [RL]
  by_cases h1:i=9∧1<c.toNat
  ·rw [if_pos h1];simp
  ·rw [if_neg h1]
   have hlt:=Yq v c.toNat i (by omega) hv (by omega)
   by_cases h2:c.toNat<128
   ·rw [if_pos h2]
    by_cases h3:c.toNat=0∧0<i
    ·rw [if_pos h3];simp
    ·rw [if_neg h3];simp;omega
   ·rw [if_neg h2]
    have:=UG n (i+1) (v+c.toNat%128*128^i) r (by omega) (VI v c.toNat i hv)
    refine⟨this.1,fun h=> ?_,this.2.2⟩
    have:=this.2.1 h
    simp;omega
theorem Yr (l:List UInt8) (p:Int):(EJ l p).1<18446744073709551616∧(EJ l p).2.1≤l.length∧
 ((EJ l p).2.2≠0→(EJ l p).1=0∧(EJ l p).2.1=0)∧((EJ l p).2.2=1↔(p<0∨(l.length:Int)<p))∧(EJ l p).2.2≤12:=by
 by_cases h:p<0∨(l.length:Int)<p
 ·rw [LW l p h];simp [h]
 ·obtain⟨q,rfl⟩:=Int.eq_ofNat_of_zero_le (show 0≤p by omega)
  have hq:q≤l.length:=by omega
  have hf:=UG 10 0 0 (l.drop q) rfl (by omega)
  rw [Gz l q hq (v:=(IJ 10 0 0 (l.drop q)).1) (n:=(IJ 10 0 0 (l.drop q)).2.1) (e:=(IJ 10 0 0 (l.drop q)).2.2) rfl]
  generalize IJ 10 0 0 (l.drop q)=r at*
  obtain⟨v,n,e⟩:=r
  simp only [List.length_drop] at hf⊢
  refine⟨hf.1,?_,?_,?_,?_⟩
  ·split<;>omega
  ·intro he;rw [if_neg he];exact⟨(hf.2.2.1 he).1,rfl⟩
  ·constructor
   ·intro he;omega
   ·intro he;omega
  ·omega
def folded (v:Int):Nat:=if v<0 then 2*(-(v+1)).toNat+1 else 2*v.toNat
theorem pJ (a:Nat) (h:a<18446744073709551616):bits .xor .u64 (a:Int) 0=(a:Int):=by
 have:=u64_xor_nat a 0 h (by omega)
 rw [show((0:Nat):Int)=0 from rfl] at this
 rw [this,Nat.xor_zero]
theorem pK (a b:Nat) (h:a<18446744073709551616) (hb:b=18446744073709551615):bits .xor .u64 (a:Int) (b:Int)=((18446744073709551615-a:Nat):Int):=by
 subst hb
 show IntKind.u64.wrap ((BitVec.ofInt 64 (a:Int)^^^BitVec.ofInt 64 ((18446744073709551615:Nat):Int)).toNat:Int)=_
 have e:BitVec.ofInt 64 ((18446744073709551615:Nat):Int)=BitVec.allOnes 64:=by decide+kernel
 have e2:(BitVec.ofInt 64 (a:Int)).toNat=a:=by
  rw [BitVec.ofInt_natCast,BitVec.toNat_ofNat];exact Nat.mod_eq_of_lt (by omega)
 rw [e,BitVec.xor_allOnes,BitVec.toNat_not,e2,IntKind.wrap_u64]
 omega
theorem dU (v:Int) (h0: -9223372036854775808≤v) (h1:v<9223372036854775808):
 bits .xor .u64 (IntKind.u64.wrap (IntKind.u64.wrap v*2)) (IntKind.u64.wrap (v/9223372036854775808))=(folded v:Int):=by
 unfold folded
 rw [IntKind.wrap_u64,IntKind.wrap_u64,IntKind.wrap_u64]
 by_cases hv:v<0
 ·rw [if_pos hv]
  have e1:(v%18446744073709551616*2)%18446744073709551616=((18446744073709551616-2*(-v).toNat:Nat):Int):=by omega
  have e2:v/9223372036854775808%18446744073709551616=((18446744073709551615:Nat):Int):=by omega
  rw [e1,e2,pK _ _ (by omega) rfl]
  omega
 ·rw [if_neg hv]
  have e1:(v%18446744073709551616*2)%18446744073709551616=((2*v.toNat:Nat):Int):=by omega
  have e2:v/9223372036854775808%18446744073709551616=0:=by omega
  rw [e1,e2,pJ _ (by omega)]
theorem Gq (v:Int) (h0: -9223372036854775808≤v) (h1:v<9223372036854775808):folded v<18446744073709551616:=by unfold folded;split<;>omega
theorem AZ {P:Program} {ops:Array Oper} {Q:Exit→Act→World→Prop} {md:Region.Mode} {S:World→Prop} {i:Nat} {oi:Oper} {v:Value} {fuel:Nat} {listed:Array Bool} {a:Act} {w:World} (hi:ops[i]?=some oi) (hq:(Region.noSelect ops&&Region.free md ops listed i&&(Region.ready md ops listed).contains i)=true) (hQ: ∀c a w,Q (.panic c) (a.put oi.dst v) w→Q (.panic c) a w) (hw:Region.wanted oi (yielded ops a.tmps)=true) (hy: ∀w,S w→(execOp a.eval oi).run P w= .ok (.value v) w) (hS:S w)
 (h:wpAnyH P md ops Q S fuel (listed.setIfInBounds i true) (a.put oi.dst v) w):wpAnyH P md ops Q S (fuel+1) listed a w:=by
 simp only [Bool.and_eq_true] at hq
 exact wpAnyH_take hi hq.1.1 hq.1.2 hq.2 hQ (.inl ⟨hw,hy⟩) hS h
theorem AA {p:Prop} (h:p):Hid p:=h
def AQ (w:World) (g:Nat) (t:TypeId) (xs:List Value):Prop:=w.heap[g]?=some (.cells xs.toArray t (0,0))
section
variable {w w':World} {g:Nat} {t:TypeId} {xs:List Value}
theorem AQ.lt (h:AQ w g t xs):g<w.heap.size:=(Array.getElem?_eq_some_iff.1 h).1
theorem AQ.cell (h:AQ w g t xs) (i:Nat):w.cell? ⟨g,i,none⟩=xs[i]?:=by
 unfold AQ at h
 simp [World.cell?,h]
theorem AQ.q (h:AQ w g t xs) (i:Nat) {v:Value} (e:xs[i]?=some v):w.cell? ⟨g,i,none⟩=some v:=(h.cell i).trans e
theorem AQ.frozen (h:AQ w g t xs) (i:Nat):w.frozen? ⟨g,i,none⟩=false:=by
 unfold AQ at h
 simp [World.frozen?,h]
theorem AQ.new (w:World) (t:TypeId) (xs:List Value):AQ (w.alloc (.cells xs.toArray t)) w.heap.size t xs:=heap_alloc_new w _
theorem AQ.set (h:AQ w g t xs) (i:Nat) (u:Value):AQ (w.setCell ⟨g,i,none⟩ u) g t (xs.set i u):=by
 unfold AQ at h⊢
 simp [World.setCell,Array.getElem?_modify,h]
theorem AQ.below {B:Nat} (h:AQ w g t xs) (hb:Below B w w') (hg:g<B):AQ w' g t xs:=(hb.block g hg).trans h
theorem AQ.drewN (h:AQ w g t xs) (k:Nat):AQ (w.drewN k) g t xs:=h
theorem AQ.alloc (h:AQ w g t xs) (o:Obj):AQ (w.alloc o) g t xs:=(Below.heap_alloc w o g h.lt).trans h
theorem AQ.far (h:AQ w g t xs) {p:Addr} (hp:g≠p.block) (u:Value):AQ (w.setCell p u) g t xs:=(Below.heap_setCell w p u g hp).trans h
theorem AQ.row (h:AQ w g t xs) (o n:Nat):Row w (g+1) (some ⟨g,o,none⟩) ((xs.drop o).take n):=by
 intro _
 refine⟨g,o,rfl,Nat.lt_succ_self g,fun j u hu=> ?_⟩
 rw [h.cell]
 rw [List.getElem?_take] at hu
 split at hu
 ·rw [List.getElem?_drop] at hu;exact hu
 ·cases hu
end
theorem Row.drewN {w:World} {B:Nat} {A:Option Addr} {xs:List Value} (h:Row w B A xs) (k:Nat):Row (w.drewN k) B A xs:=h
theorem Bp {P:Program} {f:FuncId} {args:Array Value} {w:World} {a x:Nat} {v:Value} (h:Calls P f args (w.drewN (a+x)) fun e w'=>w.drewN (a+x)=w'∧e= .returned v):
 Calls P f args (w.drewN (a+x)) fun e w''=>e= .returned v∧ ∃n,w''=w.drewN (a+n):=h.mono fun _ _ ⟨hw,he⟩=>⟨he,x,hw.symm⟩
theorem Bj {P:Program} {f:FuncId} {args:Array Value} {w:World} {x:Nat} {v:Value} (h:Calls P f args (w.drewN x) fun e w'=>w.drewN x=w'∧e= .returned v):
 Calls P f args (w.drewN x) fun e w''=>e= .returned v∧ ∃n,w''=w.drewN n:=h.mono fun _ _ ⟨hw,he⟩=>⟨he,x,hw.symm⟩
theorem CV {w w':World} (h:Below w.drew.heap.size w.drew w'):Below w.heap.size w w':=⟨h.os,h.tape,h.output,h.size,h.block⟩
theorem below_drewN {B:Nat} {a w:World} (h:Below B a w) (k:Nat):Below B a (w.drewN k):=⟨h.os,h.tape,h.output,h.size,h.block⟩
def Yt (z:Value) (n:Nat):Array Value:=(List.replicate n z).toArray
theorem Er {P:Program} (t e:TypeId) (i:TypeInfo) (z:Value) (bytes:Nat) (ht:P.underlying t=some (.slice e)) (hi:P.info? e=some i) (hz:i.zero=some z) (h1:z.cells= #[z]) (hs:i.size=1) (hb:i.bytes=bytes)
 (n:Int) (m:Nat) (hn:n=m) (hbytes:bytes*m≤281474976710656) (h63:m≤9223372036854775807) (w:World):
 (Instr.makeSlice t (.int .i64 n) (.int .i64 n)).run P w= .ok (.slice (some ⟨w.heap.size,0,none⟩) m m) (w.alloc (.cells (Yt z m) e)):=by
 subst hn
 have hb':(i.bytes:Int)*(m:Int)≤281474976710656:=by
  rw [hb]
  have h:((bytes*m:Nat):Int)≤281474976710656:=by omega
  rwa [Int.natCast_mul] at h
 have hr:=run_make (P:=P) w t e i z ht hi hz .i64 .i64 m m (by omega) (by omega) hb' (by omega)
 simp only [Int.toNat_natCast] at hr
 rw [hr,h1,hs,Nat.mul_one]
 congr 3
 have:=toList_madeCells_one z m
 rw [←Array.toList_inj,this]
 rfl
theorem EK {w w1:World} {t:TypeId} {cs:Array Value} (h:w.alloc (.cells cs t)=w1):Below w.heap.size w w1∧AQ w1 w.heap.size t cs.toList:=by
 have hb:=AQ.new w t cs.toList
 rw [show cs.toList.toArray=cs from by simp,h] at hb
 exact⟨by rw [←h];exact(Below.refl _ _).alloc (Nat.le_refl _) _,hb⟩
def Dw (w:World) (g:Nat) (s:ByteArray) (pos:Nat):Prop:=w.heap[g]?=some (.stringIter s pos)
def setIter (w:World) (g:Nat) (s:ByteArray) (pos:Nat):World:= {w with heap:=w.heap.setIfInBounds g (.stringIter s pos)}
theorem Dw.lt {w:World} {g:Nat} {s:ByteArray} {pos:Nat} (h:Dw w g s pos):g<w.heap.size:=(Array.getElem?_eq_some_iff.1 h).1
theorem Dw.new (w:World) (s:ByteArray) (pos:Nat):Dw (w.iter s pos) w.heap.size s pos:=World.iter_heap w s pos
theorem Dw.set {w:World} {g:Nat} {s:ByteArray} {pos:Nat} (h:Dw w g s pos) (pos':Nat):Dw (setIter w g s pos') g s pos':=by
 have:=h.lt
 simp [Dw,setIter,this]
theorem Dw.below {w w':World} {g B:Nat} {s:ByteArray} {pos:Nat} (h:Dw w g s pos) (hb:Below B w w') (hg:g<B):Dw w' g s pos:=(hb.block g hg).trans h
theorem FV {w:World} {g B:Nat} {s:ByteArray} (pos':Nat) (hB:B≤g):Below B w (setIter w g s pos'):=
 ⟨rfl,rfl,rfl,by simp [setIter],fun k hk=>by simp only [setIter];rw [Array.getElem?_setIfInBounds_ne (by omega)]⟩
theorem RN (w:World) (s:ByteArray) (pos:Nat):Below w.heap.size w (w.iter s pos):=(Below.refl _ _).alloc (Nat.le_refl _) _
theorem aO {P:Program} {w:World} {g:Nat} {s:ByteArray} {pos:Nat} (h:Dw w g s pos) (hlt:pos<s.size) (ty:TypeId):
 (Instr.next (.pointer (some ⟨g,0,none⟩)) true ty).run P w= .ok (.tuple #[.bool true,.int .i64 pos,.int .i32 (Utf8.decode s pos).1]) (setIter w g s (pos+(Utf8.decode s pos).2)):=by
 unfold Dw at h
 simp only [Instr.next,getObj,setObj,Sem.run_bind,Sem.run,h,Result.andThen,hlt,if_true]
 simp [goInt,setIter]
theorem W_ {P:Program} {w:World} {g:Nat} {s:ByteArray} {pos:Nat} (h:Dw w g s pos) (hge: ¬pos<s.size) (ty:TypeId):
 (Instr.next (.pointer (some ⟨g,0,none⟩)) true ty).run P w= .ok (.tuple #[.bool false]) w:=by
 unfold Dw at h
 simp [Instr.next,getObj,Sem.run,h,hge]
def OC (w:World) (g:Nat):Nat:=match w.heap[g]? with | some (.stringIter _ p)=>p | _=>0
theorem Dw.pos {w:World} {g:Nat} {s:ByteArray} {pos:Nat} (h:Dw w g s pos):OC w g=pos:=by
 unfold Dw at h
 simp [OC,h]
theorem byte_at (s:ByteArray) (k:Nat) (h:k<s.size):s[k]=s.data.toList[k]?.getD 0:=by
 have:k<s.data.toList.length:=by simpa using h
 rw [List.getElem?_eq_getElem this]
 rfl
theorem RO (s:ByteArray) (k:Nat) (h:k<s.size) (hc:(s.data.toList[k]?.getD 0).toNat<128):Utf8.decode s k=((s.data.toList[k]?.getD 0).toNat,1):=by
 rw [←byte_at s k h] at hc⊢
 exact decode_ascii s k h hc
theorem UH (s:ByteArray) (k:Nat) (h:k<s.size) (hc: ¬(s.data.toList[k]?.getD 0).toNat<128):128≤(Utf8.decode s k).1∧1≤(Utf8.decode s k).2:=by
 rw [←byte_at s k h] at hc
 exact decode_high s k h (by omega)
def MQ (c:Nat):Bool:=c==119||c==108
def TT (c:UInt8):Bool:=MQ c.toNat
def FW (gd:Nat→UInt8→Bool):Nat→List UInt8→Bool
 | _,[]=>true
 | i,c::r=>TT c&&(gd i c&&FW gd (i+1) r)
theorem KZ (gd:Nat→UInt8→Bool) (i:Nat) (c:UInt8) (r:List UInt8):FW gd i (c::r)=(TT c&&(gd i c&&FW gd (i+1) r)):=rfl
theorem iy (c:Nat) (h: ¬c<128):MQ c=false:=by
 unfold MQ
 simp
 omega
def Mx (m:Nat) (l:List UInt8):Bool:=decide (l.length≤m)&&l.all TT
theorem RP: ∀(i:Nat) (l:List UInt8),FW (fun _ _=>true) i l=l.all TT
 | _,[]=>rfl
 | i,c::r=>by rw [KZ,RP (i+1) r];simp
def Du (v c:Nat):Bool:=c==108||(c==119&&decide (v<4294967296))
def RQ (v:Nat) (c:UInt8):Bool:=Du v c.toNat
def EN:List Nat→List UInt8→Bool
 | [],[]=>true
 | v::vs,c::cs=>RQ v c&&EN vs cs
 | _,_=>false
theorem Yu (v:Nat) (c:UInt8) (h:RQ v c=true):TT c=true:=by
 unfold RQ Du at h
 unfold TT MQ
 simp at h⊢
 omega
theorem UJ (jA:List Nat): ∀(k:Nat) (l:List UInt8),jA.length=k+l.length→FW (fun i c=>RQ (jA[i]?.getD 0) c) k l=EN (jA.drop k) l
 | k,[],h=>by
  rw [List.drop_of_length_le (by simp at h;omega)]
  rfl
 | k,c::r,h=>by
  have hk:k<jA.length:=by simp at h;omega
  rw [KZ,UJ jA (k+1) r (by simp at h;omega),List.drop_eq_getElem_cons hk,List.getElem?_eq_getElem hk]
  show(TT c&&(RQ jA[k] c&&EN (jA.drop (k+1)) r))=(RQ jA[k] c&&EN (jA.drop (k+1)) r)
  cases hf:RQ jA[k] c with
  | false=>simp
  | true=>rw [Yu _ _ hf];simp
theorem LX: ∀(vs:List Nat) (l:List UInt8),EN vs l=true→vs.length=l.length
 | [],[],_=>rfl
 | v::vs,c::cs,h=>by
  simp only [EN,Bool.and_eq_true] at h
  simp [LX vs cs h.2]
 | [],c::cs,h=>by simp [EN] at h
 | v::vs,[],h=>by simp [EN] at h
theorem aP (vs:List Nat) (l:List UInt8) (h:vs.length≠l.length):EN vs l=false:=by
 cases hb:EN vs l with
 | false=>rfl
 | true=>exact absurd (LX vs l hb) h
def uv (v:Nat):Go.Value:= .int .u64 (v:Int)
theorem Row.word {w:Go.World} {B:Nat} {A:Option Go.Addr} {l:List Nat} (h:Row w B A (l.map uv)) {j:Nat} (hj:j<l.length):
 ∃b o,A=some ⟨b,o,none⟩∧b<B∧w.cell? ⟨b,o+j,none⟩=some (.int .u64 ((l[j]?.getD 0:Nat):Int)):=by
 refine h.at ?_
 rw [List.getElem?_map,List.getElem?_eq_getElem hj]
 rfl
theorem JY (w:World) (cs:List Value) (e:TypeId):Row (w.alloc (.cells cs.toArray e)) (w.heap.size+1) (some ⟨w.heap.size,0,none⟩) cs:=by
 have:=(AQ.new w e cs).row 0 cs.length
 simpa using this
theorem CZ {w:World} {base:Nat} {e:TypeId} {v:Value} {n:Nat} {xs:List Value} (h:w.ownsRow base e 1 v n xs): ∃A c,v= .slice A n c:=by
 rcases h.2 with⟨rfl,rfl⟩ | ⟨g,cap,cur,rfl,_⟩
 ·exact⟨_,_,rfl⟩
 ·exact⟨_,_,rfl⟩
theorem aS {w:World} {base:Nat} {e:TypeId} {A:Option Addr} {n m c:Nat} {xs:List Value} (h:w.ownsRow base e 1 (.slice A n c) m xs):n=m∧n≤c:=by
 rcases h.2 with⟨hv,rfl⟩ | ⟨g,cap,cur,hv,_,_,hc,_⟩
 ·injection hv with h1 h2 h3;omega
 ·injection hv with h1 h2 h3;omega
theorem own_below {w w':World} {base:Nat} {e:TypeId} {v:Value} {n:Nat} {xs:List Value} (h:w.ownsRow base e 1 v n xs) (hg:w.grownBy w' v.ownBlock) (hB:base≤w.heap.size):Below base w w':=
 (Below.refl base w).grown hg hB fun k hk=>(h.lt k hk).1
theorem jG {P:Program} (w:World) (base:Nat) (t ty e:TypeId) (i:TypeInfo) (ht:P.underlying t=some (.slice e)) (hi:P.info? e=some i)
 (v:Value) (n:Nat) (xs:List Value) (hown:w.ownsRow base e 1 v n xs) (c:Nat):(Builtin.append_ #[t,t] ty #[v,.slice none 0 c]).run P w= .ok v w:=by
 rcases hown.2 with⟨rfl,rfl⟩ | ⟨g,cap,cur,rfl,_,_,hnc,_⟩
 ·simp [Builtin.append_,run_underlying ht,sizeOf,typeInfo,hi,Builtin.lenOf,Builtin.firstCells]
 ·simp [Builtin.append_,run_underlying ht,sizeOf,typeInfo,hi,Builtin.lenOf,Builtin.firstCells,hnc,storeCells]
theorem pF {P:Program} (w:World) (base:Nat) (t ty e:TypeId) (i:TypeInfo) (z:Value) (bytes:Nat) (ht:P.underlying t=some (.slice e)) (hi:P.info? e=some i) (hz:i.zero=some z)
 (hsize:i.size=1) (hby:i.bytes=bytes) (hzs:z.cells.size=1)
 (v:Value) (n:Nat) (xs:List Value) (hown:w.ownsRow base e 1 v n xs)
 (B:Nat) (A:Option Addr) (m c:Nat) (news:List Value) (hm:m=news.length) (hr:Row w B A news) (h1: ∀u∈news,u.oneCell'=true)
 (h63:n+m≤maxLen) (hbytes:(n+m)*bytes≤140737488355328) (hbase:base≤w.heap.size):
 ∃v' w',(Builtin.append_ #[t,t] ty #[v,.slice A m c]).run P w= .ok v' w'∧w'.ownsRow base e 1 v' (n+m) (xs++news)∧w.grownBy w' v.ownBlock∧
  (v'.ownBlock=v.ownBlock∨v'.ownBlock=some w.heap.size):=by
 rcases A with _ | ad
 ·have hnil:news= []:=by
   rcases Nat.eq_zero_or_pos news.length with h0 | h0
   ·exact List.eq_nil_of_length_eq_zero h0
   ·obtain⟨_,_,h',_⟩:=hr h0
    cases h'
  subst hnil
  simp only [List.length_nil] at hm
  subst hm
  exact⟨v,w,jG w base t ty e i ht hi v n xs hown c,by simpa using hown,World.grownBy.refl w _,.inl rfl⟩
 ·obtain⟨v',w',hrun,h2,h3,_,h5⟩:=run_append_own_at (P:=P) w base t ty e i z 1 bytes ht hi hz hsize hby hzs (by omega) v n xs hown ad m c news (by omega) (fun j u hu=>by
   have hj:=(List.getElem?_eq_some_iff.1 hu).1
   obtain⟨b,o,h',_,hc⟩:=hr (by omega)
   injection h' with h'
   subst h'
   rw [Addr.add_lit]
   exact hc j u hu) h1 h63 hbytes hbase
  exact⟨v',w',hrun,h2,h3,h5⟩
theorem D_ {P:Program} (w:World) {ops:Array Oper} {rest:List Oper} {o:Oper} {a:Act} {Q:Exit→Act→World→Prop} (hgd:o.guard=none) (s x:Operand) (t:TypeId)
 (ho:o.op= .call {callee:= .builtin .append,args:= #[s,x],argTypes:= #[t,t]})
 (base:Nat) (e:TypeId) (i:TypeInfo) (z:Value) (bytes:Nat) (ht:P.underlying t=some (.slice e)) (hi:P.info? e=some i) (hz:i.zero=some z)
 (hsize:i.size=1) (hby:i.bytes=bytes) (hzs:z.cells.size=1)
 (v:Value) (n:Nat) (xs:List Value) (hs:a.eval s=v) (hown:w.ownsRow base e 1 v n xs)
 (B:Nat) (A:Option Addr) (m c:Nat) (news:List Value) (hx:a.eval x= .slice A m c) (hm:m=news.length) (hr:Row w B A news) (h1: ∀u∈news,u.oneCell'=true)
 (h63:n+m≤maxLen) (hbytes:(n+m)*bytes≤140737488355328) (hbase:base≤w.heap.size)
 (h: ∀A' c' w',w'.ownsRow base e 1 (.slice A' (n+m) c') (n+m) (xs++news)→w.grownBy w' v.ownBlock→((Value.slice A' (n+m) c').ownBlock=v.ownBlock∨(Value.slice A' (n+m) c').ownBlock=some w.heap.size)→wpList P ops Q rest (a.put o.dst (.slice A' (n+m) c')) w'):wpList P ops Q (o::rest) a w:=by
 refine wpList_plain hgd fun _ hK=> ?_
 obtain⟨v',w',hrun,h2,h3,h4⟩:=pF (P:=P) w base t o.type e i z bytes ht hi hz hsize hby hzs v n xs hown B A m c news hm hr h1 h63 hbytes hbase
 obtain⟨A',c',rfl⟩:=CZ h2
 unfold Oper.wp execOp
 simp only [ho,resolve,invoke,builtin,Sem.run_bind,Sem.run_pure,Result.andThen_ok,List.map_toArray,List.map_cons,List.map_nil,hs,hx,hrun]
 exact hK _ _ (h A' c' w' h2 h3 h4)
theorem row_one (w:World) (x:Value) (t:TypeId):Row (w.alloc (.cells #[x] t)) (w.heap.size+1) (some ⟨w.heap.size,0,none⟩) [x]:=by
 intro _
 refine⟨w.heap.size,0,rfl,Nat.lt_succ_self _,fun j u hu=> ?_⟩
 have:=cell_one_new w x t j u hu
 rwa [Addr.add_lit] at this
theorem Eh (l:List UInt8): ∀u∈l.map bv,u.oneCell'=true:=by
 intro u hu
 obtain⟨_,_,rfl⟩:=List.mem_map.1 hu
 rfl
def enc (v:Nat):List UInt8:=if v<128 then [UInt8.ofNat v] else UInt8.ofNat (v%128+128)::enc (v/128)
 termination_by v
theorem FB (v:Nat) (h:v<128):enc v= [UInt8.ofNat v]:=by rw [enc,if_pos h]
theorem MW (v:Nat) (h: ¬v<128):enc v=UInt8.ofNat (v%128+128)::enc (v/128):=by rw [enc,if_neg h]
theorem aT: ∀(n v:Nat),v<128^(n+1)→(enc v).length≤n+1
 | 0,v,h=>by rw [FB v (by omega)];simp
 | n+1,v,h=>by
  by_cases h1:v<128
  ·rw [FB v h1];simp
  ·rw [MW v h1]
   have:=aT n (v/128) (by rw [Nat.div_lt_iff_lt_mul (by omega)];rw [Nat.pow_succ] at h;exact h)
   simp;omega
theorem AY (v:Nat) (h:v<18446744073709551616):(enc v).length≤10:=aT 9 v (Nat.lt_of_lt_of_le h (by decide))
theorem FC (v:Nat):0<(enc v).length:=by
 by_cases h1:v<128
 ·rw [FB v h1];simp
 ·rw [MW v h1];simp
theorem ABp (c:Nat) (h:c<256):bits .or .u8 (c:Int) 128=((c%128+128:Nat):Int):=by
 have:=u8_or_nat c 128 h (by omega)
 rw [show((128:Nat):Int)=128 from rfl] at this
 rw [this]
 congr 1
 have: ∀c:Fin 256,c.val||| 128=c.val%128+128:=by decide+kernel
 exact this ⟨c,h⟩
theorem F4 (x:Nat) (h:x<256):bv (UInt8.ofNat x)= .int .u8 (x:Int):=by
 unfold bv
 rw [UInt8.toNat_ofNat_of_lt' (by simpa using h)]
def xV (l l':List Nat) (w:World) (n:Nat) (i:Value) (wr:World):Prop:=
 ∃k m:Nat,k≤n∧i= .int .i64 k∧wr=w.drewN m∧l.take k=l'.take k
theorem jR (A A':Option Addr) (n n' c c' B B':Nat) (w:World) (l l':List Nat) (hn:n=l.length) (hn':n'=l'.length) (h47:n≤140737488351232) (hr:Row w B A (l.map uv)) (hr':Row w B' A' (l'.map uv)):
 Calls prog 44 #[.slice A n c,.slice A' n' c'] w fun e w'=>(∃k,w'=w.drewN k)∧e= .returned (.bool (decide (l=l'))):=by
 by_cases hnn:n=n'
 ·subst hnn
  have Hr:=AA hr;clear hr
  have Hn:=AA hn;clear hn
  have Hr':=AA hr';clear hr'
  have dZ:=AA hn';clear hn'
  go_enter func44,ntmps44
  go_wp2
  go_loopw [5] (fun i wr=>xV l l' w n i wr) (fun i _=>n-(intOf i).toNat)
  case atStart=>exact⟨0,0,by omega,rfl,rfl,rfl⟩
  case round=>
   obtain⟨k,m,hk,rfl,rfl,hR⟩:=hrel
   have HR:=AA hR;clear hR
   by_cases hlt:k<n
   ·obtain⟨b,o,rfl,_,hcell⟩:=Hr.out.word (j:=k) (by rw [←Hn.out];exact hlt)
    obtain⟨b',o',rfl,_,hcell'⟩:=Hr'.out.word (j:=k) (by rw [←dZ.out];exact hlt)
    have hi:(0:Int)≤k:=by omega
    have hlk:l[k]?=some (l[k]?.getD 0):=by rw [List.getElem?_eq_getElem (by rw [←Hn.out];exact hlt)];rfl
    have jQ:l'[k]?=some (l'[k]?.getD 0):=by rw [List.getElem?_eq_getElem (by rw [←dZ.out];exact hlt)];rfl
    have xU:=AA hlk;clear hlk
    have Y9:=AA jQ;clear jQ
    by_cases hq:l[k]?.getD 0=l'[k]?.getD 0
    ·have HT:Hid (l.take (k+1)=l'.take (k+1)):=by
      have h1:=xU.out
      rw [hq,←Y9.out] at h1
      refine AA ?_
      rw [List.take_add_one,List.take_add_one,HR.out,h1]
     rw [hq] at hcell
     clear hq xU Y9
     generalize l'[k]?.getD 0=x at*
     have hne:(x !=x)=false:=by simp
     go_wp2
     go_quiet (fail)
     go_wp2
     exact⟨⟨k+1,m+nq,by omega,by go_num,rfl,HT.out⟩,by simp [intOf];omega⟩
    ·have hF:Hid (decide (l=l')=false):=by
      refine AA (decide_eq_false fun h=>hq ?_)
      rw [h]
     have hq':l[k]?.getD 0≠l'[k]?.getD 0:=hq
     clear hq xU Y9
     generalize l'[k]?.getD 0=x at*
     generalize l[k]?.getD 0=y at*
     have hne:(y !=x)=true:=by simp;omega
     clear hq'
     go_wp2
     go_quiet (fail)
     go_wp2
     go_ret
     exact⟨⟨m+nq,World.drewN_drewN _ _ _⟩,by rw [hF.out];rfl⟩
   ·obtain rfl:k=n:=by omega
    have hT:Hid (decide (l=l')=true):=by
     have:=HR.out
     rw [List.take_of_length_le (by rw [Hn.out];exact Nat.le_refl _),List.take_of_length_le (by rw [dZ.out];exact Nat.le_refl _)] at this
     exact AA (decide_eq_true this)
    go_wp2
    go_ret
    exact⟨⟨_,rfl⟩,by rw [hT.out];rfl⟩
 ·have hF:Hid (decide (l=l')=false):=AA (decide_eq_false fun h=>hnn (by rw [hn,hn',h]))
  have hne:((n:Int) !=n')=true:=by simp;omega
  clear hr hr' hn hn'
  go_enter func44,ntmps44
  go_wp2
  go_ret
  exact⟨⟨0,rfl⟩,by rw [hF.out];rfl⟩
theorem Ko (c:Nat) (hc:c<256) (w:World):Calls prog 150 #[.int .u8 c] w fun e w'=>w=w'∧e= .returned (.bool (MQ c)):=by
 by_cases h1:c=119
 ·subst h1
  go_enter func150,ntmps150
  go_wp2
  go_ret
  exact⟨rfl,rfl⟩
 ·have h1':((c:Int)==119)=false:=by simp;omega
  by_cases h2:c=108
  ·subst h2
   go_enter func150,ntmps150
   go_wp2
   go_ret
   exact⟨rfl,rfl⟩
  ·have h2':((c:Int)==108)=false:=by simp;omega
   have HF:=AA (show MQ c=false by simp [MQ,h1,h2])
   clear h1 h2
   go_enter func150,ntmps150
   go_wp2
   go_ret
   exact⟨rfl,by rw [HF.out];rfl⟩
def Rp (s:ByteArray) (gd:Nat→UInt8→Bool) (w:World) (wr:World):Prop:=
 ∃k:Nat,Dw wr w.heap.size s k∧Below w.heap.size w wr∧FW gd k (s.data.toList.drop k)=FW gd 0 s.data.toList
theorem VW (s:ByteArray) (h47:s.size≤140737488351232) (caps:List Value) (w:World) (gd:Nat→UInt8→Bool)
 (hg: ∀(i:Nat) (W:World),i<s.size→TT (s.data.toList[i]?.getD 0)=true→Below w.heap.size w W→Calls prog 201 (Value.int .i64 i::Value.int .u8 ((s.data.toList[i]?.getD 0).toNat:Int)::caps).toArray W fun e w'=>W=w'∧e= .returned (.bool (gd i (s.data.toList[i]?.getD 0)))):
 Calls prog 122 #[.string s,.func (.func 201) #[] caps.toArray] w fun e w'=>Below w.heap.size w w'∧e= .returned (.bool (FW gd 0 s.data.toList)):=by
 have Hg:=AA hg;clear hg
 go_enter func122,ntmps122
 go_wp2_with fail
 go_loopw [] (fun wr=>Rp s gd w wr) (fun wr=>s.size-OC wr w.heap.size)
 case atStart=>exact⟨0,Dw.new w s 0,RN w s 0,rfl⟩
 case round=>
  obtain⟨k,hit,hbel,hR⟩:=hrel
  have pY:=AA hit;clear hit
  have CP:=AA hbel;clear hbel
  have HR:=AA hR;clear hR
  by_cases hlt:k<s.size
  ·have hdrop:=drop_at s.data.toList k (by simpa using hlt)
   have Hd:=AA hdrop;clear hdrop
   have hnx:=fun ty=>aO (P:=prog) pY.out hlt ty
   by_cases hlow:(s.data.toList[k]?.getD 0).toNat<128
   ·rw [RO s k hlt hlow] at hnx
    have XM:=AA (Hg.out k)
    have vN:(s.data.toList[k]?.getD 0).toNat<256:=by omega
    have HE:Hid (TT (s.data.toList[k]?.getD 0)=MQ (s.data.toList[k]?.getD 0).toNat):=AA rfl
    generalize s.data.toList[k]?.getD 0=c8 at*
    generalize c8.toNat=c at*
    have HL:=AA (Ko c (by omega) (setIter wr w.heap.size s (k+1)))
    have KA:Hid (Below w.heap.size w (setIter wr w.heap.size s (k+1))):=AA (CP.out.trans (FV _ (Nat.le_refl _)))
    have jO:=AA (pY.out.set (k+1))
    have HR2:Hid ((MQ c&&(gd k c8&&FW gd (k+1) (s.data.toList.drop (k+1))))=FW gd 0 s.data.toList):=AA (by rw [←HR.out,Hd.out,←HE.out];rfl)
    have HG:Hid (MQ c=true→_):=AA (fun h=>XM.out (setIter wr w.heap.size s (k+1)) hlt (by rw [HE.out,h]) KA.out)
    clear XM HE Hd HR
    cases hb:MQ c with
    | false=>
     rw [hb] at HL HR2
     clear HG hb
     go_wp2_with (go_at_call 150;refine HL.out.mono ?_;rintro e w' ⟨rfl,rfl⟩)
     go_ret
     exact⟨KA.out,by rw [←HR2.out];rfl⟩
    | true=>
     have HG2:=AA (HG.out hb)
     rw [hb] at HL HR2
     clear HG hb
     cases hgd:gd k c8 with
     | false=>
      rw [hgd] at HG2 HR2
      clear hgd
      go_wp2_with (first | (go_at_call 150;refine HL.out.mono ?_;rintro e w' ⟨rfl,rfl⟩) | (go_at_call 201;refine HG2.out.mono ?_;rintro e w' ⟨rfl,rfl⟩))
      go_ret
      exact⟨KA.out,by rw [←HR2.out];rfl⟩
     | true=>
      rw [hgd] at HG2 HR2
      clear hgd
      go_wp2_with (first | (go_at_call 150;refine HL.out.mono ?_;rintro e w' ⟨rfl,rfl⟩) | (go_at_call 201;refine HG2.out.mono ?_;rintro e w' ⟨rfl,rfl⟩))
      exact⟨⟨k+1,jO.out,KA.out,HR2.out⟩,by rw [pY.out.pos,jO.out.pos];omega⟩
   ·have hhi:=UH s k hlt hlow
    have HF:Hid (FW gd 0 s.data.toList=false):=AA (by
     rw [←HR.out,Hd.out]
     have h0:TT (s.data.toList[k]?.getD 0)=false:=iy _ hlow
     rw [KZ,h0]
     rfl)
    have hle:=decode_le s k
    generalize Utf8.decode s k=d at*
    obtain⟨r,wd⟩:=d
    simp only at hhi hle hnx
    have KA:Hid (Below w.heap.size w (setIter wr w.heap.size s (k+wd))):=AA (CP.out.trans (FV _ (Nat.le_refl _)))
    clear Hd hlow
    go_wp2_with fail
    go_ret
    exact⟨KA.out,by rw [HF.out];rfl⟩
  ·have hnx:=fun ty=>W_ (P:=prog) pY.out hlt ty
   have HT:Hid (FW gd 0 s.data.toList=true):=AA (by rw [←HR.out,List.drop_of_length_le (by simp;omega)];rfl)
   go_wp2_with fail
   go_ret
   exact⟨CP.out,by rw [HT.out];rfl⟩
section
open Go.ChangeShapes Go.WideShapes Go.RowKit
section
variable {H:Type} {enc:TypeId×Value→H} {P:Program} {w:World} {base:Nat} {spare:Nat→Bool} {held:Bool}
theorem xL {n:Int} (h:(Lit.int .i64 n).wf=true): -9223372036854775808≤n∧n<9223372036854775808:=by
 simp only [Lit.wf,Bool.and_eq_true,decide_eq_true_eq] at h
 have hmin:IntKind.i64.min= -9223372036854775808:=rfl
 have hmax:IntKind.i64.max=9223372036854775807:=rfl
 omega
theorem jB {n:Int} (h:(Lit.int .u64 n).wf=true):0≤n∧n<18446744073709551616:=by
 simp only [Lit.wf,Bool.and_eq_true,decide_eq_true_eq] at h
 have hmin:IntKind.u64.min=0:=rfl
 have hmax:IntKind.u64.max=18446744073709551615:=rfl
 omega
theorem ABj {n:Int} (h:(Lit.int .u8 n).wf=true):0≤n∧n<256:=by
 simp only [Lit.wf,Bool.and_eq_true,decide_eq_true_eq] at h
 have hmin:IntKind.u8.min=0:=rfl
 have hmax:IntKind.u8.max=255:=rfl
 omega
end
end
section
structure Rd (α:Type) where
 z:Nat
 R:World→Nat→Nat→List Value→α→Prop
 len: ∀ {W:World} {lo hi:Nat} {cs:List Value} {x:α},R W lo hi cs x→cs.length=z
 keep: ∀ {W W':World} {lo hi:Nat} {cs:List Value} {x:α},(∀p:Addr,lo≤p.block→p.block<hi→W'.cell? p=W.cell? p)→R W lo hi cs x→R W' lo hi cs x
 more: ∀ {W:World} {lo hi lo' hi':Nat} {cs:List Value} {x:α},lo'≤lo→hi≤hi'→R W lo hi cs x→R W lo' hi' cs x
namespace Rd
variable {α β γ:Type}
def at_ (r:Rd α) (W:World) (lo hi b o:Nat) (x:α):Prop:= ∃cs,(∀(j:Nat) u,cs[j]?=some u→W.cell? ⟨b,o+j,none⟩=some u)∧r.R W lo hi cs x
theorem at_.keep {r:Rd α} {W W':World} {lo hi b o:Nat} {x:α} (hb:lo≤b∧b<hi) (hk: ∀p:Addr,lo≤p.block→p.block<hi→W'.cell? p=W.cell? p) (h:r.at_ W lo hi b o x):r.at_ W' lo hi b o x:=by
 obtain⟨cs,hc,hr⟩:=h
 exact⟨cs,fun j u hu=>(hk _ hb.1 hb.2).trans (hc j u hu),r.keep hk hr⟩
theorem at_.more {r:Rd α} {W:World} {lo hi lo' hi' b o:Nat} {x:α} (h1:lo'≤lo) (h2:hi≤hi') (h:r.at_ W lo hi b o x):r.at_ W lo' hi' b o x:=by
 obtain⟨cs,hc,hr⟩:=h
 exact⟨cs,hc,r.more h1 h2 hr⟩
def one (f:α→Value) (ok:α→Prop):Rd α where
 z:=1
 R _ _ _ cs x:=cs= [f x]∧ok x
 len h:=by rw [h.1];rfl
 keep _ h:=h
 more _ _ h:=h
def Yv (n:Nat):Prop:=n<18446744073709551616
def Gd (n:Int):Prop:= -9223372036854775808≤n∧n<9223372036854775808
def B8 (n:Int):Prop:= -128≤n∧n<128
def PD (s:ByteArray):Prop:=s.size≤140737488351232
def u64:Rd Nat:=one uv Yv
def i64:Rd Int:=one (Value.int .i64) Gd
def i8:Rd Int:=one (Value.int .i8) B8
def u8:Rd UInt8:=one bv fun _=>True
def bool:Rd Bool:=one Value.bool fun _=>True
def str:Rd ByteArray:=one Value.string PD
def sl (sp:Bool) (r:Rd α):Rd (List α) where
 z:=1
 R W lo hi cs xs:= ∃A c,cs= [.slice A xs.length c]∧((sp=true→ ∀a,A=some a→a.spot=none)∧xs.length≤c)∧(0<xs.length→ ∃b o,A=some ⟨b,o,none⟩∧lo≤b∧b<hi∧ ∀(k:Nat) x,xs[k]?=some x→r.at_ W lo hi b (o+k*r.z) x)
 len h:=by obtain⟨A,c,rfl,_⟩:=h;rfl
 keep hk h:=by
  obtain⟨A,c,rfl,hs,h⟩:=h
  refine⟨A,c,rfl,hs,fun hn=> ?_⟩
  obtain⟨b,o,e,h1,h2,hx⟩:=h hn
  exact⟨b,o,e,h1,h2,fun k x hkx=>(hx k x hkx).keep ⟨h1,h2⟩ hk⟩
 more h1 h2 h:=by
  obtain⟨A,c,rfl,hs,h⟩:=h
  refine⟨A,c,rfl,hs,fun hn=> ?_⟩
  obtain⟨b,o,e,h3,h4,hx⟩:=h hn
  exact⟨b,o,e,by omega,by omega,fun k x hkx=>(hx k x hkx).more h1 h2⟩
def pair (r:Rd α) (s:Rd β):Rd (α×β) where
 z:=r.z+s.z
 R W lo hi cs x:= ∃c1 c2,cs=c1++c2∧r.R W lo hi c1 x.1∧s.R W lo hi c2 x.2
 len h:=by obtain⟨c1,c2,rfl,h1,h2⟩:=h;rw [List.length_append,r.len h1,s.len h2]
 keep hk h:=by obtain⟨c1,c2,e,h1,h2⟩:=h;exact⟨c1,c2,e,r.keep hk h1,s.keep hk h2⟩
 more h1 h2 h:=by obtain⟨c1,c2,e,h3,h4⟩:=h;exact⟨c1,c2,e,r.more h1 h2 h3,s.more h1 h2 h4⟩
def unit:Rd Unit where
 z:=0
 R _ _ _ cs _:=cs= []
 len h:=by rw [h];rfl
 keep _ h:=h
 more _ _ h:=h
def via (r:Rd α) (f:β→α):Rd β where
 z:=r.z
 R W lo hi cs x:=r.R W lo hi cs (f x)
 len h:=r.len h
 keep hk h:=r.keep hk h
 more h1 h2 h:=r.more h1 h2 h
variable {r:Rd α} {W W':World} {lo hi:Nat} {cs:List Value} {x:α}
theorem below (h:r.R W lo hi cs x) {B:Nat} (hb:Below B W W') (hB:hi≤B):r.R W' lo hi cs x:=
 r.keep (fun p _ h2=>hb.cell (Nat.lt_of_lt_of_le h2 hB)) h
theorem grown (h:r.R W lo hi cs x) {row:Option Nat} (hg:W.grownBy W' row) (hB:hi≤W.heap.size) (hr: ∀k,row=some k→k<lo∨hi≤k):r.R W' lo hi cs x:=
 r.keep (fun p h1 h2=>by
  have hb:=hg.block p.block (by omega) (fun e=>by have:=hr _ e.symm;omega)
  simp [World.cell?,hb]) h
theorem Gj {sp:Bool} {f:α→Value} {ok:α→Prop} {A:Option Addr} {n c:Nat} {xs:List α} (h:(sl sp (one f ok)).R W lo hi [.slice A n c] xs):n=xs.length∧Row W hi A (xs.map f):=by
 obtain⟨A',c',he,_,h⟩:=h
 injection he with he _
 injection he with h1 h2 h3
 subst h1 h2
 refine⟨rfl,fun hn=> ?_⟩
 rw [List.length_map] at hn
 obtain⟨b,o,e,_,hlt,hx⟩:=h hn
 refine⟨b,o,e,hlt,fun j u hu=> ?_⟩
 rw [List.getElem?_map] at hu
 cases hxj:xs[j]? with
 | none=>rw [hxj] at hu;cases hu
 | some y=>
  rw [hxj] at hu
  obtain⟨cs,hc,hcs,_⟩:=hx j y hxj
  subst hcs
  have:=hc 0 (f y) rfl
  rw [show(one f ok).z=1 from rfl,Nat.mul_one,Nat.add_zero] at this
  rw [this]
  simpa using hu
theorem M8 {sp:Bool} {f:α→Value} {ok:α→Prop} {A:Option Addr} {n c:Nat} {xs:List α} (h:(sl sp (one f ok)).R W lo hi [.slice A n c] xs): ∀x∈xs,ok x:=by
 obtain⟨A',c',he,_,h⟩:=h
 intro x hx
 obtain⟨k,hk,rfl⟩:=List.getElem_of_mem hx
 obtain⟨b,o,e,_,hlt,hx⟩:=h (by omega)
 obtain⟨cs,hc,hcs,hok⟩:=hx k _ (List.getElem?_eq_getElem hk)
 exact hok
end Rd
theorem Row.jC {W:World} {base:Nat} {e:TypeId} {A:Option Addr} {n c m size:Nat} {xs:List Value} (h:W.ownsRow base e size (.slice A n c) m xs): ∀a,A=some a→a.spot=none:=by
 rintro a rfl
 rcases h.2 with⟨hv,_⟩ | ⟨g,cap,cur,hv,_⟩
 ·injection hv with h1;cases h1
 ·injection hv with h1;injection h1 with h1;rw [h1]
theorem Row.few {W:World} {base:Nat} {e:TypeId} {A:Option Addr} {n c size:Nat} {xs:List Value} (h:W.ownsRow base e size (.slice A n c) n xs):n≤c:=by
 rcases h.2 with⟨hv,h0⟩ | ⟨g,cap,cur,hv,_,_,hle,_⟩
 ·injection hv with h1 h2 h3;omega
 ·injection hv with h1 h2 h3;omega
theorem Rd.own {α:Type} (sp:Bool) {r:Rd α} {W:World} {base:Nat} {e:TypeId} {A:Option Addr} {n c:Nat} {vs:List Value} {xs:List α} (h:W.ownsRow base e r.z (.slice A n c) n vs) (hn:n=xs.length)
 (hx: ∀(k:Nat) x,xs[k]?=some x→r.R W base W.heap.size ((vs.drop (k*r.z)).take r.z) x):(r.sl sp).R W base W.heap.size [.slice A n c] xs:=by
 subst hn
 refine⟨A,c,rfl,⟨fun _=>Row.jC h,Row.few h⟩,fun hn=> ?_⟩
 rcases h.2 with⟨_,h0⟩ | ⟨g,cap,cur,hv,hb,hg,_⟩
 ·omega
 ·have hA:A=some ⟨g,0,none⟩:=by injection hv
  subst hA
  refine⟨g,0,rfl,hb,(Array.getElem?_eq_some_iff.1 hg).1,fun k x hk=>⟨_,fun j u hu=> ?_,hx k x hk⟩⟩
  rw [List.getElem?_take] at hu
  split at hu
  ·rw [List.getElem?_drop] at hu
   have:=h.cells (g:=g) rfl (k*r.z+j) u hu
   rw [Addr.add_lit] at this
   simpa [Nat.add_assoc] using this
  ·cases hu
section
variable {α β:Type}
def Opens (P:Program) (t:TypeId) (r:Rd α) (ok:α→Prop):Prop:=P.cellsOf t=r.z∧
 ∀ {H:Type} {enc:TypeId×Value→H} {W:World} {base:Nat} {spare:Nat→Bool} {held:Bool} {n:Nat} {cs:List Value} {x:DataW H×List MemPlace},
  DataW.trod enc P W base spare held n t cs=some x→(∀m∈x.1.weights P t,m≤140737488351232)→ ∃y,r.R W 0 W.heap.size cs y∧ok y
theorem PL {P:Program} {t:TypeId} {k:IntKind} (ht:P.underlying t=some (.int k)) (hc:P.cellsOf t=1) {f:α→Value} {ok:α→Prop} (hf: ∀n:Int,(Lit.int k n).wf=true→ ∃x,f x= .int k n∧ok x):Opens P t (Rd.one f ok) ok:=by
 refine⟨hc,fun h _=> ?_⟩
 obtain⟨n,rfl,_,hw⟩:=DataW.trod_int ht h
 obtain⟨x,hx,hok⟩:=hf n hw
 exact⟨x,⟨by rw [hx],hok⟩,hok⟩
theorem dN {P:Program} {t:TypeId} (ht:P.underlying t=some (.int .u64)) (hc:P.cellsOf t=1):Opens P t Rd.u64 Rd.Yv:=
 PL ht hc fun n hn=>⟨n.toNat,by have:=jB hn;unfold uv;rw [Int.toNat_of_nonneg this.1],by have:=jB hn;unfold Rd.Yv;omega⟩
theorem UK {P:Program} {t:TypeId} (ht:P.underlying t=some (.int .i64)) (hc:P.cellsOf t=1):Opens P t Rd.i64 Rd.Gd:=
 PL ht hc fun n hn=>⟨n,rfl,xL hn⟩
theorem jD {P:Program} {t:TypeId} (ht:P.underlying t=some (.int .u8)) (hc:P.cellsOf t=1):Opens P t Rd.u8 (fun _=>True):=
 PL ht hc fun n hn=>⟨UInt8.ofNat n.toNat,by
  have:=ABj hn
  unfold bv
  rw [UInt8.toNat_ofNat_of_lt' (by simp only [UInt8.size];omega),Int.toNat_of_nonneg this.1],trivial⟩
theorem Yw {P:Program} {t:TypeId} (ht:P.underlying t=some .bool) (hc:P.cellsOf t=1):Opens P t Rd.bool (fun _=>True):=by
 refine⟨hc,fun h _=> ?_⟩
 obtain⟨b,rfl,_⟩:=DataW.trod_bool ht h
 exact⟨b,⟨rfl,trivial⟩,trivial⟩
theorem dO {P:Program} {t:TypeId} (ht:P.underlying t=some .string) (hc:P.cellsOf t=1):Opens P t Rd.str Rd.PD:=by
 refine⟨hc,fun h hw=> ?_⟩
 obtain⟨s,rfl,rfl,_⟩:=DataW.trod_string ht h
 have:=hw s.data.toList.length (by simp [DataW.weights])
 exact⟨s,⟨rfl,by simpa [Rd.PD] using this⟩,by simpa [Rd.PD] using this⟩
theorem LY {H:Type} {P:Program} {e:TypeId}: ∀ {xs:List (DataW H)} {d:DataW H},d∈xs→ ∀m∈d.weights P e,m∈DataW.weightsAll P e xs
 | x::xs,d,h,m,hm=>by
  rw [DataW.weightsAll,List.mem_append]
  rcases List.mem_cons.1 h with rfl | h
  ·exact .inl hm
  ·exact .inr (LY h m hm)
theorem jE {P:Program} {t e:TypeId} {r:Rd α} {ok:α→Prop} (ht:P.underlying t=some (.slice e)) (hc:P.cellsOf t=1) (he:Opens P e r ok) {aQ:Nat} (hby:P.bytesOf e=aQ) (hz:0<P.cellsOf e):
 Opens P t (r.sl false) (fun xs=>xs.length*aQ≤140737488351232∧ ∀x∈xs,ok x):=by
 refine⟨hc,?_⟩
 intro H enc W base spare held n cs x h hw
 rcases DataW.trod_slice ht h with⟨rfl,rfl⟩ | ⟨a,len,cap,elems,rest,m,rfl,rfl,rfl,_,hlc,hcm,hel,hget,_⟩
 ·exact⟨[],⟨none,0,rfl,⟨fun h=>(by cases h),Nat.le_refl _⟩,fun h=>absurd h (by simp)⟩,by simp,by simp⟩
 ·have key: ∀(k:Nat),k<len→ ∃y:α,ok y∧ ∃cs:List Value,W.cells? base (a.add (k*P.cellsOf e)) (P.cellsOf e)=some cs∧r.R W 0 W.heap.size cs y:=by
   intro k hk
   have hg:=hget k hk
   have hkl:k<elems.length:=by omega
   rw [List.getElem?_eq_getElem hkl] at hg
   obtain⟨cs,hcs,htr⟩:=Option.bind_eq_some_iff.1 hg
   obtain⟨y,hy,hok⟩:=he.2 htr (fun q hq=>hw q (by
    simp only [DataW.weights,ht,List.mem_cons,List.mem_append]
    exact .inr (.inl (LY (List.mem_map_of_mem (List.getElem_mem hkl)) q hq))))
   exact⟨y,hok,cs,hcs,hy⟩
  have hlist: ∀m:Nat,m≤len→ ∃xs:List α,xs.length=m∧ ∀(k:Nat) y,xs[k]?=some y→ok y∧ ∃cs:List Value,W.cells? base (a.add (k*P.cellsOf e)) (P.cellsOf e)=some cs∧r.R W 0 W.heap.size cs y:=by
   intro m
   induction m with
   | zero=>exact fun _=>⟨[],rfl,by simp⟩
   | succ m ih=>
    intro hm
    obtain⟨xs,hl,hx⟩:=ih (by omega)
    obtain⟨y,hok,cs,hcs,hy⟩:=key m (by omega)
    refine⟨xs++ [y],by simp [hl],fun k u hu=> ?_⟩
    rw [List.getElem?_append] at hu
    split at hu
    ·exact hx k u hu
    ·rename_i hge
     have hk:k=m:=by
      have:=(List.getElem?_eq_some_iff.1 hu).1
      simp at this;omega
     subst hk
     rw [hl,Nat.sub_self] at hu
     simp at hu
     subst hu
     exact⟨hok,cs,hcs,hy⟩
  obtain⟨xs,hl,hx⟩:=hlist len (Nat.le_refl _)
  have hlen:len*aQ≤140737488351232:=by
   have:=hw _ (by simp only [DataW.weights,ht];exact List.mem_cons_self ..)
   rw [hby,List.length_map,List.length_map,hel] at this
   exact Nat.le_trans (Nat.mul_le_mul_right _ (by omega)) this
  subst hl
  refine⟨xs,⟨some a,cap,rfl,⟨(fun h=>by cases h),by omega⟩,fun hn=> ?_⟩,hlen,fun y hy=> ?_⟩
  ·obtain⟨_,cs0,ABk,_⟩:=hx 0 _ (List.getElem?_eq_getElem hn)
   have hb:=World.cells?_block ABk hz
   obtain⟨_,hl0,hg0⟩:=World.cells?_some ABk
   have h0:=hg0 0 hz
   rw [List.getElem?_eq_getElem (by omega)] at h0
   have hs0:=World.cell?_spot h0
   obtain⟨b,o,spot⟩:=a
   have hspot:spot=none:=by simpa [Addr.add] using hs0
   subst hspot
   have hbl:b<W.heap.size:=by simpa [Addr.add] using hb
   refine⟨b,o,rfl,Nat.zero_le _,hbl,fun k x hk=> ?_⟩
   obtain⟨_,cs,hcs,hr⟩:=hx k x hk
   obtain⟨_,hl1,hg1⟩:=World.cells?_some hcs
   refine⟨cs,fun j u hu=> ?_,hr⟩
   have hj:=(List.getElem?_eq_some_iff.1 hu).1
   have:=hg1 j (by omega)
   rw [Addr.add_lit,Addr.add_lit,he.1,hu] at this
   rw [←this]
  ·obtain⟨k,hk,rfl⟩:=List.getElem_of_mem hy
   exact(hx k _ (List.getElem?_eq_getElem hk)).1
structure VJ (P:Program) (fs:List Field) (off:Nat) (r:Rd α) (ok:α→Prop):Prop where
 out: ∀ {H:Type} {enc:TypeId×Value→H} {W:World} {base:Nat} {spare:Nat→Bool} {held:Bool} {n:Nat} {cs:List Value} {xs:List (DataW H×List MemPlace)},
  cs.length=off+r.z→fs.map (fun f=>DataW.trod enc P W base spare held n f.type ((cs.drop f.offset).take (P.cellsOf f.type)))=xs.map some→
  (∀m∈DataW.weightsEach P (fs.map (·.type)) (xs.map (·.1)),m≤140737488351232)→ ∃y,r.R W 0 W.heap.size (cs.drop off) y∧ok y
theorem Fj {P:Program} {off:Nat}:VJ P [] off Rd.unit (fun _=>True):=by
 constructor
 intro H enc W base spare held n cs xs hl _ _
 exact⟨(),by show cs.drop off= [];exact List.drop_eq_nil_of_le (by rw [hl];exact Nat.le_refl _),trivial⟩
theorem BA {P:Program} {f:Field} {fs:List Field} {off:Nat} {r:Rd α} {s:Rd β} {ok:α→Prop} {ok2:β→Prop} (hf:f.offset=off) (h1:Opens P f.type r ok) (h2:VJ P fs (off+r.z) s ok2):
 VJ P (f::fs) off (r.pair s) (fun x=>ok x.1∧ok2 x.2):=by
 constructor
 intro H enc W base spare held n cs xs hl hx hw
 cases xs with
 | nil=>cases hx
 | cons x xs=>
  simp only [List.map_cons,List.cons.injEq] at hx
  obtain⟨hx,hxs⟩:=hx
  simp only [List.map_cons,DataW.weightsEach,List.mem_append] at hw
  have hlen:cs.length=off+(r.z+s.z):=hl
  obtain⟨y,hy,hok⟩:=h1.2 hx (fun m hm=>hw m (.inl hm))
  obtain⟨y2,hy2,hok2⟩:=h2.out (cs:=cs) (by rw [hlen,Nat.add_assoc]) hxs (fun m hm=>hw m (.inr hm))
  refine⟨(y,y2),⟨_,_,?_,hy,hy2⟩,hok,hok2⟩
  rw [hf,h1.1,←List.drop_drop,List.take_append_drop]
theorem EO {P:Program} {t:TypeId} {fs:Array Field} {r:Rd α} {ok:α→Prop} (ht:P.underlying t=some (.struct fs)) (hc:P.cellsOf t=r.z) (h:VJ P fs.toList 0 r ok):Opens P t r ok:=by
 refine⟨hc,?_⟩
 intro H enc W base spare held n cs x hx hw
 obtain⟨xs,m,rfl,rfl,hl,hlen,hf⟩:=DataW.trod_struct ht hx
 obtain⟨y,hy,hok⟩:=h.out (enc:=enc) (W:=W) (base:=base) (spare:=spare) (held:=held) (n:=m) (cs:=cs) (xs:=xs) (by rw [hl,hc,Nat.zero_add]) (by
  refine List.ext_getElem? fun i=> ?_
  rw [List.getElem?_map,List.getElem?_map]
  cases hi:fs.toList[i]? with
  | none=>
   have hge:fs.size≤i:=by simpa using List.getElem?_eq_none_iff.1 hi
   rw [List.getElem?_eq_none (by omega)];rfl
  | some f=>
   have hfi:fs[i]?=some f:=by simpa using hi
   have hlt:i<xs.length:=by rw [hlen];exact(Array.getElem?_eq_some_iff.1 hfi).1
   have:=hf i f hfi
   rw [List.getElem?_eq_getElem hlt] at this⊢
   simpa using this) (by
  intro q hq
  apply hw q
  simp only [DataW.weights,ht]
  exact hq)
 exact⟨y,by simpa using hy,hok⟩
theorem Gl {P:Program} {t:TypeId} {r:Rd α} {ok:α→Prop} (h:Opens P t r ok) (f:β→α) (g:α→β) (hfg: ∀a,f (g a)=a):Opens P t (r.via f) (fun b=>ok (f b)):=by
 refine⟨h.1,fun hx hw=> ?_⟩
 obtain⟨y,hy,hok⟩:=h.2 hx hw
 exact⟨g y,by show r.R _ _ _ _ (f (g y));rw [hfg];exact hy,by show ok (f (g y));rw [hfg];exact hok⟩
theorem UL {P:Program} {t:TypeId} {r:Rd α} {ok:α→Prop} (h:Opens P t r ok) {H:Type} {enc:TypeId×Value→H} {W:World} {base:Nat} {spare:Nat→Bool} {held:Bool} {v:Value} {d:DataW H} {p:List MemPlace}
 (hv:DataW.Trod enc P W base spare held t v d p) {ts:List TypeId} {ds:List (DataW H)} {j:Nat} (hs:(DataW.weightsEach P ts ds).all (· ≤reachBytes)=true) (ht:ts[j]?=some t) (hd:ds[j]?=some d):
 ∃y,r.R W 0 W.heap.size v.cells.toList y∧ok y:=by
 obtain⟨n,hv⟩:=hv
 refine h.2 hv fun m hm=> ?_
 have:=List.all_eq_true.1 hs m (DataW.weights_mem_each ht hd m hm)
 exact of_decide_eq_true this
end
end
theorem dQ {P:Program} (w:World) (base:Nat) (t ty e:TypeId) (i:TypeInfo) (size:Nat) (ht:P.underlying t=some (.slice e)) (hi:P.info? e=some i)
 (v:Value) (n:Nat) (xs:List Value) (hown:w.ownsRow base e size v n xs) (c:Nat):(Builtin.append_ #[t,t] ty #[v,.slice none 0 c]).run P w= .ok v w:=by
 rcases hown.2 with⟨rfl,rfl⟩ | ⟨g,cap,cur,rfl,_,_,hnc,_⟩
 ·simp [Builtin.append_,run_underlying ht,sizeOf,typeInfo,hi,Builtin.lenOf,Builtin.firstCells]
 ·simp [Builtin.append_,run_underlying ht,sizeOf,typeInfo,hi,Builtin.lenOf,Builtin.firstCells,hnc,storeCells]
theorem MX {w:World} {base size:Nat} {e:TypeId} {v:Value} {n:Nat} {xs:List Value} (h:w.ownsRow base e size v n xs): ∃A c,v= .slice A n c:=by
 rcases h.2 with⟨rfl,rfl⟩ | ⟨g,cap,cur,rfl,_⟩
 ·exact⟨_,_,rfl⟩
 ·exact⟨_,_,rfl⟩
theorem BG {w w':World} {base size:Nat} {e:TypeId} {v:Value} {n:Nat} {xs:List Value} (h:w.ownsRow base e size v n xs) (hg:w.grownBy w' v.ownBlock) (hB:base≤w.heap.size):Below base w w':=
 (Below.refl base w).grown hg hB fun k hk=>(h.lt k hk).1
theorem FD {w w':World} {base size:Nat} {e:TypeId} {v:Value} {n:Nat} {xs:List Value} (h:w.ownsRow base e size v n xs) (hb:Below w.heap.size w w'):w'.ownsRow base e size v n xs:=
 h.kept (row:=some w.heap.size) ⟨hb.os,hb.tape,hb.output,hb.size,fun k hk _=>hb.block k hk⟩ (by
  cases hv:v.ownBlock with
  | none=>exact .inl rfl
  | some k=>right;intro e;injection e with e;have:=(h.lt k hv).2;omega)
theorem RZ {P:Program} (w:World) (base:Nat) (t ty e:TypeId) (i:TypeInfo) (z:Value) (size bytes:Nat) (ht:P.underlying t=some (.slice e)) (hi:P.info? e=some i) (hz:i.zero=some z)
 (hsize:i.size=size) (hby:i.bytes=bytes) (hzs:z.cells.size=size) (hpos:0<size)
 (v:Value) (n:Nat) (xs:List Value) (hown:w.ownsRow base e size v n xs)
 (B:Nat) (A:Option Addr) (m c:Nat) (news:List Value) (hm:news.length=m*size) (hr:Row w B A news) (h1: ∀u∈news,u.oneCell'=true)
 (h63:n+m≤maxLen) (hbytes:(n+m)*bytes≤140737488355328) (hbase:base≤w.heap.size):
 ∃v' w',(Builtin.append_ #[t,t] ty #[v,.slice A m c]).run P w= .ok v' w'∧w'.ownsRow base e size v' (n+m) (xs++news)∧w.grownBy w' v.ownBlock∧
  (v'.ownBlock=v.ownBlock∨v'.ownBlock=some w.heap.size):=by
 rcases A with _ | ad
 ·have hnil:news= []:=by
   rcases Nat.eq_zero_or_pos news.length with h0 | h0
   ·exact List.eq_nil_of_length_eq_zero h0
   ·obtain⟨_,_,h',_⟩:=hr h0
    cases h'
  subst hnil
  have hm0:m=0:=by
   rcases Nat.eq_zero_or_pos m with h0 | h0
   ·exact h0
   ·have:=Nat.mul_pos h0 hpos
    simp at hm;omega
  subst hm0
  exact⟨v,w,dQ w base t ty e i size ht hi v n xs hown c,by simpa using hown,World.grownBy.refl w _,.inl rfl⟩
 ·obtain⟨v',w',hrun,h2,h3,_,h5⟩:=run_append_own_at (P:=P) w base t ty e i z size bytes ht hi hz hsize hby hzs hpos v n xs hown ad m c news hm (fun j u hu=>by
   have hj:=(List.getElem?_eq_some_iff.1 hu).1
   obtain⟨b,o,h',_,hc⟩:=hr (by omega)
   injection h' with h'
   subst h'
   rw [Addr.add_lit]
   exact hc j u hu) h1 h63 hbytes hbase
  exact⟨v',w',hrun,h2,h3,h5⟩
theorem BL {P:Program} (w:World) {ops:Array Oper} {rest:List Oper} {o:Oper} {a:Act} {Q:Exit→Act→World→Prop} (hgd:o.guard=none) (s x:Operand) (t:TypeId)
 (ho:o.op= .call {callee:= .builtin .append,args:= #[s,x],argTypes:= #[t,t]})
 (base:Nat) (e:TypeId) (i:TypeInfo) (z:Value) (size bytes:Nat) (ht:P.underlying t=some (.slice e)) (hi:P.info? e=some i) (hz:i.zero=some z)
 (hsize:i.size=size) (hby:i.bytes=bytes) (hzs:z.cells.size=size) (hpos:0<size)
 (v:Value) (n:Nat) (xs:List Value) (hs:a.eval s=v) (hown:w.ownsRow base e size v n xs)
 (B:Nat) (A:Option Addr) (m c:Nat) (news:List Value) (hx:a.eval x= .slice A m c) (hm:news.length=m*size) (hr:Row w B A news) (h1: ∀u∈news,u.oneCell'=true)
 (h63:n+m≤maxLen) (hbytes:(n+m)*bytes≤140737488355328) (hbase:base≤w.heap.size)
 (h: ∀A' c' w',w'.ownsRow base e size (.slice A' (n+m) c') (n+m) (xs++news)→w.grownBy w' v.ownBlock→((Value.slice A' (n+m) c').ownBlock=v.ownBlock∨(Value.slice A' (n+m) c').ownBlock=some w.heap.size)→wpList P ops Q rest (a.put o.dst (.slice A' (n+m) c')) w'):wpList P ops Q (o::rest) a w:=by
 refine wpList_plain hgd fun _ hK=> ?_
 obtain⟨v',w',hrun,h2,h3,h4⟩:=RZ (P:=P) w base t o.type e i z size bytes ht hi hz hsize hby hzs hpos v n xs hown B A m c news hm hr h1 h63 hbytes hbase
 obtain⟨A',c',rfl⟩:=MX h2
 unfold Oper.wp execOp
 simp only [ho,resolve,invoke,builtin,Sem.run_bind,Sem.run_pure,Result.andThen_ok,List.map_toArray,List.map_cons,List.map_nil,hs,hx,hrun]
 exact hK _ _ (h A' c' w' h2 h3 h4)
theorem UU {P:Program} {ops:Array Oper} {o:Oper} {a:Act} {w:World} {K:Act→World→Prop} {Q:Exit→Act→World→Prop} {E:Prop}
 (hg:o.guard=none) (s x:Operand) (t:TypeId) (hop:o.op=Op.call {callee:=Callee.builtin Builtin.append,args:= #[s,x],argTypes:= #[t,t]})
 (base:Nat) (e:TypeId) (i:TypeInfo) (z:Value) (size bytes:Nat) (ht:P.underlying t=some (.slice e)) (hi:P.info? e=some i) (hz:i.zero=some z)
 (hsize:i.size=size) (hby:i.bytes=bytes) (hzs:z.cells.size=size) (hpos:0<size)
 (v:Value) (n:Nat) (xs:List Value) (hs:a.eval s=v) (hown:w.ownsRow base e size v n xs)
 (B:Nat) (A:Option Addr) (m c:Nat) (news:List Value) (hx:a.eval x= .slice A m c) (hm:news.length=m*size) (hr:Row w B A news) (h1: ∀u∈news,u.oneCell'=true)
 (h63:n+m≤maxLen) (hbytes:(n+m)*bytes≤140737488355328) (hbase:base≤w.heap.size)
 (h: ∀A' c' w',w'.ownsRow base e size (.slice A' (n+m) c') (n+m) (xs++news)→w.grownBy w' v.ownBlock→((Value.slice A' (n+m) c').ownBlock=v.ownBlock∨(Value.slice A' (n+m) c').ownBlock=some w.heap.size)→K (a.put o.dst (.slice A' (n+m) c')) w'):
 if Region.wanted o (yielded ops a.tmps)=true then Oper.wp P o a w K Q else E:=by
 have hw:Region.wanted o (yielded ops a.tmps)=true:=by simp [Region.wanted,hg]
 rw [if_pos hw]
 obtain⟨v',w',hrun,h2,h3,h4⟩:=RZ (P:=P) w base t o.type e i z size bytes ht hi hz hsize hby hzs hpos v n xs hown B A m c news hm hr h1 h63 hbytes hbase
 obtain⟨A',c',rfl⟩:=MX h2
 unfold Oper.wp
 simp [execOp,hop,resolve,invoke,builtin,hs,hx,hrun,Result.andThen]
 exact h A' c' w' h2 h3 h4
theorem JX {w:World} {base size:Nat} {e:TypeId} {v:Value} {n:Nat} {xs:List Value} (h:w.ownsRow base e size v n xs) {p:Addr} (hp:p.block<base) (u:Value):(w.setCell p u).ownsRow base e size v n xs:=
 h.kept (row:=some p.block) ⟨rfl,rfl,rfl,by simp [World.setCell],fun k _ hn=>Below.heap_setCell _ _ _ _ (fun e=>hn (by rw [e]))⟩ (by
  cases hv:v.ownBlock with
  | none=>exact .inl rfl
  | some k=>right;intro e;injection e with e;have:=(h.lt k hv).1;omega)
theorem Ay {w w':World} {row:Option Nat} (hg:w.grownBy w' row) {g:Nat} {t:TypeId} {xs:List Value} (h:AQ w g t xs) (hn:row≠some g):AQ w' g t xs:=
 (hg.block g h.lt (fun e=>hn e.symm)).trans h
theorem dR (w:World) (cs:List Value) (t:TypeId):Row (w.alloc (.cells cs.toArray t)) (w.heap.size+1) (some ⟨w.heap.size,0,none⟩) cs:=by
 intro _
 refine⟨w.heap.size,0,rfl,Nat.lt_succ_self _,fun j u hu=> ?_⟩
 have:=(AQ.new w t cs).cell j
 rw [Nat.zero_add,this,hu]
structure Keep (K:Nat→Prop) (w w':World):Prop where
 os:w'.os=w.os
 tape:w'.tape=w.tape
 output:w'.output=w.output
 size:w.heap.size≤w'.heap.size
 block: ∀k,k<w.heap.size→K k→w'.heap[k]?=w.heap[k]?
section
variable {K K':Nat→Prop} {w w' w'':World}
theorem Keep.refl (K:Nat→Prop) (w:World):Keep K w w:=⟨rfl,rfl,rfl,Nat.le_refl _,fun _ _ _=>rfl⟩
theorem Keep.trans (h:Keep K w w') (h':Keep K w' w''):Keep K w w'':=
 ⟨h'.os.trans h.os,h'.tape.trans h.tape,h'.output.trans h.output,Nat.le_trans h.size h'.size,fun k hk hK=>(h'.block k (Nat.lt_of_lt_of_le hk h.size) hK).trans (h.block k hk hK)⟩
theorem Keep.mono (h:Keep K w w') (hk: ∀k,K' k→K k):Keep K' w w':=⟨h.os,h.tape,h.output,h.size,fun k h1 h2=>h.block k h1 (hk k h2)⟩
theorem Keep.of_below {B:Nat} (h:Below B w w') (hk: ∀k,K k→k<w.heap.size→k<B):Keep K w w':=⟨h.os,h.tape,h.output,h.size,fun k h1 h2=>h.block k (hk k h2 h1)⟩
theorem Keep.DC (h:Below w.heap.size w w'):Keep K w w':=Keep.of_below h (fun _ _ h=>h)
theorem Keep.below {B:Nat} (h:Keep K w w') (hB:B≤w.heap.size) (hk: ∀k,k<B→K k):Below B w w':=⟨h.os,h.tape,h.output,h.size,fun k h1=>h.block k (by omega) (hk k h1)⟩
theorem Keep.alloc (h:Keep K w w') (o:Obj):Keep K w (w'.alloc o):=h.trans (Keep.DC ((Below.refl _ _).alloc (Nat.le_refl _) o))
theorem Keep.drewN (h:Keep K w w') (n:Nat):Keep K w (w'.drewN n):=⟨h.os,h.tape,h.output,h.size,h.block⟩
theorem Keep.drew (h:Keep K w w'):Keep K w w'.drew:=⟨h.os,h.tape,h.output,h.size,h.block⟩
theorem Keep.setCell (h:Keep K w w') {p:Addr} (hp: ¬K p.block) (u:Value):Keep K w (w'.setCell p u):=
 h.trans ⟨rfl,rfl,rfl,by simp [World.setCell],fun k _ hK=>Below.heap_setCell _ _ _ _ (fun e=>hp (e▸hK))⟩
theorem Keep.grown (h:Keep K w w') {row:Option Nat} (hg:w'.grownBy w'' row) (hr: ∀k,row=some k→ ¬K k):Keep K w w'':=
 h.trans ⟨hg.os,hg.tape,hg.output,hg.size,fun k h1 h2=>hg.block k h1 (fun e=>hr k e.symm h2)⟩
theorem Keep.all (h:Keep K w w') (hb:Below w'.heap.size w' w''):Keep K w w'':=h.trans (Keep.DC hb)
theorem AQ.keep {g:Nat} {t:TypeId} {xs:List Value} (hb:AQ w g t xs) (h:Keep K w w') (hg:K g):AQ w' g t xs:=(h.block g hb.lt hg).trans hb
theorem Ce {base size:Nat} {e:TypeId} {v:Value} {n:Nat} {xs:List Value} (ho:w.ownsRow base e size v n xs) (h:Keep K w w') (hg: ∀k,v.ownBlock=some k→K k):w'.ownsRow base e size v n xs:=by
 obtain⟨h1,h2⟩:=ho
 refine⟨h1,?_⟩
 rcases h2 with h2 | ⟨g,cap,cur,rfl,hb,hh,hr⟩
 ·exact .inl h2
 ·have hlt:g<w.heap.size:=(Array.getElem?_eq_some_iff.1 hh).1
  exact .inr ⟨g,cap,cur,rfl,hb,(h.block g hlt (hg g rfl)).trans hh,hr⟩
theorem Rd.CB {α:Type} {r:Rd α} {lo hi:Nat} {cs:List Value} {x:α} (hr:r.R w lo hi cs x) (h:Keep K w w') (hhi:hi≤w.heap.size) (hk: ∀k,lo≤k→k<hi→K k):r.R w' lo hi cs x:=
 r.keep (fun p h1 h2=>by
  have hb:=h.block p.block (by omega) (hk _ h1 h2)
  simp [World.cell?,hb]) hr
theorem BH {base size:Nat} {e:TypeId} {v:Value} {n:Nat} {xs:List Value} (ho:w.ownsRow base e size v n xs) {p:Addr} (hp:v.ownBlock≠some p.block) (u:Value):(w.setCell p u).ownsRow base e size v n xs:=
 Ce (K:=fun k=>k≠p.block) ho ((Keep.refl _ _).setCell (by simp) u) (fun k hk e=>hp (by rw [hk,e]))
end
end Go.Proofs.YtlagonfamllgjaaGreatDoor
