/- Part 1 of the proof: Base Mem Iter ShapeP Open Rd -/
import Derived.WalkKit
import Derived.Laws.BitsAllLaws
import Derived.Lib.Hide
import Derived.Below
import Derived.OwnWalk
import Derived.Laws.OwnMore
import Derived.Laws.BytesArg
import Derived.Laws.MakeOwn
import Derived.Laws.NewBlocks
import Derived.Deep.Draws
import Derived.Laws.RangeAny
import Derived.ChangeSlices
import Derived.SizedLaws
import Derived.ChangeArms
import Derived.ChangeSame
namespace Go.Proofs.YtlagonfamllgjaaGreatDoor
set_option linter.unusedVariables false
set_option linter.unusedSimpArgs false
set_option maxRecDepth 100000
set_option maxHeartbeats 4000000
open Go.RowKit
def Row (w:World) (B:Nat) (A:Option Addr) (xs:List Value):Prop:=
 0<xs.length→ ∃b o,A=some ⟨b,o,none⟩∧b<B∧ ∀j u,xs[j]?=some u→w.cell? ⟨b,o+j,none⟩=some u
theorem Row.nil (w:World) (B:Nat) (A:Option Addr):Row w B A []:=fun h=>absurd h (by simp)
theorem Row.more {w:World} {B B':Nat} {A:Option Addr} {xs:List Value} (h:Row w B A xs) (hb:B≤B'):Row w B' A xs:=fun hn=>
 let ⟨b,o,e,hlt,hc⟩:=h hn
 ⟨b,o,e,Nat.lt_of_lt_of_le hlt hb,hc⟩
theorem Row.keep {w w':World} {B:Nat} {A:Option Addr} {xs:List Value} (h:Row w B A xs) (hk: ∀p:Addr,p.block<B→w'.cell? p=w.cell? p):Row w' B A xs:=fun hn=>
 let ⟨b,o,e,hlt,hc⟩:=h hn
 ⟨b,o,e,hlt,fun j u hu=>(hk _ hlt).trans (hc j u hu)⟩
theorem Row.below {w w':World} {B:Nat} {A:Option Addr} {xs:List Value} (h:Row w B A xs) (hb:Below B w w'):Row w' B A xs:=
 h.keep fun _ hp=>hb.cell hp
theorem Row.below' {w w':World} {B B':Nat} {A:Option Addr} {xs:List Value} (h:Row w B A xs) (hb:Below B' w w') (hB:B≤B'):Row w' B A xs:=
 h.keep fun _ hp=>hb.cell (Nat.lt_of_lt_of_le hp hB)
theorem Row.at {w:World} {B:Nat} {A:Option Addr} {xs:List Value} (h:Row w B A xs) {j:Nat} {u:Value} (hu:xs[j]?=some u):
 ∃b o,A=some ⟨b,o,none⟩∧b<B∧w.cell? ⟨b,o+j,none⟩=some u:=by
 have hj:j<xs.length:=(List.getElem?_eq_some_iff.1 hu).1
 obtain⟨b,o,e,hlt,hc⟩:=h (by omega)
 exact⟨b,o,e,hlt,hc j u hu⟩
theorem Row.cut {w:World} {B:Nat} {A:Option Addr} {xs:List Value} (h:Row w B A xs) (n:Nat):Row w B A (xs.take n):=fun hn=>by
 rw [List.length_take] at hn
 obtain⟨b,o,e,hlt,hc⟩:=h (by omega)
 refine⟨b,o,e,hlt,fun j u hu=>hc j u ?_⟩
 rw [List.getElem?_take] at hu
 split at hu
 ·exact hu
 ·cases hu
theorem Row.own {w:World} {base:Nat} {e:TypeId} {A:Option Addr} {n c:Nat} {xs:List Value} (h:w.ownsRow base e 1 (.slice A n c) n xs):Row w w.heap.size A xs:=by
 intro hn
 rcases h.2 with⟨_,h0⟩ | ⟨g,cap,cur,hv,_,hg,_,_,_,_⟩
 ·have:=h.1;subst h0;simp at this;subst this;simp at hn
 ·have hA:A=some ⟨g,0,none⟩:=by injection hv
  subst hA
  refine⟨g,0,rfl,(Array.getElem?_eq_some_iff.1 hg).1,fun j u hu=> ?_⟩
  have:=h.cells (g:=g) rfl j u hu
  rw [Addr.add_lit] at this
  exact this
def bv (c:UInt8):Value:= .int .u8 (c.toNat:Int)
theorem Row.byte {w:World} {B:Nat} {A:Option Addr} {l:List UInt8} (h:Row w B A (l.map bv)) {j:Nat} (hj:j<l.length):
 ∃b o,A=some ⟨b,o,none⟩∧b<B∧w.cell? ⟨b,o+j,none⟩=some (.int .u8 ((l[j]?.getD 0).toNat:Int)):=by
 refine h.at ?_
 rw [List.getElem?_map,List.getElem?_eq_getElem hj]
 rfl
theorem Row.drop {w:World} {B:Nat} {A:Option Addr} {xs:List Value} (h:Row w B A xs) (k:Nat):Row w B (A.map (·.add k)) (xs.drop k):=by
 intro hn
 rw [List.length_drop] at hn
 obtain⟨b,o,rfl,hlt,hc⟩:=h (by omega)
 refine⟨b,o+k,by rw [Option.map_some,Addr.add_lit],hlt,fun j u hu=> ?_⟩
 rw [List.getElem?_drop] at hu
 rw [Nat.add_assoc]
 exact hc _ u hu
theorem Nu {P:Program} (src e dst:TypeId) (hs:P.underlying src=some (.slice e)) (he:P.underlying e=some (.int .u8)) (hd:P.underlying dst=some .string)
 (w:World) (B:Nat) (A:Option Addr) (m c:Nat) (sub:List UInt8) (hm:m=sub.length) (h:Row w B A (sub.map bv)):
 (convert src dst (.slice A m c)).run P w= .ok (.string ⟨sub.toArray⟩) w:=by
 rw [run_convert_bytes_string w src dst e A m c hs he hd]
 rcases A with _ | a
 ·have:sub= []:=by
   rcases Nat.eq_zero_or_pos sub.length with h0 | h0
   ·exact List.eq_nil_of_length_eq_zero h0
   ·obtain⟨_,_,h',_⟩:=h (by simpa using h0)
    cases h'
  subst this
  simp [Conv.bytesToString]
  rfl
 ·have hl:(loadCells a m).run P w= .ok ((sub.map fun c=>(c.toNat:Int)).map (Value.int .u8)).toArray w:=by
   have:=run_loadCells_list (P:=P) w a (sub.map bv) (fun j v hj=>by
    have hj':=(List.getElem?_eq_some_iff.1 hj).1
    obtain⟨b,o,h',_,hc⟩:=h (by omega)
    injection h' with h'
    subst h'
    rw [Addr.add_lit]
    exact hc j v hj)
   rw [List.length_map,←hm] at this
   rw [this,List.map_map]
   rfl
  rw [run_bytesToString w a m c _ hl,foldl_push_bytes,List.map_map]
  congr 2
  show ByteArray.mk (#[]++_)=_
  rw [Array.empty_append]
  congr 2
  exact List.map_id'' (fun c=>by simp) sub
def UF:Nat→Nat→Nat→List UInt8→Nat×Nat×Nat
 | 0,_,_,_=>(0,0,11)
 | _+1,_,_,[]=>(0,0,10)
 | n+1,i,v,c::r=>
  if i=9∧1<c.toNat then(0,0,11)
  else if c.toNat<128 then(if c.toNat=0∧0<i then(0,0,12) else(v+c.toNat%128*128^i,i+1,0))
  else UF n (i+1) (v+c.toNat%128*128^i) r
theorem zO (c:Nat) (h:c<256):bits .and .u8 (c:Int) 127=((c%128:Nat):Int):=by
 have:=u8_and_nat c 127 h (by omega)
 rw [show((127:Nat):Int)=127 from rfl] at this
 rw [this,show(127:Nat)=2^7-1 from rfl,Nat.and_two_pow_sub_one_eq_mod]
theorem zP (x d k:Nat) (hx:x<128^k) (hx64:x<18446744073709551616) (hd:d*128^k<18446744073709551616):
 bits .or .u64 (x:Int) ((d*128^k:Nat):Int)=((x+d*128^k:Nat):Int):=by
 rw [u64_or_nat x _ hx64 hd]
 have e:(128:Nat)^k=2^(7*k):=by rw [Nat.pow_mul]
 rw [e] at hx⊢
 have:=Nat.shiftLeft_add_eq_or_of_lt hx d
 rw [Nat.shiftLeft_eq] at this
 rw [Nat.or_comm,←this,Nat.add_comm]
theorem eU (k:Nat) (hk:k≤9):128^k≤9223372036854775808:=by
 have:=Nat.pow_le_pow_right (show 0<128 by omega) hk
 exact Nat.le_trans this (by decide)
theorem zQ (x c k:Nat) (hk:k≤9) (hx:x<128^k) (h9:k=9→c≤1):x+c%128*128^k<18446744073709551616:=by
 have zR:=eU k hk
 by_cases h:k=9
 ·have:=h9 h;subst h
  have:c%128=0∨c%128=1:=by omega
  rcases this with e | e<;>rw [e]<;>omega
 ·have h8:128^k≤72057594037927936:=by
   have:=Nat.pow_le_pow_right (show 0<128 by omega) (show k≤8 by omega)
   exact Nat.le_trans this (by decide)
  have:c%128*128^k≤127*128^k:=Nat.mul_le_mul_right _ (by omega)
  omega
theorem rO (x c k:Nat) (hx:x<128^k):x+c%128*128^k<128^(k+1):=by
 have:c%128*128^k≤127*128^k:=Nat.mul_le_mul_right _ (by omega)
 rw [Nat.pow_succ];omega
theorem acc (x c k:Nat) (hk:k≤9) (hc:c<256) (hx:x<128^k) (h9:k=9→c≤1):
 bits .or .u64 (x:Int) (IntKind.u64.wrap (IntKind.u64.wrap (bits .and .u8 (c:Int) 127)*2^(7*k)))=((x+c%128*128^k:Nat):Int):=by
 have hlt:=zQ x c k hk hx h9
 rw [zO c hc]
 have e1:IntKind.u64.wrap ((c%128:Nat):Int)=((c%128:Nat):Int):=by
  rw [IntKind.wrap_u64];omega
 rw [e1]
 have e2:(((c%128:Nat):Int)*2^(7*k))=((c%128*128^k:Nat):Int):=by
  have e:(128:Nat)^k=2^(7*k):=by rw [Nat.pow_mul]
  rw [e];simp
 rw [e2]
 have e3:IntKind.u64.wrap ((c%128*128^k:Nat):Int)=((c%128*128^k:Nat):Int):=by
  rw [IntKind.wrap_u64];omega
 rw [e3]
 exact zP x _ k hx (by omega) (by omega)
def KC (l:List UInt8) (p:Int):Nat×Nat×Nat:=
 if p<0∨(l.length:Int)<p then(0,0,1)
 else
  let r:=UF 10 0 0 (l.drop p.toNat)
  (r.1,(if r.2.2=0 then p.toNat+r.2.1 else 0),r.2.2)
theorem ZI {k1 k2 k3:IntKind} {a a' b b' c c':Int} (h1:a=a') (h2:b=b') (h3:c=c'):
 Ending.returned (.tuple #[.int k1 a,.int k2 b,.int k3 c])= .returned (.tuple #[.int k1 a',.int k2 b',.int k3 c']):=by
 rw [h1,h2,h3]
theorem XI (l:List UInt8) (p:Int) (h:p<0∨(l.length:Int)<p):KC l p=(0,0,1):=by rw [KC,if_pos h]
theorem Oi (l:List UInt8) (p:Nat) (h:p≤l.length) {v n e:Nat} (hr:UF 10 0 0 (l.drop p)=(v,n,e)):
 KC l p=(v,(if e=0 then p+n else 0),e):=by
 rw [KC,if_neg (by omega)]
 simp [hr]
theorem jw (n i v:Nat) (c:UInt8) (r:List UInt8):UF (n+1) i v (c::r)=
 if i=9∧1<c.toNat then(0,0,11)
 else if c.toNat<128 then(if c.toNat=0∧0<i then(0,0,12) else(v+c.toNat%128*128^i,i+1,0))
 else UF n (i+1) (v+c.toNat%128*128^i) r:=rfl
theorem rP (n i v:Nat):UF (n+1) i v []=(0,0,10):=rfl
theorem drop_at (l:List UInt8) (k:Nat) (h:k<l.length):l.drop k=(l[k]?.getD 0)::l.drop (k+1):=by
 rw [List.drop_eq_getElem_cons h,List.getElem?_eq_getElem h];rfl
theorem AA {p:Prop} (h:p):Hid p:=h
def AQ (w:World) (g:Nat) (t:TypeId) (xs:List Value):Prop:=w.heap[g]?=some (.cells xs.toArray t (0,0))
section
variable {w w':World} {g:Nat} {t:TypeId} {xs:List Value}
theorem AQ.lt (h:AQ w g t xs):g<w.heap.size:=(Array.getElem?_eq_some_iff.1 h).1
theorem AQ.cell (h:AQ w g t xs) (i:Nat):w.cell? ⟨g,i,none⟩=xs[i]?:=by
 unfold AQ at h
 simp [World.cell?,h]
theorem AQ.q (h:AQ w g t xs) (i:Nat) {v:Value} (e:xs[i]?=some v):w.cell? ⟨g,i,none⟩=some v:=(h.cell i).trans e
theorem AQ.frozen (h:AQ w g t xs) (i:Nat):w.frozen? ⟨g,i,none⟩=false:=by
 unfold AQ at h
 simp [World.frozen?,h]
theorem AQ.new (w:World) (t:TypeId) (xs:List Value):AQ (w.alloc (.cells xs.toArray t)) w.heap.size t xs:=heap_alloc_new w _
theorem AQ.set (h:AQ w g t xs) (i:Nat) (u:Value):AQ (w.setCell ⟨g,i,none⟩ u) g t (xs.set i u):=by
 unfold AQ at h⊢
 simp [World.setCell,Array.getElem?_modify,h]
theorem AQ.below {B:Nat} (h:AQ w g t xs) (hb:Below B w w') (hg:g<B):AQ w' g t xs:=(hb.block g hg).trans h
theorem AQ.drewN (h:AQ w g t xs) (k:Nat):AQ (w.drewN k) g t xs:=h
theorem AQ.alloc (h:AQ w g t xs) (o:Obj):AQ (w.alloc o) g t xs:=(Below.heap_alloc w o g h.lt).trans h
theorem AQ.far (h:AQ w g t xs) {p:Addr} (hp:g≠p.block) (u:Value):AQ (w.setCell p u) g t xs:=(Below.heap_setCell w p u g hp).trans h
theorem AQ.row (h:AQ w g t xs) (o n:Nat):Row w (g+1) (some ⟨g,o,none⟩) ((xs.drop o).take n):=by
 intro _
 refine⟨g,o,rfl,Nat.lt_succ_self g,fun j u hu=> ?_⟩
 rw [h.cell]
 rw [List.getElem?_take] at hu
 split at hu
 ·rw [List.getElem?_drop] at hu;exact hu
 ·cases hu
end
theorem Row.drewN {w:World} {B:Nat} {A:Option Addr} {xs:List Value} (h:Row w B A xs) (k:Nat):Row (w.drewN k) B A xs:=h
theorem BA {P:Program} {f:FuncId} {args:Array Value} {w:World} {a x:Nat} {v:Value} (h:Calls P f args (w.drewN (a+x)) fun e w'=>w.drewN (a+x)=w'∧e= .returned v):
 Calls P f args (w.drewN (a+x)) fun e w''=>e= .returned v∧ ∃n,w''=w.drewN (a+n):=h.mono fun _ _ ⟨hw,he⟩=>⟨he,x,hw.symm⟩
theorem BF {P:Program} {f:FuncId} {args:Array Value} {w:World} {x:Nat} {v:Value} (h:Calls P f args (w.drewN x) fun e w'=>w.drewN x=w'∧e= .returned v):
 Calls P f args (w.drewN x) fun e w''=>e= .returned v∧ ∃n,w''=w.drewN n:=h.mono fun _ _ ⟨hw,he⟩=>⟨he,x,hw.symm⟩
theorem Ce {w w':World} (h:Below w.drew.heap.size w.drew w'):Below w.heap.size w w':=⟨h.os,h.tape,h.output,h.size,h.block⟩
theorem below_drewN {B:Nat} {a w:World} (h:Below B a w) (k:Nat):Below B a (w.drewN k):=⟨h.os,h.tape,h.output,h.size,h.block⟩
def jy (z:Value) (n:Nat):Array Value:=(List.replicate n z).toArray
theorem JO {P:Program} (t e:TypeId) (i:TypeInfo) (z:Value) (bytes:Nat) (ht:P.underlying t=some (.slice e)) (hi:P.info? e=some i) (hz:i.zero=some z) (h1:z.cells= #[z]) (hs:i.size=1) (hb:i.bytes=bytes)
 (n:Int) (m:Nat) (hn:n=m) (hbytes:bytes*m≤281474976710656) (h63:m≤9223372036854775807) (w:World):
 (Instr.makeSlice t (.int .i64 n) (.int .i64 n)).run P w= .ok (.slice (some ⟨w.heap.size,0,none⟩) m m) (w.alloc (.cells (jy z m) e)):=by
 subst hn
 have hb':(i.bytes:Int)*(m:Int)≤281474976710656:=by
  rw [hb]
  have h:((bytes*m:Nat):Int)≤281474976710656:=by omega
  rwa [Int.natCast_mul] at h
 have hr:=run_make (P:=P) w t e i z ht hi hz .i64 .i64 m m (by omega) (by omega) hb' (by omega)
 simp only [Int.toNat_natCast] at hr
 rw [hr,h1,hs,Nat.mul_one]
 congr 3
 have:=toList_madeCells_one z m
 rw [←Array.toList_inj,this]
 rfl
def Du (w:World) (g:Nat) (s:ByteArray) (pos:Nat):Prop:=w.heap[g]?=some (.stringIter s pos)
def setIter (w:World) (g:Nat) (s:ByteArray) (pos:Nat):World:= {w with heap:=w.heap.setIfInBounds g (.stringIter s pos)}
theorem Du.lt {w:World} {g:Nat} {s:ByteArray} {pos:Nat} (h:Du w g s pos):g<w.heap.size:=(Array.getElem?_eq_some_iff.1 h).1
theorem Du.new (w:World) (s:ByteArray) (pos:Nat):Du (w.iter s pos) w.heap.size s pos:=World.iter_heap w s pos
theorem Du.set {w:World} {g:Nat} {s:ByteArray} {pos:Nat} (h:Du w g s pos) (pos':Nat):Du (setIter w g s pos') g s pos':=by
 have:=h.lt
 simp [Du,setIter,this]
theorem Du.below {w w':World} {g B:Nat} {s:ByteArray} {pos:Nat} (h:Du w g s pos) (hb:Below B w w') (hg:g<B):Du w' g s pos:=(hb.block g hg).trans h
theorem Fw {w:World} {g B:Nat} {s:ByteArray} (pos':Nat) (hB:B≤g):Below B w (setIter w g s pos'):=
 ⟨rfl,rfl,rfl,by simp [setIter],fun k hk=>by simp only [setIter];rw [Array.getElem?_setIfInBounds_ne (by omega)]⟩
theorem Ro (w:World) (s:ByteArray) (pos:Nat):Below w.heap.size w (w.iter s pos):=(Below.refl _ _).alloc (Nat.le_refl _) _
theorem bH {P:Program} {w:World} {g:Nat} {s:ByteArray} {pos:Nat} (h:Du w g s pos) (hlt:pos<s.size) (ty:TypeId):
 (Instr.next (.pointer (some ⟨g,0,none⟩)) true ty).run P w= .ok (.tuple #[.bool true,.int .i64 pos,.int .i32 (Utf8.decode s pos).1]) (setIter w g s (pos+(Utf8.decode s pos).2)):=by
 unfold Du at h
 simp only [Instr.next,getObj,setObj,Sem.run_bind,Sem.run,h,Result.andThen,hlt,if_true]
 simp [goInt,setIter]
theorem XJ {P:Program} {w:World} {g:Nat} {s:ByteArray} {pos:Nat} (h:Du w g s pos) (hge: ¬pos<s.size) (ty:TypeId):
 (Instr.next (.pointer (some ⟨g,0,none⟩)) true ty).run P w= .ok (.tuple #[.bool false]) w:=by
 unfold Du at h
 simp [Instr.next,getObj,Sem.run,h,hge]
def Oj (w:World) (g:Nat):Nat:=match w.heap[g]? with | some (.stringIter _ p)=>p | _=>0
theorem Du.pos {w:World} {g:Nat} {s:ByteArray} {pos:Nat} (h:Du w g s pos):Oj w g=pos:=by
 unfold Du at h
 simp [Oj,h]
theorem byte_at (s:ByteArray) (k:Nat) (h:k<s.size):s[k]=s.data.toList[k]?.getD 0:=by
 have:k<s.data.toList.length:=by simpa using h
 rw [List.getElem?_eq_getElem this]
 rfl
theorem Rp (s:ByteArray) (k:Nat) (h:k<s.size) (hc:(s.data.toList[k]?.getD 0).toNat<128):Utf8.decode s k=((s.data.toList[k]?.getD 0).toNat,1):=by
 rw [←byte_at s k h] at hc⊢
 exact decode_ascii s k h hc
theorem Ul (s:ByteArray) (k:Nat) (h:k<s.size) (hc: ¬(s.data.toList[k]?.getD 0).toNat<128):128≤(Utf8.decode s k).1∧1≤(Utf8.decode s k).2:=by
 rw [←byte_at s k h] at hc
 exact decode_high s k h (by omega)
def M9 (c:Nat):Bool:=c==119||c==108
def UG (c:UInt8):Bool:=M9 c.toNat
def Fz (gd:Nat→UInt8→Bool):Nat→List UInt8→Bool
 | _,[]=>true
 | i,c::r=>UG c&&(gd i c&&Fz gd (i+1) r)
theorem K8 (gd:Nat→UInt8→Bool) (i:Nat) (c:UInt8) (r:List UInt8):Fz gd i (c::r)=(UG c&&(gd i c&&Fz gd (i+1) r)):=rfl
theorem j3 (c:Nat) (h: ¬c<128):M9 c=false:=by
 unfold M9
 simp
 omega
def Nh (m:Nat) (l:List UInt8):Bool:=decide (l.length≤m)&&l.all UG
theorem Rq: ∀(i:Nat) (l:List UInt8),Fz (fun _ _=>true) i l=l.all UG
 | _,[]=>rfl
 | i,c::r=>by rw [K8,Rq (i+1) r];simp
def Dr (v c:Nat):Bool:=c==108||(c==119&&decide (v<4294967296))
def Rs (v:Nat) (c:UInt8):Bool:=Dr v c.toNat
def EY:List Nat→List UInt8→Bool
 | [],[]=>true
 | v::vs,c::cs=>Rs v c&&EY vs cs
 | _,_=>false
theorem ZJ (v:Nat) (c:UInt8) (h:Rs v c=true):UG c=true:=by
 unfold Rs Dr at h
 unfold UG M9
 simp at h⊢
 omega
theorem Um (j4:List Nat): ∀(k:Nat) (l:List UInt8),j4.length=k+l.length→Fz (fun i c=>Rs (j4[i]?.getD 0) c) k l=EY (j4.drop k) l
 | k,[],h=>by
  rw [List.drop_of_length_le (by simp at h;omega)]
  rfl
 | k,c::r,h=>by
  have hk:k<j4.length:=by simp at h;omega
  rw [K8,Um j4 (k+1) r (by simp at h;omega),List.drop_eq_getElem_cons hk,List.getElem?_eq_getElem hk]
  show(UG c&&(Rs j4[k] c&&EY (j4.drop (k+1)) r))=(Rs j4[k] c&&EY (j4.drop (k+1)) r)
  cases hf:Rs j4[k] c with
  | false=>simp
  | true=>rw [ZJ _ _ hf];simp
theorem L_: ∀(vs:List Nat) (l:List UInt8),EY vs l=true→vs.length=l.length
 | [],[],_=>rfl
 | v::vs,c::cs,h=>by
  simp only [EY,Bool.and_eq_true] at h
  simp [L_ vs cs h.2]
 | [],c::cs,h=>by simp [EY] at h
 | v::vs,[],h=>by simp [EY] at h
theorem bI (vs:List Nat) (l:List UInt8) (h:vs.length≠l.length):EY vs l=false:=by
 cases hb:EY vs l with
 | false=>rfl
 | true=>exact absurd (L_ vs l hb) h
def uv (v:Nat):Go.Value:= .int .u64 (v:Int)
theorem Row.word {w:Go.World} {B:Nat} {A:Option Go.Addr} {l:List Nat} (h:Row w B A (l.map uv)) {j:Nat} (hj:j<l.length):
 ∃b o,A=some ⟨b,o,none⟩∧b<B∧w.cell? ⟨b,o+j,none⟩=some (.int .u64 ((l[j]?.getD 0:Nat):Int)):=by
 refine h.at ?_
 rw [List.getElem?_map,List.getElem?_eq_getElem hj]
 rfl
section
open Go.ChangeShapes Go.WideShapes Go.RowKit
section
variable {H:Type} {enc:TypeId×Value→H} {P:Program} {w:World} {base:Nat} {spare:Nat→Bool} {held:Bool}
theorem zS {n:Int} (h:(Lit.int .i64 n).wf=true): -9223372036854775808≤n∧n<9223372036854775808:=by
 simp only [Lit.wf,Bool.and_eq_true,decide_eq_true_eq] at h
 have hmin:IntKind.i64.min= -9223372036854775808:=rfl
 have hmax:IntKind.i64.max=9223372036854775807:=rfl
 omega
theorem j5 {n:Int} (h:(Lit.int .u64 n).wf=true):0≤n∧n<18446744073709551616:=by
 simp only [Lit.wf,Bool.and_eq_true,decide_eq_true_eq] at h
 have hmin:IntKind.u64.min=0:=rfl
 have hmax:IntKind.u64.max=18446744073709551615:=rfl
 omega
theorem ACm {n:Int} (h:(Lit.int .u8 n).wf=true):0≤n∧n<256:=by
 simp only [Lit.wf,Bool.and_eq_true,decide_eq_true_eq] at h
 have hmin:IntKind.u8.min=0:=rfl
 have hmax:IntKind.u8.max=255:=rfl
 omega
end
end
section
structure Rd (α:Type) where
 z:Nat
 R:World→Nat→Nat→List Value→α→Prop
 len: ∀ {W:World} {lo hi:Nat} {cs:List Value} {x:α},R W lo hi cs x→cs.length=z
 keep: ∀ {W W':World} {lo hi:Nat} {cs:List Value} {x:α},(∀p:Addr,lo≤p.block→p.block<hi→W'.cell? p=W.cell? p)→R W lo hi cs x→R W' lo hi cs x
 more: ∀ {W:World} {lo hi lo' hi':Nat} {cs:List Value} {x:α},lo'≤lo→hi≤hi'→R W lo hi cs x→R W lo' hi' cs x
namespace Rd
variable {α β γ:Type}
def at_ (r:Rd α) (W:World) (lo hi b o:Nat) (x:α):Prop:= ∃cs,(∀(j:Nat) u,cs[j]?=some u→W.cell? ⟨b,o+j,none⟩=some u)∧r.R W lo hi cs x
theorem at_.keep {r:Rd α} {W W':World} {lo hi b o:Nat} {x:α} (hb:lo≤b∧b<hi) (hk: ∀p:Addr,lo≤p.block→p.block<hi→W'.cell? p=W.cell? p) (h:r.at_ W lo hi b o x):r.at_ W' lo hi b o x:=by
 obtain⟨cs,hc,hr⟩:=h
 exact⟨cs,fun j u hu=>(hk _ hb.1 hb.2).trans (hc j u hu),r.keep hk hr⟩
theorem at_.more {r:Rd α} {W:World} {lo hi lo' hi' b o:Nat} {x:α} (h1:lo'≤lo) (h2:hi≤hi') (h:r.at_ W lo hi b o x):r.at_ W lo' hi' b o x:=by
 obtain⟨cs,hc,hr⟩:=h
 exact⟨cs,hc,r.more h1 h2 hr⟩
def one (f:α→Value) (ok:α→Prop):Rd α where
 z:=1
 R _ _ _ cs x:=cs= [f x]∧ok x
 len h:=by rw [h.1];rfl
 keep _ h:=h
 more _ _ h:=h
def XK (n:Nat):Prop:=n<18446744073709551616
def G8 (n:Int):Prop:= -9223372036854775808≤n∧n<9223372036854775808
def B8 (n:Int):Prop:= -128≤n∧n<128
def Pq (s:ByteArray):Prop:=s.size≤140737488351232
def u64:Rd Nat:=one uv XK
def i64:Rd Int:=one (Value.int .i64) G8
def i8:Rd Int:=one (Value.int .i8) B8
def u8:Rd UInt8:=one bv fun _=>True
def bool:Rd Bool:=one Value.bool fun _=>True
def str:Rd ByteArray:=one Value.string Pq
def sl (sp:Bool) (r:Rd α):Rd (List α) where
 z:=1
 R W lo hi cs xs:= ∃A c,cs= [.slice A xs.length c]∧((sp=true→ ∀a,A=some a→a.spot=none)∧xs.length≤c)∧(0<xs.length→ ∃b o,A=some ⟨b,o,none⟩∧lo≤b∧b<hi∧ ∀(k:Nat) x,xs[k]?=some x→r.at_ W lo hi b (o+k*r.z) x)
 len h:=by obtain⟨A,c,rfl,_⟩:=h;rfl
 keep hk h:=by
  obtain⟨A,c,rfl,hs,h⟩:=h
  refine⟨A,c,rfl,hs,fun hn=> ?_⟩
  obtain⟨b,o,e,h1,h2,hx⟩:=h hn
  exact⟨b,o,e,h1,h2,fun k x hkx=>(hx k x hkx).keep ⟨h1,h2⟩ hk⟩
 more h1 h2 h:=by
  obtain⟨A,c,rfl,hs,h⟩:=h
  refine⟨A,c,rfl,hs,fun hn=> ?_⟩
  obtain⟨b,o,e,h3,h4,hx⟩:=h hn
  exact⟨b,o,e,by omega,by omega,fun k x hkx=>(hx k x hkx).more h1 h2⟩
def pair (r:Rd α) (s:Rd β):Rd (α×β) where
 z:=r.z+s.z
 R W lo hi cs x:= ∃c1 c2,cs=c1++c2∧r.R W lo hi c1 x.1∧s.R W lo hi c2 x.2
 len h:=by obtain⟨c1,c2,rfl,h1,h2⟩:=h;rw [List.length_append,r.len h1,s.len h2]
 keep hk h:=by obtain⟨c1,c2,e,h1,h2⟩:=h;exact⟨c1,c2,e,r.keep hk h1,s.keep hk h2⟩
 more h1 h2 h:=by obtain⟨c1,c2,e,h3,h4⟩:=h;exact⟨c1,c2,e,r.more h1 h2 h3,s.more h1 h2 h4⟩
def unit:Rd Unit where
 z:=0
 R _ _ _ cs _:=cs= []
 len h:=by rw [h];rfl
 keep _ h:=h
 more _ _ h:=h
def via (r:Rd α) (f:β→α):Rd β where
 z:=r.z
 R W lo hi cs x:=r.R W lo hi cs (f x)
 len h:=r.len h
 keep hk h:=r.keep hk h
 more h1 h2 h:=r.more h1 h2 h
variable {r:Rd α} {W W':World} {lo hi:Nat} {cs:List Value} {x:α}
theorem below (h:r.R W lo hi cs x) {B:Nat} (hb:Below B W W') (hB:hi≤B):r.R W' lo hi cs x:=
 r.keep (fun p _ h2=>hb.cell (Nat.lt_of_lt_of_le h2 hB)) h
theorem grown (h:r.R W lo hi cs x) {row:Option Nat} (hg:W.grownBy W' row) (hB:hi≤W.heap.size) (hr: ∀k,row=some k→k<lo∨hi≤k):r.R W' lo hi cs x:=
 r.keep (fun p h1 h2=>by
  have hb:=hg.block p.block (by omega) (fun e=>by have:=hr _ e.symm;omega)
  simp [World.cell?,hb]) h
theorem GV {sp:Bool} {f:α→Value} {ok:α→Prop} {A:Option Addr} {n c:Nat} {xs:List α} (h:(sl sp (one f ok)).R W lo hi [.slice A n c] xs):n=xs.length∧Row W hi A (xs.map f):=by
 obtain⟨A',c',he,_,h⟩:=h
 injection he with he _
 injection he with h1 h2 h3
 subst h1 h2
 refine⟨rfl,fun hn=> ?_⟩
 rw [List.length_map] at hn
 obtain⟨b,o,e,_,hlt,hx⟩:=h hn
 refine⟨b,o,e,hlt,fun j u hu=> ?_⟩
 rw [List.getElem?_map] at hu
 cases hxj:xs[j]? with
 | none=>rw [hxj] at hu;cases hu
 | some y=>
  rw [hxj] at hu
  obtain⟨cs,hc,hcs,_⟩:=hx j y hxj
  subst hcs
  have:=hc 0 (f y) rfl
  rw [show(one f ok).z=1 from rfl,Nat.mul_one,Nat.add_zero] at this
  rw [this]
  simpa using hu
theorem Hw {sp:Bool} {f:α→Value} {ok:α→Prop} {A:Option Addr} {n c:Nat} {xs:List α} (h:(sl sp (one f ok)).R W lo hi [.slice A n c] xs): ∀x∈xs,ok x:=by
 obtain⟨A',c',he,_,h⟩:=h
 intro x hx
 obtain⟨k,hk,rfl⟩:=List.getElem_of_mem hx
 obtain⟨b,o,e,_,hlt,hx⟩:=h (by omega)
 obtain⟨cs,hc,hcs,hok⟩:=hx k _ (List.getElem?_eq_getElem hk)
 exact hok
end Rd
theorem Row.j6 {W:World} {base:Nat} {e:TypeId} {A:Option Addr} {n c m size:Nat} {xs:List Value} (h:W.ownsRow base e size (.slice A n c) m xs): ∀a,A=some a→a.spot=none:=by
 rintro a rfl
 rcases h.2 with⟨hv,_⟩ | ⟨g,cap,cur,hv,_⟩
 ·injection hv with h1;cases h1
 ·injection hv with h1;injection h1 with h1;rw [h1]
theorem Row.few {W:World} {base:Nat} {e:TypeId} {A:Option Addr} {n c size:Nat} {xs:List Value} (h:W.ownsRow base e size (.slice A n c) n xs):n≤c:=by
 rcases h.2 with⟨hv,h0⟩ | ⟨g,cap,cur,hv,_,_,hle,_⟩
 ·injection hv with h1 h2 h3;omega
 ·injection hv with h1 h2 h3;omega
theorem Rd.own {α:Type} (sp:Bool) {r:Rd α} {W:World} {base:Nat} {e:TypeId} {A:Option Addr} {n c:Nat} {vs:List Value} {xs:List α} (h:W.ownsRow base e r.z (.slice A n c) n vs) (hn:n=xs.length)
 (hx: ∀(k:Nat) x,xs[k]?=some x→r.R W base W.heap.size ((vs.drop (k*r.z)).take r.z) x):(r.sl sp).R W base W.heap.size [.slice A n c] xs:=by
 subst hn
 refine⟨A,c,rfl,⟨fun _=>Row.j6 h,Row.few h⟩,fun hn=> ?_⟩
 rcases h.2 with⟨_,h0⟩ | ⟨g,cap,cur,hv,hb,hg,_⟩
 ·omega
 ·have hA:A=some ⟨g,0,none⟩:=by injection hv
  subst hA
  refine⟨g,0,rfl,hb,(Array.getElem?_eq_some_iff.1 hg).1,fun k x hk=>⟨_,fun j u hu=> ?_,hx k x hk⟩⟩
  rw [List.getElem?_take] at hu
  split at hu
  ·rw [List.getElem?_drop] at hu
   have:=h.cells (g:=g) rfl (k*r.z+j) u hu
   rw [Addr.add_lit] at this
   simpa [Nat.add_assoc] using this
  ·cases hu
section
variable {α β:Type}
def Opens (P:Program) (t:TypeId) (r:Rd α) (ok:α→Prop):Prop:=P.cellsOf t=r.z∧
 ∀ {H:Type} {enc:TypeId×Value→H} {W:World} {base:Nat} {spare:Nat→Bool} {held:Bool} {n:Nat} {cs:List Value} {x:DataW H×List MemPlace},
  DataW.trod enc P W base spare held n t cs=some x→(∀m∈x.1.weights P t,m≤140737488351232)→ ∃y,r.R W 0 W.heap.size cs y∧ok y
theorem M_ {P:Program} {t:TypeId} {k:IntKind} (ht:P.underlying t=some (.int k)) (hc:P.cellsOf t=1) {f:α→Value} {ok:α→Prop} (hf: ∀n:Int,(Lit.int k n).wf=true→ ∃x,f x= .int k n∧ok x):Opens P t (Rd.one f ok) ok:=by
 refine⟨hc,fun h _=> ?_⟩
 obtain⟨n,rfl,_,hw⟩:=DataW.trod_int ht h
 obtain⟨x,hx,hok⟩:=hf n hw
 exact⟨x,⟨by rw [hx],hok⟩,hok⟩
theorem eX {P:Program} {t:TypeId} (ht:P.underlying t=some (.int .u64)) (hc:P.cellsOf t=1):Opens P t Rd.u64 Rd.XK:=
 M_ ht hc fun n hn=>⟨n.toNat,by have:=j5 hn;unfold uv;rw [Int.toNat_of_nonneg this.1],by have:=j5 hn;unfold Rd.XK;omega⟩
theorem Un {P:Program} {t:TypeId} (ht:P.underlying t=some (.int .i64)) (hc:P.cellsOf t=1):Opens P t Rd.i64 Rd.G8:=
 M_ ht hc fun n hn=>⟨n,rfl,zS hn⟩
theorem j_ {P:Program} {t:TypeId} (ht:P.underlying t=some (.int .i8)) (hc:P.cellsOf t=1):Opens P t Rd.i8 Rd.B8:=
 M_ ht hc fun n hn=>⟨n,rfl,by
  simp only [Lit.wf,Bool.and_eq_true,decide_eq_true_eq] at hn
  have hmin:IntKind.i8.min= -128:=rfl
  have hmax:IntKind.i8.max=127:=rfl
  unfold Rd.B8
  omega⟩
theorem kC {P:Program} {t:TypeId} (ht:P.underlying t=some (.int .u8)) (hc:P.cellsOf t=1):Opens P t Rd.u8 (fun _=>True):=
 M_ ht hc fun n hn=>⟨UInt8.ofNat n.toNat,by
  have:=ACm hn
  unfold bv
  rw [UInt8.toNat_ofNat_of_lt' (by simp only [UInt8.size];omega),Int.toNat_of_nonneg this.1],trivial⟩
theorem ZK {P:Program} {t:TypeId} (ht:P.underlying t=some .bool) (hc:P.cellsOf t=1):Opens P t Rd.bool (fun _=>True):=by
 refine⟨hc,fun h _=> ?_⟩
 obtain⟨b,rfl,_⟩:=DataW.trod_bool ht h
 exact⟨b,⟨rfl,trivial⟩,trivial⟩
theorem eY {P:Program} {t:TypeId} (ht:P.underlying t=some .string) (hc:P.cellsOf t=1):Opens P t Rd.str Rd.Pq:=by
 refine⟨hc,fun h hw=> ?_⟩
 obtain⟨s,rfl,rfl,_⟩:=DataW.trod_string ht h
 have:=hw s.data.toList.length (by simp [DataW.weights])
 exact⟨s,⟨rfl,by simpa [Rd.Pq] using this⟩,by simpa [Rd.Pq] using this⟩
theorem MB {H:Type} {P:Program} {e:TypeId}: ∀ {xs:List (DataW H)} {d:DataW H},d∈xs→ ∀m∈d.weights P e,m∈DataW.weightsAll P e xs
 | x::xs,d,h,m,hm=>by
  rw [DataW.weightsAll,List.mem_append]
  rcases List.mem_cons.1 h with rfl | h
  ·exact .inl hm
  ·exact .inr (MB h m hm)
theorem kD {P:Program} {t e:TypeId} {r:Rd α} {ok:α→Prop} (ht:P.underlying t=some (.slice e)) (hc:P.cellsOf t=1) (he:Opens P e r ok) {XL:Nat} (hby:P.bytesOf e=XL) (hz:0<P.cellsOf e):
 Opens P t (r.sl false) (fun xs=>xs.length*XL≤140737488351232∧ ∀x∈xs,ok x):=by
 refine⟨hc,?_⟩
 intro H enc W base spare held n cs x h hw
 rcases DataW.trod_slice ht h with⟨rfl,rfl⟩ | ⟨a,len,cap,elems,rest,m,rfl,rfl,rfl,_,hlc,hcm,hel,hget,_⟩
 ·exact⟨[],⟨none,0,rfl,⟨fun h=>(by cases h),Nat.le_refl _⟩,fun h=>absurd h (by simp)⟩,by simp,by simp⟩
 ·have key: ∀(k:Nat),k<len→ ∃y:α,ok y∧ ∃cs:List Value,W.cells? base (a.add (k*P.cellsOf e)) (P.cellsOf e)=some cs∧r.R W 0 W.heap.size cs y:=by
   intro k hk
   have hg:=hget k hk
   have hkl:k<elems.length:=by omega
   rw [List.getElem?_eq_getElem hkl] at hg
   obtain⟨cs,hcs,htr⟩:=Option.bind_eq_some_iff.1 hg
   obtain⟨y,hy,hok⟩:=he.2 htr (fun q hq=>hw q (by
    simp only [DataW.weights,ht,List.mem_cons,List.mem_append]
    exact .inr (.inl (MB (List.mem_map_of_mem (List.getElem_mem hkl)) q hq))))
   exact⟨y,hok,cs,hcs,hy⟩
  have hlist: ∀m:Nat,m≤len→ ∃xs:List α,xs.length=m∧ ∀(k:Nat) y,xs[k]?=some y→ok y∧ ∃cs:List Value,W.cells? base (a.add (k*P.cellsOf e)) (P.cellsOf e)=some cs∧r.R W 0 W.heap.size cs y:=by
   intro m
   induction m with
   | zero=>exact fun _=>⟨[],rfl,by simp⟩
   | succ m ih=>
    intro hm
    obtain⟨xs,hl,hx⟩:=ih (by omega)
    obtain⟨y,hok,cs,hcs,hy⟩:=key m (by omega)
    refine⟨xs++ [y],by simp [hl],fun k u hu=> ?_⟩
    rw [List.getElem?_append] at hu
    split at hu
    ·exact hx k u hu
    ·rename_i hge
     have hk:k=m:=by
      have:=(List.getElem?_eq_some_iff.1 hu).1
      simp at this;omega
     subst hk
     rw [hl,Nat.sub_self] at hu
     simp at hu
     subst hu
     exact⟨hok,cs,hcs,hy⟩
  obtain⟨xs,hl,hx⟩:=hlist len (Nat.le_refl _)
  have hlen:len*XL≤140737488351232:=by
   have:=hw _ (by simp only [DataW.weights,ht];exact List.mem_cons_self ..)
   rw [hby,List.length_map,List.length_map,hel] at this
   exact Nat.le_trans (Nat.mul_le_mul_right _ (by omega)) this
  subst hl
  refine⟨xs,⟨some a,cap,rfl,⟨(fun h=>by cases h),by omega⟩,fun hn=> ?_⟩,hlen,fun y hy=> ?_⟩
  ·obtain⟨_,cs0,ACn,_⟩:=hx 0 _ (List.getElem?_eq_getElem hn)
   have hb:=World.cells?_block ACn hz
   obtain⟨_,hl0,hg0⟩:=World.cells?_some ACn
   have h0:=hg0 0 hz
   rw [List.getElem?_eq_getElem (by omega)] at h0
   have hs0:=World.cell?_spot h0
   obtain⟨b,o,spot⟩:=a
   have hspot:spot=none:=by simpa [Addr.add] using hs0
   subst hspot
   have hbl:b<W.heap.size:=by simpa [Addr.add] using hb
   refine⟨b,o,rfl,Nat.zero_le _,hbl,fun k x hk=> ?_⟩
   obtain⟨_,cs,hcs,hr⟩:=hx k x hk
   obtain⟨_,hl1,hg1⟩:=World.cells?_some hcs
   refine⟨cs,fun j u hu=> ?_,hr⟩
   have hj:=(List.getElem?_eq_some_iff.1 hu).1
   have:=hg1 j (by omega)
   rw [Addr.add_lit,Addr.add_lit,he.1,hu] at this
   rw [←this]
  ·obtain⟨k,hk,rfl⟩:=List.getElem_of_mem hy
   exact(hx k _ (List.getElem?_eq_getElem hk)).1
structure Ve (P:Program) (fs:List Field) (off:Nat) (r:Rd α) (ok:α→Prop):Prop where
 out: ∀ {H:Type} {enc:TypeId×Value→H} {W:World} {base:Nat} {spare:Nat→Bool} {held:Bool} {n:Nat} {cs:List Value} {xs:List (DataW H×List MemPlace)},
  cs.length=off+r.z→fs.map (fun f=>DataW.trod enc P W base spare held n f.type ((cs.drop f.offset).take (P.cellsOf f.type)))=xs.map some→
  (∀m∈DataW.weightsEach P (fs.map (·.type)) (xs.map (·.1)),m≤140737488351232)→ ∃y,r.R W 0 W.heap.size (cs.drop off) y∧ok y
theorem EZ {P:Program} {off:Nat}:Ve P [] off Rd.unit (fun _=>True):=by
 constructor
 intro H enc W base spare held n cs xs hl _ _
 exact⟨(),by show cs.drop off= [];exact List.drop_eq_nil_of_le (by rw [hl];exact Nat.le_refl _),trivial⟩
theorem Ag {P:Program} {f:Field} {fs:List Field} {off:Nat} {r:Rd α} {s:Rd β} {ok:α→Prop} {ok2:β→Prop} (hf:f.offset=off) (h1:Opens P f.type r ok) (h2:Ve P fs (off+r.z) s ok2):
 Ve P (f::fs) off (r.pair s) (fun x=>ok x.1∧ok2 x.2):=by
 constructor
 intro H enc W base spare held n cs xs hl hx hw
 cases xs with
 | nil=>cases hx
 | cons x xs=>
  simp only [List.map_cons,List.cons.injEq] at hx
  obtain⟨hx,hxs⟩:=hx
  simp only [List.map_cons,DataW.weightsEach,List.mem_append] at hw
  have hlen:cs.length=off+(r.z+s.z):=hl
  obtain⟨y,hy,hok⟩:=h1.2 hx (fun m hm=>hw m (.inl hm))
  obtain⟨y2,hy2,hok2⟩:=h2.out (cs:=cs) (by rw [hlen,Nat.add_assoc]) hxs (fun m hm=>hw m (.inr hm))
  refine⟨(y,y2),⟨_,_,?_,hy,hy2⟩,hok,hok2⟩
  rw [hf,h1.1,←List.drop_drop,List.take_append_drop]
theorem Dh {P:Program} {t:TypeId} {fs:Array Field} {r:Rd α} {ok:α→Prop} (ht:P.underlying t=some (.struct fs)) (hc:P.cellsOf t=r.z) (h:Ve P fs.toList 0 r ok):Opens P t r ok:=by
 refine⟨hc,?_⟩
 intro H enc W base spare held n cs x hx hw
 obtain⟨xs,m,rfl,rfl,hl,hlen,hf⟩:=DataW.trod_struct ht hx
 obtain⟨y,hy,hok⟩:=h.out (enc:=enc) (W:=W) (base:=base) (spare:=spare) (held:=held) (n:=m) (cs:=cs) (xs:=xs) (by rw [hl,hc,Nat.zero_add]) (by
  refine List.ext_getElem? fun i=> ?_
  rw [List.getElem?_map,List.getElem?_map]
  cases hi:fs.toList[i]? with
  | none=>
   have hge:fs.size≤i:=by simpa using List.getElem?_eq_none_iff.1 hi
   rw [List.getElem?_eq_none (by omega)];rfl
  | some f=>
   have hfi:fs[i]?=some f:=by simpa using hi
   have hlt:i<xs.length:=by rw [hlen];exact(Array.getElem?_eq_some_iff.1 hfi).1
   have:=hf i f hfi
   rw [List.getElem?_eq_getElem hlt] at this⊢
   simpa using this) (by
  intro q hq
  apply hw q
  simp only [DataW.weights,ht]
  exact hq)
 exact⟨y,by simpa using hy,hok⟩
theorem FU {P:Program} {t:TypeId} {r:Rd α} {ok:α→Prop} (h:Opens P t r ok) (f:β→α) (g:α→β) (hfg: ∀a,f (g a)=a):Opens P t (r.via f) (fun b=>ok (f b)):=by
 refine⟨h.1,fun hx hw=> ?_⟩
 obtain⟨y,hy,hok⟩:=h.2 hx hw
 exact⟨g y,by show r.R _ _ _ _ (f (g y));rw [hfg];exact hy,by show ok (f (g y));rw [hfg];exact hok⟩
theorem Uo {P:Program} {t:TypeId} {r:Rd α} {ok:α→Prop} (h:Opens P t r ok) {H:Type} {enc:TypeId×Value→H} {W:World} {base:Nat} {spare:Nat→Bool} {held:Bool} {v:Value} {d:DataW H} {p:List MemPlace}
 (hv:DataW.Trod enc P W base spare held t v d p) {ts:List TypeId} {ds:List (DataW H)} {j:Nat} (hs:(DataW.weightsEach P ts ds).all (· ≤reachBytes)=true) (ht:ts[j]?=some t) (hd:ds[j]?=some d):
 ∃y,r.R W 0 W.heap.size v.cells.toList y∧ok y:=by
 obtain⟨n,hv⟩:=hv
 refine h.2 hv fun m hm=> ?_
 have:=List.all_eq_true.1 hs m (DataW.weights_mem_each ht hd m hm)
 exact of_decide_eq_true this
end
end
end Go.Proofs.YtlagonfamllgjaaGreatDoor
