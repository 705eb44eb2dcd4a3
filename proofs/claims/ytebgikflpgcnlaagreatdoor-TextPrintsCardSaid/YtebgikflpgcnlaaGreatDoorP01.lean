/- Part 1 of the proof: Base Mem Iter ShapeP StrP Lists -/
import Derived.WalkKit
import Derived.Laws.BitsAllLaws
import Derived.Lib.Hide
import Derived.Below
import Derived.OwnWalk
import Derived.Laws.OwnMore
import Derived.Laws.BytesArg
import Derived.Laws.MakeOwn
import Derived.Laws.NewBlocks
import Derived.Deep.Draws
import Derived.OrdersHeld
import Derived.Laws.RangeAny
import Derived.Laws.Strings
namespace Go.Proofs.YtebgikflpgcnlaaGreatDoor
set_option linter.unusedVariables false
set_option linter.unusedSimpArgs false
set_option maxRecDepth 100000
set_option maxHeartbeats 4000000
open Go.RowKit
def Row (w:World) (B:Nat) (A:Option Addr) (xs:List Value):Prop:=
 0<xs.length→ ∃b o,A=some ⟨b,o,none⟩∧b<B∧ ∀j u,xs[j]?=some u→w.cell? ⟨b,o+j,none⟩=some u
theorem Row.nil (w:World) (B:Nat) (A:Option Addr):Row w B A []:=fun h=>absurd h (by simp)
theorem Row.more {w:World} {B B':Nat} {A:Option Addr} {xs:List Value} (h:Row w B A xs) (hb:B≤B'):Row w B' A xs:=fun hn=>
 let ⟨b,o,e,hlt,hc⟩:=h hn
 ⟨b,o,e,Nat.lt_of_lt_of_le hlt hb,hc⟩
theorem Row.keep {w w':World} {B:Nat} {A:Option Addr} {xs:List Value} (h:Row w B A xs) (hk: ∀p:Addr,p.block<B→w'.cell? p=w.cell? p):Row w' B A xs:=fun hn=>
 let ⟨b,o,e,hlt,hc⟩:=h hn
 ⟨b,o,e,hlt,fun j u hu=>(hk _ hlt).trans (hc j u hu)⟩
theorem Row.below {w w':World} {B:Nat} {A:Option Addr} {xs:List Value} (h:Row w B A xs) (hb:Below B w w'):Row w' B A xs:=
 h.keep fun _ hp=>hb.cell hp
theorem Row.below' {w w':World} {B B':Nat} {A:Option Addr} {xs:List Value} (h:Row w B A xs) (hb:Below B' w w') (hB:B≤B'):Row w' B A xs:=
 h.keep fun _ hp=>hb.cell (Nat.lt_of_lt_of_le hp hB)
theorem Row.at {w:World} {B:Nat} {A:Option Addr} {xs:List Value} (h:Row w B A xs) {j:Nat} {u:Value} (hu:xs[j]?=some u):
 ∃b o,A=some ⟨b,o,none⟩∧b<B∧w.cell? ⟨b,o+j,none⟩=some u:=by
 have hj:j<xs.length:=(List.getElem?_eq_some_iff.1 hu).1
 obtain⟨b,o,e,hlt,hc⟩:=h (by omega)
 exact⟨b,o,e,hlt,hc j u hu⟩
theorem Row.cut {w:World} {B:Nat} {A:Option Addr} {xs:List Value} (h:Row w B A xs) (n:Nat):Row w B A (xs.take n):=fun hn=>by
 rw [List.length_take] at hn
 obtain⟨b,o,e,hlt,hc⟩:=h (by omega)
 refine⟨b,o,e,hlt,fun j u hu=>hc j u ?_⟩
 rw [List.getElem?_take] at hu
 split at hu
 ·exact hu
 ·cases hu
theorem Row.own {w:World} {base:Nat} {e:TypeId} {A:Option Addr} {n c:Nat} {xs:List Value} (h:w.ownsRow base e 1 (.slice A n c) n xs):Row w w.heap.size A xs:=by
 intro hn
 rcases h.2 with⟨_,h0⟩ | ⟨g,cap,cur,hv,_,hg,_,_,_,_⟩
 ·have:=h.1;subst h0;simp at this;subst this;simp at hn
 ·have hA:A=some ⟨g,0,none⟩:=by injection hv
  subst hA
  refine⟨g,0,rfl,(Array.getElem?_eq_some_iff.1 hg).1,fun j u hu=> ?_⟩
  have:=h.cells (g:=g) rfl j u hu
  rw [Addr.add_lit] at this
  exact this
def bv (c:UInt8):Value:= .int .u8 (c.toNat:Int)
theorem Row.byte {w:World} {B:Nat} {A:Option Addr} {l:List UInt8} (h:Row w B A (l.map bv)) {j:Nat} (hj:j<l.length):
 ∃b o,A=some ⟨b,o,none⟩∧b<B∧w.cell? ⟨b,o+j,none⟩=some (.int .u8 ((l[j]?.getD 0).toNat:Int)):=by
 refine h.at ?_
 rw [List.getElem?_map,List.getElem?_eq_getElem hj]
 rfl
theorem Row.drop {w:World} {B:Nat} {A:Option Addr} {xs:List Value} (h:Row w B A xs) (k:Nat):Row w B (A.map (·.add k)) (xs.drop k):=by
 intro hn
 rw [List.length_drop] at hn
 obtain⟨b,o,rfl,hlt,hc⟩:=h (by omega)
 refine⟨b,o+k,by rw [Option.map_some,Addr.add_lit],hlt,fun j u hu=> ?_⟩
 rw [List.getElem?_drop] at hu
 rw [Nat.add_assoc]
 exact hc _ u hu
theorem Ki {P:Program} (src e dst:TypeId) (hs:P.underlying src=some (.slice e)) (he:P.underlying e=some (.int .u8)) (hd:P.underlying dst=some .string)
 (w:World) (B:Nat) (A:Option Addr) (m c:Nat) (sub:List UInt8) (hm:m=sub.length) (h:Row w B A (sub.map bv)):
 (convert src dst (.slice A m c)).run P w= .ok (.string ⟨sub.toArray⟩) w:=by
 rw [run_convert_bytes_string w src dst e A m c hs he hd]
 rcases A with _ | a
 ·have:sub= []:=by
   rcases Nat.eq_zero_or_pos sub.length with h0 | h0
   ·exact List.eq_nil_of_length_eq_zero h0
   ·obtain⟨_,_,h',_⟩:=h (by simpa using h0)
    cases h'
  subst this
  simp [Conv.bytesToString]
  rfl
 ·have hl:(loadCells a m).run P w= .ok ((sub.map fun c=>(c.toNat:Int)).map (Value.int .u8)).toArray w:=by
   have:=run_loadCells_list (P:=P) w a (sub.map bv) (fun j v hj=>by
    have hj':=(List.getElem?_eq_some_iff.1 hj).1
    obtain⟨b,o,h',_,hc⟩:=h (by omega)
    injection h' with h'
    subst h'
    rw [Addr.add_lit]
    exact hc j v hj)
   rw [List.length_map,←hm] at this
   rw [this,List.map_map]
   rfl
  rw [run_bytesToString w a m c _ hl,foldl_push_bytes,List.map_map]
  congr 2
  show ByteArray.mk (#[]++_)=_
  rw [Array.empty_append]
  congr 2
  exact List.map_id'' (fun c=>by simp) sub
theorem ABV (c:Nat) (h:c<256):bits .and .u8 (c:Int) 127=((c%128:Nat):Int):=by
 have:=u8_and_nat c 127 h (by omega)
 rw [show((127:Nat):Int)=127 from rfl] at this
 rw [this,show(127:Nat)=2^7-1 from rfl,Nat.and_two_pow_sub_one_eq_mod]
theorem ABW (x d k:Nat) (hx:x<128^k) (hx64:x<18446744073709551616) (hd:d*128^k<18446744073709551616):
 bits .or .u64 (x:Int) ((d*128^k:Nat):Int)=((x+d*128^k:Nat):Int):=by
 rw [u64_or_nat x _ hx64 hd]
 have e:(128:Nat)^k=2^(7*k):=by rw [Nat.pow_mul]
 rw [e] at hx⊢
 have:=Nat.shiftLeft_add_eq_or_of_lt hx d
 rw [Nat.shiftLeft_eq] at this
 rw [Nat.or_comm,←this,Nat.add_comm]
theorem lF (k:Nat) (hk:k≤9):128^k≤9223372036854775808:=by
 have:=Nat.pow_le_pow_right (show 0<128 by omega) hk
 exact Nat.le_trans this (by decide)
theorem ABX (x c k:Nat) (hk:k≤9) (hx:x<128^k) (h9:k=9→c≤1):x+c%128*128^k<18446744073709551616:=by
 have h9':=lF k hk
 by_cases h:k=9
 ·have:=h9 h;subst h
  have:c%128=0∨c%128=1:=by omega
  rcases this with e | e<;>rw [e]<;>omega
 ·have h8:128^k≤72057594037927936:=by
   have:=Nat.pow_le_pow_right (show 0<128 by omega) (show k≤8 by omega)
   exact Nat.le_trans this (by decide)
  have:c%128*128^k≤127*128^k:=Nat.mul_le_mul_right _ (by omega)
  omega
theorem acc (x c k:Nat) (hk:k≤9) (hc:c<256) (hx:x<128^k) (h9:k=9→c≤1):
 bits .or .u64 (x:Int) (IntKind.u64.wrap (IntKind.u64.wrap (bits .and .u8 (c:Int) 127)*2^(7*k)))=((x+c%128*128^k:Nat):Int):=by
 have hlt:=ABX x c k hk hx h9
 rw [ABV c hc]
 have e1:IntKind.u64.wrap ((c%128:Nat):Int)=((c%128:Nat):Int):=by
  rw [IntKind.wrap_u64];omega
 rw [e1]
 have e2:(((c%128:Nat):Int)*2^(7*k))=((c%128*128^k:Nat):Int):=by
  have e:(128:Nat)^k=2^(7*k):=by rw [Nat.pow_mul]
  rw [e];simp
 rw [e2]
 have e3:IntKind.u64.wrap ((c%128*128^k:Nat):Int)=((c%128*128^k:Nat):Int):=by
  rw [IntKind.wrap_u64];omega
 rw [e3]
 exact ABW x _ k hx (by omega) (by omega)
theorem drop_at (l:List UInt8) (k:Nat) (h:k<l.length):l.drop k=(l[k]?.getD 0)::l.drop (k+1):=by
 rw [List.drop_eq_getElem_cons h,List.getElem?_eq_getElem h];rfl
theorem takeIt {P:Program} {ops:Array Oper} {Q:Exit→Act→World→Prop} {md:Region.Mode} {S:World→Prop} {i:Nat} {oi:Oper} {v:Value} {fuel:Nat} {listed:Array Bool} {a:Act} {w:World} (hi:ops[i]?=some oi) (hq:(Region.noSelect ops&&Region.free md ops listed i&&(Region.ready md ops listed).contains i)=true) (hQ: ∀c a w,Q (.panic c) (a.put oi.dst v) w→Q (.panic c) a w) (hw:Region.wanted oi (yielded ops a.tmps)=true) (hy: ∀w,S w→(execOp a.eval oi).run P w= .ok (.value v) w) (hS:S w)
 (h:wpAnyH P md ops Q S fuel (listed.setIfInBounds i true) (a.put oi.dst v) w):wpAnyH P md ops Q S (fuel+1) listed a w:=by
 simp only [Bool.and_eq_true] at hq
 exact wpAnyH_take hi hq.1.1 hq.1.2 hq.2 hQ (.inl ⟨hw,hy⟩) hS h
theorem AA {p:Prop} (h:p):Hid p:=h
def AV (w:World) (g:Nat) (t:TypeId) (xs:List Value):Prop:=w.heap[g]?=some (.cells xs.toArray t (0,0))
section
variable {w w':World} {g:Nat} {t:TypeId} {xs:List Value}
theorem AV.lt (h:AV w g t xs):g<w.heap.size:=(Array.getElem?_eq_some_iff.1 h).1
theorem AV.cell (h:AV w g t xs) (i:Nat):w.cell? ⟨g,i,none⟩=xs[i]?:=by
 unfold AV at h
 simp [World.cell?,h]
theorem AV.q (h:AV w g t xs) (i:Nat) {v:Value} (e:xs[i]?=some v):w.cell? ⟨g,i,none⟩=some v:=(h.cell i).trans e
theorem AV.frozen (h:AV w g t xs) (i:Nat):w.frozen? ⟨g,i,none⟩=false:=by
 unfold AV at h
 simp [World.frozen?,h]
theorem AV.new (w:World) (t:TypeId) (xs:List Value):AV (w.alloc (.cells xs.toArray t)) w.heap.size t xs:=heap_alloc_new w _
theorem AV.set (h:AV w g t xs) (i:Nat) (u:Value):AV (w.setCell ⟨g,i,none⟩ u) g t (xs.set i u):=by
 unfold AV at h⊢
 simp [World.setCell,Array.getElem?_modify,h]
theorem AV.below {B:Nat} (h:AV w g t xs) (hb:Below B w w') (hg:g<B):AV w' g t xs:=(hb.block g hg).trans h
theorem AV.drewN (h:AV w g t xs) (k:Nat):AV (w.drewN k) g t xs:=h
theorem AV.alloc (h:AV w g t xs) (o:Obj):AV (w.alloc o) g t xs:=(Below.heap_alloc w o g h.lt).trans h
theorem AV.far (h:AV w g t xs) {p:Addr} (hp:g≠p.block) (u:Value):AV (w.setCell p u) g t xs:=(Below.heap_setCell w p u g hp).trans h
theorem AV.row (h:AV w g t xs) (o n:Nat):Row w (g+1) (some ⟨g,o,none⟩) ((xs.drop o).take n):=by
 intro _
 refine⟨g,o,rfl,Nat.lt_succ_self g,fun j u hu=> ?_⟩
 rw [h.cell]
 rw [List.getElem?_take] at hu
 split at hu
 ·rw [List.getElem?_drop] at hu;exact hu
 ·cases hu
end
theorem Row.drewN {w:World} {B:Nat} {A:Option Addr} {xs:List Value} (h:Row w B A xs) (k:Nat):Row (w.drewN k) B A xs:=h
theorem Sg {P:Program} {f:FuncId} {args:Array Value} {w:World} {a x:Nat} {v:Value} (h:Calls P f args (w.drewN (a+x)) fun e w'=>w.drewN (a+x)=w'∧e= .returned v):
 Calls P f args (w.drewN (a+x)) fun e w''=>e= .returned v∧ ∃n,w''=w.drewN (a+n):=h.mono fun _ _ ⟨hw,he⟩=>⟨he,x,hw.symm⟩
theorem Mq {P:Program} {f:FuncId} {args:Array Value} {w:World} {x:Nat} {v:Value} (h:Calls P f args (w.drewN x) fun e w'=>w.drewN x=w'∧e= .returned v):
 Calls P f args (w.drewN x) fun e w''=>e= .returned v∧ ∃n,w''=w.drewN n:=h.mono fun _ _ ⟨hw,he⟩=>⟨he,x,hw.symm⟩
theorem Af {w w':World} (h:Below w.drew.heap.size w.drew w'):Below w.heap.size w w':=⟨h.os,h.tape,h.output,h.size,h.block⟩
theorem below_drewN {B:Nat} {a w:World} (h:Below B a w) (k:Nat):Below B a (w.drewN k):=⟨h.os,h.tape,h.output,h.size,h.block⟩
def qX (i:Nat):Value:= .int .u8 (((282+7*i)%256:Nat):Int)
theorem AB {P:Program} {ops:Array Oper} {Q:Exit→Act→World→Prop} {md:Region.Mode} {S:World→Prop} {i:Nat} {oi:Oper} {v:Value} {fuel:Nat} {listed:Array Bool} {a:Act} {w:World} (hi:ops[i]?=some oi) (hq:(Region.noSelect ops&&Region.free md ops listed i&&(Region.ready md ops listed).contains i&&Region.wanted oi (yielded ops a.tmps))=true) (hQ: ∀c a w,Q (.panic c) (a.put oi.dst v) w→Q (.panic c) a w) (hy: ∀w,S w→(execOp a.eval oi).run P w= .ok (.value v) w) (hS:S w)
 (h:wpAnyH P md ops Q S fuel (listed.setIfInBounds i true) (a.put oi.dst v) w):wpAnyH P md ops Q S (fuel+1) listed a w:=by
 simp only [Bool.and_eq_true] at hq
 exact wpAnyH_take hi hq.1.1.1 hq.1.1.2 hq.1.2 hQ (.inl ⟨hq.2,hy⟩) hS h
theorem AJ {P:Program} {ops:Array Oper} {Q:Exit→Act→World→Prop} {md:Region.Mode} {S:World→Prop} {i:Nat} {oi:Oper} {fuel:Nat} {listed:Array Bool} {a:Act} {w:World} (hi:ops[i]?=some oi) (hq:(Region.noSelect ops&&Region.free md ops listed i&&(Region.ready md ops listed).contains i&& !(Region.wanted oi (yielded ops a.tmps)))=true) (hQ: ∀c a w,Q (.panic c) (a.put oi.dst undef) w→Q (.panic c) a w) (hS:S w)
 (h:wpAnyH P md ops Q S fuel (listed.setIfInBounds i true) (a.put oi.dst undef) w):wpAnyH P md ops Q S (fuel+1) listed a w:=by
 simp only [Bool.and_eq_true,Bool.not_eq_true'] at hq
 exact wpAnyH_take hi hq.1.1.1 hq.1.1.2 hq.1.2 hQ (.inr ⟨hq.2,rfl⟩) hS h

def G9 (w:World) (g:Nat) (s:ByteArray) (pos:Nat):Prop:=w.heap[g]?=some (.stringIter s pos)
def setIter (w:World) (g:Nat) (s:ByteArray) (pos:Nat):World:= {w with heap:=w.heap.setIfInBounds g (.stringIter s pos)}
theorem G9.lt {w:World} {g:Nat} {s:ByteArray} {pos:Nat} (h:G9 w g s pos):g<w.heap.size:=(Array.getElem?_eq_some_iff.1 h).1
theorem G9.new (w:World) (s:ByteArray) (pos:Nat):G9 (w.iter s pos) w.heap.size s pos:=World.iter_heap w s pos
theorem G9.set {w:World} {g:Nat} {s:ByteArray} {pos:Nat} (h:G9 w g s pos) (pos':Nat):G9 (setIter w g s pos') g s pos':=by
 have:=h.lt
 simp [G9,setIter,this]
theorem G9.below {w w':World} {g B:Nat} {s:ByteArray} {pos:Nat} (h:G9 w g s pos) (hb:Below B w w') (hg:g<B):G9 w' g s pos:=(hb.block g hg).trans h
theorem Rj {w:World} {g B:Nat} {s:ByteArray} (pos':Nat) (hB:B≤g):Below B w (setIter w g s pos'):=
 ⟨rfl,rfl,rfl,by simp [setIter],fun k hk=>by simp only [setIter];rw [Array.getElem?_setIfInBounds_ne (by omega)]⟩
theorem fV (w:World) (s:ByteArray) (pos:Nat):Below w.heap.size w (w.iter s pos):=(Below.refl _ _).alloc (Nat.le_refl _) _
theorem xW {P:Program} {w:World} {g:Nat} {s:ByteArray} {pos:Nat} (h:G9 w g s pos) (hlt:pos<s.size) (ty:TypeId):
 (Instr.next (.pointer (some ⟨g,0,none⟩)) true ty).run P w= .ok (.tuple #[.bool true,.int .i64 pos,.int .i32 (Utf8.decode s pos).1]) (setIter w g s (pos+(Utf8.decode s pos).2)):=by
 unfold G9 at h
 simp only [Instr.next,getObj,setObj,Sem.run_bind,Sem.run,h,Result.andThen,hlt,if_true]
 simp [goInt,setIter]
theorem qY {P:Program} {w:World} {g:Nat} {s:ByteArray} {pos:Nat} (h:G9 w g s pos) (hge: ¬pos<s.size) (ty:TypeId):
 (Instr.next (.pointer (some ⟨g,0,none⟩)) true ty).run P w= .ok (.tuple #[.bool false]) w:=by
 unfold G9 at h
 simp [Instr.next,getObj,Sem.run,h,hge]
def Wd (w:World) (g:Nat):Nat:=match w.heap[g]? with | some (.stringIter _ p)=>p | _=>0
theorem G9.pos {w:World} {g:Nat} {s:ByteArray} {pos:Nat} (h:G9 w g s pos):Wd w g=pos:=by
 unfold G9 at h
 simp [Wd,h]
theorem byte_at (s:ByteArray) (k:Nat) (h:k<s.size):s[k]=s.data.toList[k]?.getD 0:=by
 have:k<s.data.toList.length:=by simpa using h
 rw [List.getElem?_eq_getElem this]
 rfl
theorem fZ (s:ByteArray) (k:Nat) (h:k<s.size) (hc:(s.data.toList[k]?.getD 0).toNat<128):Utf8.decode s k=((s.data.toList[k]?.getD 0).toNat,1):=by
 rw [←byte_at s k h] at hc⊢
 exact decode_ascii s k h hc
theorem lG (s:ByteArray) (k:Nat) (h:k<s.size) (hc: ¬(s.data.toList[k]?.getD 0).toNat<128):128≤(Utf8.decode s k).1∧1≤(Utf8.decode s k).2:=by
 rw [←byte_at s k h] at hc
 exact decode_high s k h (by omega)
def Qh (c:Nat):Bool:=c==119||c==108
def Rk (c:UInt8):Bool:=Qh c.toNat
def QV (gd:Nat→UInt8→Bool):Nat→List UInt8→Bool
 | _,[]=>true
 | i,c::r=>Rk c&&(gd i c&&QV gd (i+1) r)
theorem Wh (gd:Nat→UInt8→Bool) (i:Nat) (c:UInt8) (r:List UInt8):QV gd i (c::r)=(Rk c&&(gd i c&&QV gd (i+1) r)):=rfl
theorem ABY (c:Nat) (h: ¬c<128):Qh c=false:=by
 unfold Qh
 simp
 omega
def JK (m:Nat) (l:List UInt8):Bool:=decide (l.length≤m)&&l.all Rk
theorem Wi: ∀(i:Nat) (l:List UInt8),QV (fun _ _=>true) i l=l.all Rk
 | _,[]=>rfl
 | i,c::r=>by rw [Wh,Wi (i+1) r];simp
def JL (v c:Nat):Bool:=c==108||(c==119&&decide (v<4294967296))
def uv (v:Nat):Go.Value:= .int .u64 (v:Int)
theorem Row.word {w:Go.World} {B:Nat} {A:Option Go.Addr} {l:List Nat} (h:Row w B A (l.map uv)) {j:Nat} (hj:j<l.length):
 ∃b o,A=some ⟨b,o,none⟩∧b<B∧w.cell? ⟨b,o+j,none⟩=some (.int .u64 ((l[j]?.getD 0:Nat):Int)):=by
 refine h.at ?_
 rw [List.getElem?_map,List.getElem?_eq_getElem hj]
 rfl
def Sk (s:ByteArray):Bool:=JK 256 s.data.toList
def ends (s t:ByteArray):Bool:=decide (t.size≤s.size)&&((s.extract (s.size-t.size) s.size).toList==t.toList)
theorem xk (s t:ByteArray) (h:ends s t=true):t.size≤s.size:=by
 unfold ends at h
 simp at h
 exact h.1
def AAs (s t:ByteArray):ByteArray×Nat:=if(Sk s&&Sk t)=false then(ByteArray.empty,15) else if 256<s.size+t.size then(ByteArray.empty,34) else(s++t,0)
def ADm (s t:ByteArray):ByteArray×Nat:=if(Sk s&&Sk t)=false then(ByteArray.empty,15) else if ends s t=false then(ByteArray.empty,33) else(s.extract 0 (s.size-t.size),0)
def AAt (s:ByteArray) (f:Int) (t:ByteArray):ByteArray×Nat:=
 if(Sk s&&Sk t)=false then(ByteArray.empty,15)
 else if f<0∨ends s t=false∨(s.size:Int)-t.size<f then(ByteArray.empty,33)
 else(s.extract 0 f.toNat++t,0)
def Yn (ps:List Int):List Value:=ps.map (Value.int .i64)
theorem Wn {w:World} {B:Nat} {A:Option Addr} {ps:List Int} (h:Row w B A (Yn ps)) {k:Nat} (hk:k<ps.length):
 ∃b o,A=some ⟨b,o,none⟩∧b<B∧w.cell? ⟨b,o+k,none⟩=some (.int .i64 (ps[k]?.getD 0)):=by
 refine h.at ?_
 unfold Yn
 rw [List.getElem?_map,List.getElem?_eq_getElem hk]
 rfl
end Go.Proofs.YtebgikflpgcnlaaGreatDoor
