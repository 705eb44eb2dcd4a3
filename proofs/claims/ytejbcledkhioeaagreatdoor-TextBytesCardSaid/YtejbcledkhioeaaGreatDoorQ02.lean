/- Part 2 of the proof: App AppZ Ld EqW Rd Dat Fold -/
import Derived.Maps.AppendAt
import Derived.Lib.ConvBytes
import Derived.Deep.RegionLaw
import Derived.Deep.Onto
import Derived.Deep.WholeRow
import Derived.Deep.QuietTactic
import Derived.BigQuiet
import Derived.ChangeArms
import Derived.ChangeSame
import Derived.Test.YtejbcledkhioeaaGreatDoorQ01
namespace Go.Proofs.YtejbcledkhioeaaGreatDoor
set_option linter.unusedVariables false
set_option linter.unusedSimpArgs false
set_option maxRecDepth 100000
set_option maxHeartbeats 4000000
open Go.RowKit Tryz
theorem lD {w:World} {base:Nat} {e:TypeId} {v:Value} {n:Nat} {xs:List Value} (h:w.ownsRow base e 1 v n xs): ∃A c,v= .slice A n c:=by
 rcases h.2 with⟨rfl,rfl⟩ | ⟨g,cap,cur,rfl,_⟩
 ·exact⟨_,_,rfl⟩
 ·exact⟨_,_,rfl⟩
theorem own_below {w w':World} {base:Nat} {e:TypeId} {v:Value} {n:Nat} {xs:List Value} (h:w.ownsRow base e 1 v n xs) (hg:w.grownBy w' v.ownBlock) (hB:base≤w.heap.size):Below base w w':=
 (Below.refl base w).grown hg hB fun k hk=>(h.lt k hk).1
theorem lF {P:Program} (w:World) (base:Nat) (t ty e:TypeId) (i:TypeInfo) (ht:P.underlying t=some (.slice e)) (hi:P.info? e=some i)
 (v:Value) (n:Nat) (xs:List Value) (hown:w.ownsRow base e 1 v n xs) (c:Nat):(Builtin.append_ #[t,t] ty #[v,.slice none 0 c]).run P w= .ok v w:=by
 rcases hown.2 with⟨rfl,rfl⟩ | ⟨g,cap,cur,rfl,_,_,hnc,_⟩
 ·simp [Builtin.append_,run_underlying ht,sizeOf,typeInfo,hi,Builtin.lenOf,Builtin.firstCells]
 ·simp [Builtin.append_,run_underlying ht,sizeOf,typeInfo,hi,Builtin.lenOf,Builtin.firstCells,hnc,storeCells]
theorem rG {P:Program} (w:World) (base:Nat) (t ty e:TypeId) (i:TypeInfo) (z:Value) (bytes:Nat) (ht:P.underlying t=some (.slice e)) (hi:P.info? e=some i) (hz:i.zero=some z)
 (hsize:i.size=1) (hby:i.bytes=bytes) (hzs:z.cells.size=1)
 (v:Value) (n:Nat) (xs:List Value) (hown:w.ownsRow base e 1 v n xs)
 (B:Nat) (A:Option Addr) (m c:Nat) (news:List Value) (hm:m=news.length) (hr:Row w B A news) (h1: ∀u∈news,u.oneCell'=true)
 (h63:n+m≤maxLen) (hbytes:(n+m)*bytes≤140737488355328) (hbase:base≤w.heap.size):
 ∃v' w',(Builtin.append_ #[t,t] ty #[v,.slice A m c]).run P w= .ok v' w'∧w'.ownsRow base e 1 v' (n+m) (xs++news)∧w.grownBy w' v.ownBlock∧
  (v'.ownBlock=v.ownBlock∨v'.ownBlock=some w.heap.size):=by
 rcases A with _ | ad
 ·have hnil:news= []:=by
   rcases Nat.eq_zero_or_pos news.length with h0 | h0
   ·exact List.eq_nil_of_length_eq_zero h0
   ·obtain⟨_,_,h',_⟩:=hr h0
    cases h'
  subst hnil
  simp only [List.length_nil] at hm
  subst hm
  exact⟨v,w,lF w base t ty e i ht hi v n xs hown c,by simpa using hown,World.grownBy.refl w _,.inl rfl⟩
 ·obtain⟨v',w',hrun,h2,h3,_,h5⟩:=run_append_own_at (P:=P) w base t ty e i z 1 bytes ht hi hz hsize hby hzs (by omega) v n xs hown ad m c news (by omega) (fun j u hu=>by
   have hj:=(List.getElem?_eq_some_iff.1 hu).1
   obtain⟨b,o,h',_,hc⟩:=hr (by omega)
   injection h' with h'
   subst h'
   rw [Addr.add_lit]
   exact hc j u hu) h1 h63 hbytes hbase
  exact⟨v',w',hrun,h2,h3,h5⟩
theorem UR {P:Program} (w:World) {ops:Array Oper} {rest:List Oper} {o:Oper} {a:Act} {Q:Exit→Act→World→Prop} (hgd:o.guard=none) (s x:Operand) (t:TypeId)
 (ho:o.op= .call {callee:= .builtin .append,args:= #[s,x],argTypes:= #[t,t]})
 (base:Nat) (e:TypeId) (i:TypeInfo) (z:Value) (bytes:Nat) (ht:P.underlying t=some (.slice e)) (hi:P.info? e=some i) (hz:i.zero=some z)
 (hsize:i.size=1) (hby:i.bytes=bytes) (hzs:z.cells.size=1)
 (v:Value) (n:Nat) (xs:List Value) (hs:a.eval s=v) (hown:w.ownsRow base e 1 v n xs)
 (B:Nat) (A:Option Addr) (m c:Nat) (news:List Value) (hx:a.eval x= .slice A m c) (hm:m=news.length) (hr:Row w B A news) (h1: ∀u∈news,u.oneCell'=true)
 (h63:n+m≤maxLen) (hbytes:(n+m)*bytes≤140737488355328) (hbase:base≤w.heap.size)
 (h: ∀A' c' w',w'.ownsRow base e 1 (.slice A' (n+m) c') (n+m) (xs++news)→w.grownBy w' v.ownBlock→((Value.slice A' (n+m) c').ownBlock=v.ownBlock∨(Value.slice A' (n+m) c').ownBlock=some w.heap.size)→wpList P ops Q rest (a.put o.dst (.slice A' (n+m) c')) w'):wpList P ops Q (o::rest) a w:=by
 refine wpList_plain hgd fun _ hK=> ?_
 obtain⟨v',w',hrun,h2,h3,h4⟩:=rG (P:=P) w base t o.type e i z bytes ht hi hz hsize hby hzs v n xs hown B A m c news hm hr h1 h63 hbytes hbase
 obtain⟨A',c',rfl⟩:=lD h2
 unfold Oper.wp execOp
 simp only [ho,resolve,invoke,builtin,Sem.run_bind,Sem.run_pure,Result.andThen_ok,List.map_toArray,List.map_cons,List.map_nil,hs,hx,hrun]
 exact hK _ _ (h A' c' w' h2 h3 h4)
theorem row_one (w:World) (x:Value) (t:TypeId):Row (w.alloc (.cells #[x] t)) (w.heap.size+1) (some ⟨w.heap.size,0,none⟩) [x]:=by
 intro _
 refine⟨w.heap.size,0,rfl,Nat.lt_succ_self _,fun j u hu=> ?_⟩
 have:=cell_one_new w x t j u hu
 rwa [Addr.add_lit] at this
theorem Nc (l:List UInt8): ∀u∈l.map bv,u.oneCell'=true:=by
 intro u hu
 obtain⟨_,_,rfl⟩:=List.mem_map.1 hu
 rfl
def enc (v:Nat):List UInt8:=if v<128 then [UInt8.ofNat v] else UInt8.ofNat (v%128+128)::enc (v/128)
 termination_by v
theorem Jz (v:Nat) (h:v<128):enc v= [UInt8.ofNat v]:=by rw [enc,if_pos h]
theorem M0 (v:Nat) (h: ¬v<128):enc v=UInt8.ofNat (v%128+128)::enc (v/128):=by rw [enc,if_neg h]
theorem dK: ∀(n v:Nat),v<128^(n+1)→(enc v).length≤n+1
 | 0,v,h=>by rw [Jz v (by omega)];simp
 | n+1,v,h=>by
  by_cases h1:v<128
  ·rw [Jz v h1];simp
  ·rw [M0 v h1]
   have:=dK n (v/128) (by rw [Nat.div_lt_iff_lt_mul (by omega)];rw [Nat.pow_succ] at h;exact h)
   simp;omega
theorem BA (v:Nat) (h:v<18446744073709551616):(enc v).length≤10:=dK 9 v (Nat.lt_of_lt_of_le h (by decide))
theorem EW (v:Nat):0<(enc v).length:=by
 by_cases h1:v<128
 ·rw [Jz v h1];simp
 ·rw [M0 v h1];simp
theorem AAi (c:Nat) (h:c<256):bits .or .u8 (c:Int) 128=((c%128+128:Nat):Int):=by
 have:=u8_or_nat c 128 h (by omega)
 rw [show((128:Nat):Int)=128 from rfl] at this
 rw [this]
 congr 1
 have: ∀c:Fin 256,c.val||| 128=c.val%128+128:=by decide+kernel
 exact this ⟨c,h⟩
theorem Sy (x:Nat) (h:x<256):bv (UInt8.ofNat x)= .int .u8 (x:Int):=by
 unfold bv
 rw [UInt8.toNat_ofNat_of_lt' (by simpa using h)]
theorem gT {P:Program} (w:World) (base:Nat) (t ty e:TypeId) (i:TypeInfo) (size:Nat) (ht:P.underlying t=some (.slice e)) (hi:P.info? e=some i)
 (v:Value) (n:Nat) (xs:List Value) (hown:w.ownsRow base e size v n xs) (c:Nat):(Builtin.append_ #[t,t] ty #[v,.slice none 0 c]).run P w= .ok v w:=by
 rcases hown.2 with⟨rfl,rfl⟩ | ⟨g,cap,cur,rfl,_,_,hnc,_⟩
 ·simp [Builtin.append_,run_underlying ht,sizeOf,typeInfo,hi,Builtin.lenOf,Builtin.firstCells]
 ·simp [Builtin.append_,run_underlying ht,sizeOf,typeInfo,hi,Builtin.lenOf,Builtin.firstCells,hnc,storeCells]
theorem LZ {w:World} {base size:Nat} {e:TypeId} {v:Value} {n:Nat} {xs:List Value} (h:w.ownsRow base e size v n xs): ∃A c,v= .slice A n c:=by
 rcases h.2 with⟨rfl,rfl⟩ | ⟨g,cap,cur,rfl,_⟩
 ·exact⟨_,_,rfl⟩
 ·exact⟨_,_,rfl⟩
theorem BI {w w':World} {base size:Nat} {e:TypeId} {v:Value} {n:Nat} {xs:List Value} (h:w.ownsRow base e size v n xs) (hb:Below w.heap.size w w'):w'.ownsRow base e size v n xs:=
 h.kept (row:=some w.heap.size) ⟨hb.os,hb.tape,hb.output,hb.size,fun k hk _=>hb.block k hk⟩ (by
  cases hv:v.ownBlock with
  | none=>exact .inl rfl
  | some k=>right;intro e;injection e with e;have:=(h.lt k hv).2;omega)
theorem UU {P:Program} (w:World) (base:Nat) (t ty e:TypeId) (i:TypeInfo) (z:Value) (size bytes:Nat) (ht:P.underlying t=some (.slice e)) (hi:P.info? e=some i) (hz:i.zero=some z)
 (hsize:i.size=size) (hby:i.bytes=bytes) (hzs:z.cells.size=size) (hpos:0<size)
 (v:Value) (n:Nat) (xs:List Value) (hown:w.ownsRow base e size v n xs)
 (B:Nat) (A:Option Addr) (m c:Nat) (news:List Value) (hm:news.length=m*size) (hr:Row w B A news) (h1: ∀u∈news,u.oneCell'=true)
 (h63:n+m≤maxLen) (hbytes:(n+m)*bytes≤140737488355328) (hbase:base≤w.heap.size):
 ∃v' w',(Builtin.append_ #[t,t] ty #[v,.slice A m c]).run P w= .ok v' w'∧w'.ownsRow base e size v' (n+m) (xs++news)∧w.grownBy w' v.ownBlock∧
  (v'.ownBlock=v.ownBlock∨v'.ownBlock=some w.heap.size):=by
 rcases A with _ | ad
 ·have hnil:news= []:=by
   rcases Nat.eq_zero_or_pos news.length with h0 | h0
   ·exact List.eq_nil_of_length_eq_zero h0
   ·obtain⟨_,_,h',_⟩:=hr h0
    cases h'
  subst hnil
  have hm0:m=0:=by
   rcases Nat.eq_zero_or_pos m with h0 | h0
   ·exact h0
   ·have:=Nat.mul_pos h0 hpos
    simp at hm;omega
  subst hm0
  exact⟨v,w,gT w base t ty e i size ht hi v n xs hown c,by simpa using hown,World.grownBy.refl w _,.inl rfl⟩
 ·obtain⟨v',w',hrun,h2,h3,_,h5⟩:=run_append_own_at (P:=P) w base t ty e i z size bytes ht hi hz hsize hby hzs hpos v n xs hown ad m c news hm (fun j u hu=>by
   have hj:=(List.getElem?_eq_some_iff.1 hu).1
   obtain⟨b,o,h',_,hc⟩:=hr (by omega)
   injection h' with h'
   subst h'
   rw [Addr.add_lit]
   exact hc j u hu) h1 h63 hbytes hbase
  exact⟨v',w',hrun,h2,h3,h5⟩
theorem MR {P:Program} (w:World) {ops:Array Oper} {rest:List Oper} {o:Oper} {a:Act} {Q:Exit→Act→World→Prop} (hgd:o.guard=none) (s x:Operand) (t:TypeId)
 (ho:o.op= .call {callee:= .builtin .append,args:= #[s,x],argTypes:= #[t,t]})
 (base:Nat) (e:TypeId) (i:TypeInfo) (z:Value) (size bytes:Nat) (ht:P.underlying t=some (.slice e)) (hi:P.info? e=some i) (hz:i.zero=some z)
 (hsize:i.size=size) (hby:i.bytes=bytes) (hzs:z.cells.size=size) (hpos:0<size)
 (v:Value) (n:Nat) (xs:List Value) (hs:a.eval s=v) (hown:w.ownsRow base e size v n xs)
 (B:Nat) (A:Option Addr) (m c:Nat) (news:List Value) (hx:a.eval x= .slice A m c) (hm:news.length=m*size) (hr:Row w B A news) (h1: ∀u∈news,u.oneCell'=true)
 (h63:n+m≤maxLen) (hbytes:(n+m)*bytes≤140737488355328) (hbase:base≤w.heap.size)
 (h: ∀A' c' w',w'.ownsRow base e size (.slice A' (n+m) c') (n+m) (xs++news)→w.grownBy w' v.ownBlock→((Value.slice A' (n+m) c').ownBlock=v.ownBlock∨(Value.slice A' (n+m) c').ownBlock=some w.heap.size)→wpList P ops Q rest (a.put o.dst (.slice A' (n+m) c')) w'):wpList P ops Q (o::rest) a w:=by
 refine wpList_plain hgd fun _ hK=> ?_
 obtain⟨v',w',hrun,h2,h3,h4⟩:=UU (P:=P) w base t o.type e i z size bytes ht hi hz hsize hby hzs hpos v n xs hown B A m c news hm hr h1 h63 hbytes hbase
 obtain⟨A',c',rfl⟩:=LZ h2
 unfold Oper.wp execOp
 simp only [ho,resolve,invoke,builtin,Sem.run_bind,Sem.run_pure,Result.andThen_ok,List.map_toArray,List.map_cons,List.map_nil,hs,hx,hrun]
 exact hK _ _ (h A' c' w' h2 h3 h4)
theorem Au {P:Program} {ops:Array Oper} {o:Oper} {a:Act} {w:World} {K:Act→World→Prop} {Q:Exit→Act→World→Prop} {E:Prop}
 (hg:o.guard=none) (s x:Operand) (t:TypeId) (hop:o.op=Op.call {callee:=Callee.builtin Builtin.append,args:= #[s,x],argTypes:= #[t,t]})
 (base:Nat) (e:TypeId) (i:TypeInfo) (z:Value) (size bytes:Nat) (ht:P.underlying t=some (.slice e)) (hi:P.info? e=some i) (hz:i.zero=some z)
 (hsize:i.size=size) (hby:i.bytes=bytes) (hzs:z.cells.size=size) (hpos:0<size)
 (v:Value) (n:Nat) (xs:List Value) (hs:a.eval s=v) (hown:w.ownsRow base e size v n xs)
 (B:Nat) (A:Option Addr) (m c:Nat) (news:List Value) (hx:a.eval x= .slice A m c) (hm:news.length=m*size) (hr:Row w B A news) (h1: ∀u∈news,u.oneCell'=true)
 (h63:n+m≤maxLen) (hbytes:(n+m)*bytes≤140737488355328) (hbase:base≤w.heap.size)
 (h: ∀A' c' w',w'.ownsRow base e size (.slice A' (n+m) c') (n+m) (xs++news)→w.grownBy w' v.ownBlock→((Value.slice A' (n+m) c').ownBlock=v.ownBlock∨(Value.slice A' (n+m) c').ownBlock=some w.heap.size)→K (a.put o.dst (.slice A' (n+m) c')) w'):
 if Region.wanted o (yielded ops a.tmps)=true then Oper.wp P o a w K Q else E:=by
 have hw:Region.wanted o (yielded ops a.tmps)=true:=by simp [Region.wanted,hg]
 rw [if_pos hw]
 obtain⟨v',w',hrun,h2,h3,h4⟩:=UU (P:=P) w base t o.type e i z size bytes ht hi hz hsize hby hzs hpos v n xs hown B A m c news hm hr h1 h63 hbytes hbase
 obtain⟨A',c',rfl⟩:=LZ h2
 unfold Oper.wp
 simp [execOp,hop,resolve,invoke,builtin,hs,hx,hrun,Result.andThen]
 exact h A' c' w' h2 h3 h4
theorem JZ {w w':World} {row:Option Nat} (hg:w.grownBy w' row) {g:Nat} {t:TypeId} {xs:List Value} (h:AL w g t xs) (hn:row≠some g):AL w' g t xs:=
 (hg.block g h.lt (fun e=>hn e.symm)).trans h
theorem Ak (w:World) (cs:List Value) (t:TypeId):Row (w.alloc (.cells cs.toArray t)) (w.heap.size+1) (some ⟨w.heap.size,0,none⟩) cs:=by
 intro _
 refine⟨w.heap.size,0,rfl,Nat.lt_succ_self _,fun j u hu=> ?_⟩
 have:=(AL.new w t cs).cell j
 rw [Nat.zero_add,this,hu]
theorem zF {P:Program} {ops:Array Oper} {rest:List Oper} {o:Oper} {a:Act} {w:World} {Q:Exit→Act→World→Prop} {g:Nat} {t:TypeId} {xs:List Value} (hb:AL w g t xs) {d:TypeDesc} (hu:P.underlying t=some d) (hd:(match d with | .struct _ | .array _ _=>true | _=>false)=true) (hi:(P.info? t).map (·.size)=some xs.length)
 (hgd:o.guard=none) (x:Operand) (ho:o.op= .load t x) (hx:a.eval x= .pointer (some ⟨g,0,none⟩)) (h:wpList P ops Q rest (a.put o.dst (.agg xs.toArray)) w):wpList P ops Q (o::rest) a w:=
 wpList_load_row hgd t x ho g hx t xs.toArray (0,0) d hb hu hd (by simpa using hi) h
section
variable {ops:Array Oper} {rest:List Oper} {o:Oper} {a:Act} {w:World} {Q:Exit→Act→World→Prop} {g:Nat}
theorem ldM {a0 a1 a2 a3 a4 a5 a6 a7:Value} (hb:AL w g 29 [a0,a1,a2,a3,a4,a5,a6,a7]) (hgd:o.guard=none) (x:Operand) (ho:o.op= .load 29 x) (hx:a.eval x= .pointer (some ⟨g,0,none⟩))
 (h:wpList prog ops Q rest (a.put o.dst (.agg #[a0,a1,a2,a3,a4,a5,a6,a7])) w):wpList prog ops Q (o::rest) a w:=
 zF hb underlying29 rfl (by kernel_rfl) hgd x ho hx h
end

section
structure Rd (α:Type) where
 z:Nat
 R:World→Nat→Nat→List Value→α→Prop
 len: ∀ {W:World} {lo hi:Nat} {cs:List Value} {x:α},R W lo hi cs x→cs.length=z
 keep: ∀ {W W':World} {lo hi:Nat} {cs:List Value} {x:α},(∀p:Addr,lo≤p.block→p.block<hi→W'.cell? p=W.cell? p)→R W lo hi cs x→R W' lo hi cs x
 more: ∀ {W:World} {lo hi lo' hi':Nat} {cs:List Value} {x:α},lo'≤lo→hi≤hi'→R W lo hi cs x→R W lo' hi' cs x
namespace Rd
variable {α β γ:Type}
def at_ (r:Rd α) (W:World) (lo hi b o:Nat) (x:α):Prop:= ∃cs,(∀(j:Nat) u,cs[j]?=some u→W.cell? ⟨b,o+j,none⟩=some u)∧r.R W lo hi cs x
theorem at_.keep {r:Rd α} {W W':World} {lo hi b o:Nat} {x:α} (hb:lo≤b∧b<hi) (hk: ∀p:Addr,lo≤p.block→p.block<hi→W'.cell? p=W.cell? p) (h:r.at_ W lo hi b o x):r.at_ W' lo hi b o x:=by
 obtain⟨cs,hc,hr⟩:=h
 exact⟨cs,fun j u hu=>(hk _ hb.1 hb.2).trans (hc j u hu),r.keep hk hr⟩
theorem at_.more {r:Rd α} {W:World} {lo hi lo' hi' b o:Nat} {x:α} (h1:lo'≤lo) (h2:hi≤hi') (h:r.at_ W lo hi b o x):r.at_ W lo' hi' b o x:=by
 obtain⟨cs,hc,hr⟩:=h
 exact⟨cs,hc,r.more h1 h2 hr⟩
def one (f:α→Value) (ok:α→Prop):Rd α where
 z:=1
 R _ _ _ cs x:=cs= [f x]∧ok x
 len h:=by rw [h.1];rfl
 keep _ h:=h
 more _ _ h:=h
def B64 (n:Nat):Prop:=n<18446744073709551616
def ER (n:Int):Prop:= -9223372036854775808≤n∧n<9223372036854775808
def B8 (n:Int):Prop:= -128≤n∧n<128
def Yb (s:ByteArray):Prop:=s.size≤140737488351232
def u64:Rd Nat:=one uv B64
def i64:Rd Int:=one (Value.int .i64) ER
def i8:Rd Int:=one (Value.int .i8) B8
def u8:Rd UInt8:=one bv fun _=>True
def bool:Rd Bool:=one Value.bool fun _=>True
def str:Rd ByteArray:=one Value.string Yb
def sl (sp:Bool) (r:Rd α):Rd (List α) where
 z:=1
 R W lo hi cs xs:= ∃A c,cs= [.slice A xs.length c]∧((sp=true→ ∀a,A=some a→a.spot=none)∧xs.length≤c)∧(0<xs.length→ ∃b o,A=some ⟨b,o,none⟩∧lo≤b∧b<hi∧ ∀(k:Nat) x,xs[k]?=some x→r.at_ W lo hi b (o+k*r.z) x)
 len h:=by obtain⟨A,c,rfl,_⟩:=h;rfl
 keep hk h:=by
  obtain⟨A,c,rfl,hs,h⟩:=h
  refine⟨A,c,rfl,hs,fun hn=> ?_⟩
  obtain⟨b,o,e,h1,h2,hx⟩:=h hn
  exact⟨b,o,e,h1,h2,fun k x hkx=>(hx k x hkx).keep ⟨h1,h2⟩ hk⟩
 more h1 h2 h:=by
  obtain⟨A,c,rfl,hs,h⟩:=h
  refine⟨A,c,rfl,hs,fun hn=> ?_⟩
  obtain⟨b,o,e,h3,h4,hx⟩:=h hn
  exact⟨b,o,e,by omega,by omega,fun k x hkx=>(hx k x hkx).more h1 h2⟩
def pair (r:Rd α) (s:Rd β):Rd (α×β) where
 z:=r.z+s.z
 R W lo hi cs x:= ∃c1 c2,cs=c1++c2∧r.R W lo hi c1 x.1∧s.R W lo hi c2 x.2
 len h:=by obtain⟨c1,c2,rfl,h1,h2⟩:=h;rw [List.length_append,r.len h1,s.len h2]
 keep hk h:=by obtain⟨c1,c2,e,h1,h2⟩:=h;exact⟨c1,c2,e,r.keep hk h1,s.keep hk h2⟩
 more h1 h2 h:=by obtain⟨c1,c2,e,h3,h4⟩:=h;exact⟨c1,c2,e,r.more h1 h2 h3,s.more h1 h2 h4⟩
def unit:Rd Unit where
 z:=0
 R _ _ _ cs _:=cs= []
 len h:=by rw [h];rfl
 keep _ h:=h
 more _ _ h:=h
def via (r:Rd α) (f:β→α):Rd β where
 z:=r.z
 R W lo hi cs x:=r.R W lo hi cs (f x)
 len h:=r.len h
 keep hk h:=r.keep hk h
 more h1 h2 h:=r.more h1 h2 h
variable {r:Rd α} {W W':World} {lo hi:Nat} {cs:List Value} {x:α}
theorem below (h:r.R W lo hi cs x) {B:Nat} (hb:Below B W W') (hB:hi≤B):r.R W' lo hi cs x:=
 r.keep (fun p _ h2=>hb.cell (Nat.lt_of_lt_of_le h2 hB)) h
theorem grown (h:r.R W lo hi cs x) {row:Option Nat} (hg:W.grownBy W' row) (hB:hi≤W.heap.size) (hr: ∀k,row=some k→k<lo∨hi≤k):r.R W' lo hi cs x:=
 r.keep (fun p h1 h2=>by
  have hb:=hg.block p.block (by omega) (fun e=>by have:=hr _ e.symm;omega)
  simp [World.cell?,hb]) h
theorem xO {sp:Bool} {f:α→Value} {ok:α→Prop} {A:Option Addr} {n c:Nat} {xs:List α} (h:(sl sp (one f ok)).R W lo hi [.slice A n c] xs):n=xs.length∧Row W hi A (xs.map f):=by
 obtain⟨A',c',he,_,h⟩:=h
 injection he with he _
 injection he with h1 h2 h3
 subst h1 h2
 refine⟨rfl,fun hn=> ?_⟩
 rw [List.length_map] at hn
 obtain⟨b,o,e,_,hlt,hx⟩:=h hn
 refine⟨b,o,e,hlt,fun j u hu=> ?_⟩
 rw [List.getElem?_map] at hu
 cases hxj:xs[j]? with
 | none=>rw [hxj] at hu;cases hu
 | some y=>
  rw [hxj] at hu
  obtain⟨cs,hc,hcs,_⟩:=hx j y hxj
  subst hcs
  have:=hc 0 (f y) rfl
  rw [show(one f ok).z=1 from rfl,Nat.mul_one,Nat.add_zero] at this
  rw [this]
  simpa using hu
theorem ko {sp:Bool} {f:α→Value} {ok:α→Prop} {A:Option Addr} {n c:Nat} {xs:List α} (h:(sl sp (one f ok)).R W lo hi [.slice A n c] xs): ∀x∈xs,ok x:=by
 obtain⟨A',c',he,_,h⟩:=h
 intro x hx
 obtain⟨k,hk,rfl⟩:=List.getElem_of_mem hx
 obtain⟨b,o,e,_,hlt,hx⟩:=h (by omega)
 obtain⟨cs,hc,hcs,hok⟩:=hx k _ (List.getElem?_eq_getElem hk)
 exact hok
end Rd
theorem Row.kr {W:World} {base:Nat} {e:TypeId} {A:Option Addr} {n c m size:Nat} {xs:List Value} (h:W.ownsRow base e size (.slice A n c) m xs): ∀a,A=some a→a.spot=none:=by
 rintro a rfl
 rcases h.2 with⟨hv,_⟩ | ⟨g,cap,cur,hv,_⟩
 ·injection hv with h1;cases h1
 ·injection hv with h1;injection h1 with h1;rw [h1]
theorem Row.few {W:World} {base:Nat} {e:TypeId} {A:Option Addr} {n c size:Nat} {xs:List Value} (h:W.ownsRow base e size (.slice A n c) n xs):n≤c:=by
 rcases h.2 with⟨hv,h0⟩ | ⟨g,cap,cur,hv,_,_,hle,_⟩
 ·injection hv with h1 h2 h3;omega
 ·injection hv with h1 h2 h3;omega
theorem Rd.own {α:Type} (sp:Bool) {r:Rd α} {W:World} {base:Nat} {e:TypeId} {A:Option Addr} {n c:Nat} {vs:List Value} {xs:List α} (h:W.ownsRow base e r.z (.slice A n c) n vs) (hn:n=xs.length)
 (hx: ∀(k:Nat) x,xs[k]?=some x→r.R W base W.heap.size ((vs.drop (k*r.z)).take r.z) x):(r.sl sp).R W base W.heap.size [.slice A n c] xs:=by
 subst hn
 refine⟨A,c,rfl,⟨fun _=>Row.kr h,Row.few h⟩,fun hn=> ?_⟩
 rcases h.2 with⟨_,h0⟩ | ⟨g,cap,cur,hv,hb,hg,_⟩
 ·omega
 ·have hA:A=some ⟨g,0,none⟩:=by injection hv
  subst hA
  refine⟨g,0,rfl,hb,(Array.getElem?_eq_some_iff.1 hg).1,fun k x hk=>⟨_,fun j u hu=> ?_,hx k x hk⟩⟩
  rw [List.getElem?_take] at hu
  split at hu
  ·rw [List.getElem?_drop] at hu
   have:=h.cells (g:=g) rfl (k*r.z+j) u hu
   rw [Addr.add_lit] at this
   simpa [Nat.add_assoc] using this
  ·cases hu
section
variable {α β:Type}
end
end
theorem OE {α:Type} {r:Rd α} {sp:Bool} {W:World} {lo hi:Nat} {A:Option Addr} {n c:Nat} {xs:List α} (h:(r.sl sp).R W lo hi [.slice A n c] xs) {k:Nat} {x:α} (hk:xs[k]?=some x):
 ∃b o,A=some ⟨b,o,none⟩∧lo≤b∧b<hi∧ ∃cs,(∀(j:Nat) u,cs[j]?=some u→W.cell? ⟨b,o+k*r.z+j,none⟩=some u)∧r.R W lo hi cs x:=by
 obtain⟨A',c',he,_,h⟩:=h
 injection he with he _
 injection he with h1 h2 h3
 subst h1 h2
 have hlt:=(List.getElem?_eq_some_iff.1 hk).1
 obtain⟨b,o,e,hlo,hhi,hx⟩:=h (by omega)
 obtain⟨cs,hc,hr⟩:=hx k x hk
 exact⟨b,o,e,hlo,hhi,cs,hc,hr⟩
theorem EI {α:Type} {r:Rd α} {sp:Bool} {W:World} {lo hi:Nat} {A:Option Addr} {n c:Nat} {xs:List α} (h:(r.sl sp).R W lo hi [.slice A n c] xs):n=xs.length:=by
 obtain⟨A',c',he,_⟩:=h
 injection he with he _
 injection he with h1 h2 h3
theorem W_ {α:Type} {r:Rd α} {W:World} {lo hi:Nat} {A:Option Addr} {c:Nat}:(r.sl false).R W lo hi [.slice A 0 c] []:=⟨A,c,rfl,⟨fun h=>(by cases h),Nat.zero_le _⟩,fun h=>absurd h (by simp)⟩
theorem AX {α:Type} {r:Rd α} {sp:Bool} {W:World} {lo hi:Nat} {v:Value} {xs:List α} (h:(r.sl sp).R W lo hi [v] xs): ∃A c,v= .slice A xs.length c:=by
 obtain⟨A,c,he,_⟩:=h
 injection he with he _
 exact⟨A,c,he⟩
theorem NV {α:Type} {r:Rd α} {sp:Bool} {W:World} {lo hi:Nat} {cs:List Value} {xs:List α} (h:(r.sl sp).R W lo hi cs xs): ∃v,cs= [v]∧(r.sl sp).R W lo hi [v] xs:=by
 have h0:=h
 obtain⟨A,c,he,_⟩:=h0
 exact⟨_,he,he▸h⟩
structure DI where
 p:ByteArray
 r:ByteArray
def LD:Rd DI:=(Rd.str.pair (Rd.str.pair Rd.unit)).via (fun x=>(x.p,x.r,()))
theorem Mw {W:World} {lo hi:Nat} {cs:List Value} {x:DI}:LD.R W lo hi cs x↔cs= [Value.string x.p,Value.string x.r]∧Rd.Yb x.p∧Rd.Yb x.r:=by
 constructor
 ·rintro⟨c_p,r_p,rfl,xP,⟨c_r,r_r,rfl,xQ,rfl⟩⟩
  obtain⟨rfl,xP⟩:=xP
  obtain⟨rfl,xQ⟩:=xQ
  exact⟨rfl,xP,xQ⟩
 ·rintro⟨rfl,xP,xQ⟩
  exact⟨[Value.string x.p],[Value.string x.r],rfl,⟨rfl,xP⟩,⟨[Value.string x.r],[],rfl,⟨rfl,xQ⟩,rfl⟩⟩
theorem KF {sp:Bool} {W:World} {lo hi:Nat} {A:Option Addr} {n c:Nat} {xs:List DI} (h:(LD.sl sp).R W lo hi [.slice A n c] xs) {k:Nat} {x:DI} (hk:xs[k]?=some x):
 ∃(b o:Nat),A=some ⟨b,o,none⟩∧lo≤b∧b<hi∧W.cell? ⟨b,o+k*2,none⟩=some (.string x.p)∧W.cell? ⟨b,o+k*2+1,none⟩=some (.string x.r)∧Rd.Yb x.p∧Rd.Yb x.r:=by
 obtain⟨b,o,e,h1,h2,cs,hc,hr⟩:=OE h hk
 obtain⟨rfl,xP,xQ⟩:=Mw.1 hr
 exact⟨b,o,e,h1,h2,hc 0 _ rfl,hc 1 _ rfl,xP,xQ⟩
structure EJ where
 l:UInt8
 m:Bool
 v:Nat
def Jf:Rd EJ:=(Rd.u8.pair (Rd.bool.pair (Rd.u64.pair Rd.unit))).via (fun x=>(x.l,x.m,x.v,()))
theorem Jw {W:World} {lo hi:Nat} {cs:List Value} {x:EJ}:Jf.R W lo hi cs x↔cs= [bv x.l,Value.bool x.m,uv x.v]∧Rd.B64 x.v:=by
 constructor
 ·rintro⟨Rs,r_l,rfl,TR,⟨c_m,r_m,rfl,h_m,⟨c_v,r_v,rfl,xR,rfl⟩⟩⟩
  obtain⟨rfl,_⟩:=TR
  obtain⟨rfl,_⟩:=h_m
  obtain⟨rfl,xR⟩:=xR
  exact⟨rfl,xR⟩
 ·rintro⟨rfl,xR⟩
  exact⟨[bv x.l],[Value.bool x.m,uv x.v],rfl,⟨rfl,trivial⟩,⟨[Value.bool x.m],[uv x.v],rfl,⟨rfl,trivial⟩,⟨[uv x.v],[],rfl,⟨rfl,xR⟩,rfl⟩⟩⟩
theorem OX {sp:Bool} {W:World} {lo hi:Nat} {A:Option Addr} {n c:Nat} {xs:List EJ} (h:(Jf.sl sp).R W lo hi [.slice A n c] xs) {k:Nat} {x:EJ} (hk:xs[k]?=some x):
 ∃(b o:Nat),A=some ⟨b,o,none⟩∧lo≤b∧b<hi∧W.cell? ⟨b,o+k*3,none⟩=some (.int .u8 (x.l.toNat:Int))∧W.cell? ⟨b,o+k*3+1,none⟩=some (.bool x.m)∧W.cell? ⟨b,o+k*3+2,none⟩=some (.int .u64 (x.v:Int))∧Rd.B64 x.v:=by
 obtain⟨b,o,e,h1,h2,cs,hc,hr⟩:=OE h hk
 obtain⟨rfl,xR⟩:=Jw.1 hr
 exact⟨b,o,e,h1,h2,hc 0 _ rfl,hc 1 _ rfl,hc 2 _ rfl,xR⟩
structure DL where
 op:UInt8
 a:Int
 l:List Int
def JA:Rd DL:=(Rd.u8.pair (Rd.i64.pair ((Rd.i64.sl false).pair Rd.unit))).via (fun x=>(x.op,x.a,x.l,()))
theorem Dw {W:World} {lo hi:Nat} {cs:List Value} {x:DL}:JA.R W lo hi cs x↔ ∃gQ:Value,cs= [bv x.op,Value.int .i64 x.a,gQ]∧Rd.ER x.a∧(Rd.i64.sl false).R W lo hi [gQ] x.l:=by
 constructor
 ·rintro⟨c_op,r_op,rfl,h_op,⟨c_a,r_a,rfl,YN,⟨Rs,r_l,rfl,TR,rfl⟩⟩⟩
  obtain⟨rfl,_⟩:=h_op
  obtain⟨rfl,YN⟩:=YN
  obtain⟨gQ,rfl,TR⟩:=NV TR
  exact⟨gQ,rfl,YN,TR⟩
 ·rintro⟨gQ,rfl,YN,TR⟩
  exact⟨[bv x.op],[Value.int .i64 x.a,gQ],rfl,⟨rfl,trivial⟩,⟨[Value.int .i64 x.a],[gQ],rfl,⟨rfl,YN⟩,⟨[gQ],[],rfl,TR,rfl⟩⟩⟩
theorem Tx {sp:Bool} {W:World} {lo hi:Nat} {A:Option Addr} {n c:Nat} {xs:List DL} (h:(JA.sl sp).R W lo hi [.slice A n c] xs) {k:Nat} {x:DL} (hk:xs[k]?=some x):
 ∃(b o:Nat) (Sw:Option Addr) (Rs:Nat),A=some ⟨b,o,none⟩∧lo≤b∧b<hi∧W.cell? ⟨b,o+k*3,none⟩=some (.int .u8 (x.op.toNat:Int))∧W.cell? ⟨b,o+k*3+1,none⟩=some (.int .i64 x.a)∧W.cell? ⟨b,o+k*3+2,none⟩=some (.slice Sw x.l.length Rs)∧Rd.ER x.a∧(Rd.i64.sl false).R W lo hi [.slice Sw x.l.length Rs] x.l:=by
 obtain⟨b,o,e,h1,h2,cs,hc,hr⟩:=OE h hk
 obtain⟨gQ,rfl,YN,TR⟩:=Dw.1 hr
 obtain⟨Sw,Rs,rfl⟩:=AX TR
 exact⟨b,o,Sw,Rs,e,h1,h2,hc 0 _ rfl,hc 1 _ rfl,hc 2 _ rfl,YN,TR⟩
structure GR where
 t:Int
 loc:ByteArray
 code:List DL
def Rt:Rd GR:=(Rd.i64.pair (Rd.str.pair ((JA.sl false).pair Rd.unit))).via (fun x=>(x.t,x.loc,x.code,()))
theorem LG {W:World} {lo hi:Nat} {cs:List Value} {x:GR}:Rt.R W lo hi cs x↔ ∃Mi:Value,cs= [Value.int .i64 x.t,Value.string x.loc,Mi]∧Rd.ER x.t∧Rd.Yb x.loc∧(JA.sl false).R W lo hi [Mi] x.code:=by
 constructor
 ·rintro⟨c_t,r_t,rfl,kR,⟨c_loc,r_loc,rfl,OG,⟨JB,r_code,rfl,JN,rfl⟩⟩⟩
  obtain⟨rfl,kR⟩:=kR
  obtain⟨rfl,OG⟩:=OG
  obtain⟨Mi,rfl,JN⟩:=NV JN
  exact⟨Mi,rfl,kR,OG,JN⟩
 ·rintro⟨Mi,rfl,kR,OG,JN⟩
  exact⟨[Value.int .i64 x.t],[Value.string x.loc,Mi],rfl,⟨rfl,kR⟩,⟨[Value.string x.loc],[Mi],rfl,⟨rfl,OG⟩,⟨[Mi],[],rfl,JN,rfl⟩⟩⟩
theorem UQ {sp:Bool} {W:World} {lo hi:Nat} {A:Option Addr} {n c:Nat} {xs:List GR} (h:(Rt.sl sp).R W lo hi [.slice A n c] xs) {k:Nat} {x:GR} (hk:xs[k]?=some x):
 ∃(b o:Nat) (JO:Option Addr) (JB:Nat),A=some ⟨b,o,none⟩∧lo≤b∧b<hi∧W.cell? ⟨b,o+k*3,none⟩=some (.int .i64 x.t)∧W.cell? ⟨b,o+k*3+1,none⟩=some (.string x.loc)∧W.cell? ⟨b,o+k*3+2,none⟩=some (.slice JO x.code.length JB)∧Rd.ER x.t∧Rd.Yb x.loc∧(JA.sl false).R W lo hi [.slice JO x.code.length JB] x.code:=by
 obtain⟨b,o,e,h1,h2,cs,hc,hr⟩:=OE h hk
 obtain⟨Mi,rfl,kR,OG,JN⟩:=LG.1 hr
 obtain⟨JO,JB,rfl⟩:=AX JN
 exact⟨b,o,JO,JB,e,h1,h2,hc 0 _ rfl,hc 1 _ rfl,hc 2 _ rfl,kR,OG,JN⟩
structure EU where
 at_:Int
 b:List UInt8
def JC:Rd EU:=(Rd.i64.pair ((Rd.u8.sl false).pair Rd.unit)).via (fun x=>(x.at_,x.b,()))
theorem Jg {W:World} {lo hi:Nat} {cs:List Value} {x:EU}:JC.R W lo hi cs x↔ ∃rF:Value,cs= [Value.int .i64 x.at_,rF]∧Rd.ER x.at_∧(Rd.u8.sl false).R W lo hi [rF] x.b:=by
 constructor
 ·rintro⟨c_at_,r_at_,rfl,OH,⟨Tz,r_b,rfl,aC,rfl⟩⟩
  obtain⟨rfl,OH⟩:=OH
  obtain⟨rF,rfl,aC⟩:=NV aC
  exact⟨rF,rfl,OH,aC⟩
 ·rintro⟨rF,rfl,OH,aC⟩
  exact⟨[Value.int .i64 x.at_],[rF],rfl,⟨rfl,OH⟩,⟨[rF],[],rfl,aC,rfl⟩⟩
theorem NW {sp:Bool} {W:World} {lo hi:Nat} {A:Option Addr} {n c:Nat} {xs:List EU} (h:(JC.sl sp).R W lo hi [.slice A n c] xs) {k:Nat} {x:EU} (hk:xs[k]?=some x):
 ∃(b o:Nat) (Vh:Option Addr) (Tz:Nat),A=some ⟨b,o,none⟩∧lo≤b∧b<hi∧W.cell? ⟨b,o+k*2,none⟩=some (.int .i64 x.at_)∧W.cell? ⟨b,o+k*2+1,none⟩=some (.slice Vh x.b.length Tz)∧Rd.ER x.at_∧(Rd.u8.sl false).R W lo hi [.slice Vh x.b.length Tz] x.b:=by
 obtain⟨b,o,e,h1,h2,cs,hc,hr⟩:=OE h hk
 obtain⟨rF,rfl,OH,aC⟩:=Jg.1 hr
 obtain⟨Vh,Tz,rfl⟩:=AX aC
 exact⟨b,o,Vh,Tz,e,h1,h2,hc 0 _ rfl,hc 1 _ rfl,OH,aC⟩
structure Jy where
 n:ByteArray
 f:Int
def Lf:Rd Jy:=(Rd.str.pair (Rd.i64.pair Rd.unit)).via (fun x=>(x.n,x.f,()))
theorem OY {W:World} {lo hi:Nat} {cs:List Value} {x:Jy}:Lf.R W lo hi cs x↔cs= [Value.string x.n,Value.int .i64 x.f]∧Rd.Yb x.n∧Rd.ER x.f:=by
 constructor
 ·rintro⟨c_n,r_n,rfl,h_n,⟨c_f,r_f,rfl,xS,rfl⟩⟩
  obtain⟨rfl,h_n⟩:=h_n
  obtain⟨rfl,xS⟩:=xS
  exact⟨rfl,h_n,xS⟩
 ·rintro⟨rfl,h_n,xS⟩
  exact⟨[Value.string x.n],[Value.int .i64 x.f],rfl,⟨rfl,h_n⟩,⟨[Value.int .i64 x.f],[],rfl,⟨rfl,xS⟩,rfl⟩⟩
theorem NY {sp:Bool} {W:World} {lo hi:Nat} {A:Option Addr} {n c:Nat} {xs:List Jy} (h:(Lf.sl sp).R W lo hi [.slice A n c] xs) {k:Nat} {x:Jy} (hk:xs[k]?=some x):
 ∃(b o:Nat),A=some ⟨b,o,none⟩∧lo≤b∧b<hi∧W.cell? ⟨b,o+k*2,none⟩=some (.string x.n)∧W.cell? ⟨b,o+k*2+1,none⟩=some (.int .i64 x.f)∧Rd.Yb x.n∧Rd.ER x.f:=by
 obtain⟨b,o,e,h1,h2,cs,hc,hr⟩:=OE h hk
 obtain⟨rfl,h_n,xS⟩:=OY.1 hr
 exact⟨b,o,e,h1,h2,hc 0 _ rfl,hc 1 _ rfl,h_n,xS⟩
structure AP where
 types:List DI
 hosts:List Int
 globs:List EJ
 first:Int
 most:Int
 fns:List GR
 dat:List EU
 AU:List Jy
def JQ:Rd AP:=((LD.sl false).pair ((Rd.i64.sl false).pair ((Jf.sl false).pair (Rd.i64.pair (Rd.i64.pair ((Rt.sl false).pair ((JC.sl false).pair ((Lf.sl false).pair Rd.unit)))))))).via (fun x=>(x.types,x.hosts,x.globs,x.first,x.most,x.fns,x.dat,x.AU,()))
theorem EK {W:World} {lo hi:Nat} {cs:List Value} {x:AP}:JQ.R W lo hi cs x↔ ∃NZ MQ LH OI Mx Jh:Value,cs= [NZ,MQ,LH,Value.int .i64 x.first,Value.int .i64 x.most,OI,Mx,Jh]∧(LD.sl false).R W lo hi [NZ] x.types∧(Rd.i64.sl false).R W lo hi [MQ] x.hosts∧(Jf.sl false).R W lo hi [LH] x.globs∧Rd.ER x.first∧Rd.ER x.most∧(Rt.sl false).R W lo hi [OI] x.fns∧(JC.sl false).R W lo hi [Mx] x.dat∧(Lf.sl false).R W lo hi [Jh] x.AU:=by
 constructor
 ·rintro⟨XA,r_types,rfl,LM,⟨XB,r_hosts,rfl,LP,⟨XC,r_globs,rfl,LQ,⟨c_first,r_first,rfl,Na,⟨c_most,r_most,rfl,QL,⟨ku,r_fns,rfl,Qh,⟨lC,r_dat,rfl,Qi,⟨aD,r_exps,rfl,Nb,rfl⟩⟩⟩⟩⟩⟩⟩⟩
  obtain⟨NZ,rfl,LM⟩:=NV LM
  obtain⟨MQ,rfl,LP⟩:=NV LP
  obtain⟨LH,rfl,LQ⟩:=NV LQ
  obtain⟨rfl,Na⟩:=Na
  obtain⟨rfl,QL⟩:=QL
  obtain⟨OI,rfl,Qh⟩:=NV Qh
  obtain⟨Mx,rfl,Qi⟩:=NV Qi
  obtain⟨Jh,rfl,Nb⟩:=NV Nb
  exact⟨NZ,MQ,LH,OI,Mx,Jh,rfl,LM,LP,LQ,Na,QL,Qh,Qi,Nb⟩
 ·rintro⟨NZ,MQ,LH,OI,Mx,Jh,rfl,LM,LP,LQ,Na,QL,Qh,Qi,Nb⟩
  exact⟨[NZ],[MQ,LH,Value.int .i64 x.first,Value.int .i64 x.most,OI,Mx,Jh],rfl,LM,⟨[MQ],[LH,Value.int .i64 x.first,Value.int .i64 x.most,OI,Mx,Jh],rfl,LP,⟨[LH],[Value.int .i64 x.first,Value.int .i64 x.most,OI,Mx,Jh],rfl,LQ,⟨[Value.int .i64 x.first],[Value.int .i64 x.most,OI,Mx,Jh],rfl,⟨rfl,Na⟩,⟨[Value.int .i64 x.most],[OI,Mx,Jh],rfl,⟨rfl,QL⟩,⟨[OI],[Mx,Jh],rfl,Qh,⟨[Mx],[Jh],rfl,Qi,⟨[Jh],[],rfl,Nb,rfl⟩⟩⟩⟩⟩⟩⟩⟩
def folded (v:Int):Nat:=if v<0 then 2*(-(v+1)).toNat+1 else 2*v.toNat
theorem rH (a:Nat) (h:a<18446744073709551616):bits .xor .u64 (a:Int) 0=(a:Int):=by
 have:=u64_xor_nat a 0 h (by omega)
 rw [show((0:Nat):Int)=0 from rfl] at this
 rw [this,Nat.xor_zero]
theorem rJ (a b:Nat) (h:a<18446744073709551616) (hb:b=18446744073709551615):bits .xor .u64 (a:Int) (b:Int)=((18446744073709551615-a:Nat):Int):=by
 subst hb
 show IntKind.u64.wrap ((BitVec.ofInt 64 (a:Int)^^^BitVec.ofInt 64 ((18446744073709551615:Nat):Int)).toNat:Int)=_
 have e:BitVec.ofInt 64 ((18446744073709551615:Nat):Int)=BitVec.allOnes 64:=by decide+kernel
 have e2:(BitVec.ofInt 64 (a:Int)).toNat=a:=by
  rw [BitVec.ofInt_natCast,BitVec.toNat_ofNat];exact Nat.mod_eq_of_lt (by omega)
 rw [e,BitVec.xor_allOnes,BitVec.toNat_not,e2,IntKind.wrap_u64]
 omega
theorem gU (v:Int) (h0: -9223372036854775808≤v) (h1:v<9223372036854775808):
 bits .xor .u64 (IntKind.u64.wrap (IntKind.u64.wrap v*2)) (IntKind.u64.wrap (v/9223372036854775808))=(folded v:Int):=by
 unfold folded
 rw [IntKind.wrap_u64,IntKind.wrap_u64,IntKind.wrap_u64]
 by_cases hv:v<0
 ·rw [if_pos hv]
  have e1:(v%18446744073709551616*2)%18446744073709551616=((18446744073709551616-2*(-v).toNat:Nat):Int):=by omega
  have e2:v/9223372036854775808%18446744073709551616=((18446744073709551615:Nat):Int):=by omega
  rw [e1,e2,rJ _ _ (by omega) rfl]
  omega
 ·rw [if_neg hv]
  have e1:(v%18446744073709551616*2)%18446744073709551616=((2*v.toNat:Nat):Int):=by omega
  have e2:v/9223372036854775808%18446744073709551616=0:=by omega
  rw [e1,e2,rH _ (by omega)]
theorem M4 (v:Int) (h0: -9223372036854775808≤v) (h1:v<9223372036854775808):folded v<18446744073709551616:=by unfold folded;split<;>omega
theorem OZ (v:Nat) (h:v<18446744073709551616): -9223372036854775808≤unfolded v∧unfolded v<9223372036854775808:=by
 unfold unfolded
 split<;>omega
end Go.Proofs.YtejbcledkhioeaaGreatDoor
