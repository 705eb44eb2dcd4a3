/- Part 2 of the proof: App AppZ Open Rd Dat -/
import Derived.Maps.AppendAt
import Derived.Lib.ConvBytes
import Derived.Deep.RegionLaw
import Derived.Deep.Onto
import Derived.ChangeSlices
import Derived.SizedLaws
import Derived.ChangeArms
import Derived.ChangeSame
import Derived.Test.YtebgikflpgcnlaaGreatDoorP01
namespace Go.Proofs.YtebgikflpgcnlaaGreatDoor
set_option linter.unusedVariables false
set_option linter.unusedSimpArgs false
set_option maxRecDepth 100000
set_option maxHeartbeats 4000000
open Go.RowKit
theorem Si {w:World} {base:Nat} {e:TypeId} {v:Value} {n:Nat} {xs:List Value} (h:w.ownsRow base e 1 v n xs): ∃A c,v= .slice A n c:=by
 rcases h.2 with⟨rfl,rfl⟩ | ⟨g,cap,cur,rfl,_⟩
 ·exact⟨_,_,rfl⟩
 ·exact⟨_,_,rfl⟩
theorem own_below {w w':World} {base:Nat} {e:TypeId} {v:Value} {n:Nat} {xs:List Value} (h:w.ownsRow base e 1 v n xs) (hg:w.grownBy w' v.ownBlock) (hB:base≤w.heap.size):Below base w w':=
 (Below.refl base w).grown hg hB fun k hk=>(h.lt k hk).1
theorem qw {P:Program} (w:World) (base:Nat) (t ty e:TypeId) (i:TypeInfo) (ht:P.underlying t=some (.slice e)) (hi:P.info? e=some i)
 (v:Value) (n:Nat) (xs:List Value) (hown:w.ownsRow base e 1 v n xs) (c:Nat):(Builtin.append_ #[t,t] ty #[v,.slice none 0 c]).run P w= .ok v w:=by
 rcases hown.2 with⟨rfl,rfl⟩ | ⟨g,cap,cur,rfl,_,_,hnc,_⟩
 ·simp [Builtin.append_,run_underlying ht,sizeOf,typeInfo,hi,Builtin.lenOf,Builtin.firstCells]
 ·simp [Builtin.append_,run_underlying ht,sizeOf,typeInfo,hi,Builtin.lenOf,Builtin.firstCells,hnc,storeCells]
theorem xY {P:Program} (w:World) (base:Nat) (t ty e:TypeId) (i:TypeInfo) (z:Value) (bytes:Nat) (ht:P.underlying t=some (.slice e)) (hi:P.info? e=some i) (hz:i.zero=some z)
 (hsize:i.size=1) (hby:i.bytes=bytes) (hzs:z.cells.size=1)
 (v:Value) (n:Nat) (xs:List Value) (hown:w.ownsRow base e 1 v n xs)
 (B:Nat) (A:Option Addr) (m c:Nat) (news:List Value) (hm:m=news.length) (hr:Row w B A news) (h1: ∀u∈news,u.oneCell'=true)
 (h63:n+m≤maxLen) (hbytes:(n+m)*bytes≤140737488355328) (hbase:base≤w.heap.size):
 ∃v' w',(Builtin.append_ #[t,t] ty #[v,.slice A m c]).run P w= .ok v' w'∧w'.ownsRow base e 1 v' (n+m) (xs++news)∧w.grownBy w' v.ownBlock∧
  (v'.ownBlock=v.ownBlock∨v'.ownBlock=some w.heap.size):=by
 rcases A with _ | ad
 ·have hnil:news= []:=by
   rcases Nat.eq_zero_or_pos news.length with h0 | h0
   ·exact List.eq_nil_of_length_eq_zero h0
   ·obtain⟨_,_,h',_⟩:=hr h0
    cases h'
  subst hnil
  simp only [List.length_nil] at hm
  subst hm
  exact⟨v,w,qw w base t ty e i ht hi v n xs hown c,by simpa using hown,World.grownBy.refl w _,.inl rfl⟩
 ·obtain⟨v',w',hrun,h2,h3,_,h5⟩:=run_append_own_at (P:=P) w base t ty e i z 1 bytes ht hi hz hsize hby hzs (by omega) v n xs hown ad m c news (by omega) (fun j u hu=>by
   have hj:=(List.getElem?_eq_some_iff.1 hu).1
   obtain⟨b,o,h',_,hc⟩:=hr (by omega)
   injection h' with h'
   subst h'
   rw [Addr.add_lit]
   exact hc j u hu) h1 h63 hbytes hbase
  exact⟨v',w',hrun,h2,h3,h5⟩
theorem Rv {P:Program} (w:World) {ops:Array Oper} {rest:List Oper} {o:Oper} {a:Act} {Q:Exit→Act→World→Prop} (hgd:o.guard=none) (s x:Operand) (t:TypeId)
 (ho:o.op= .call {callee:= .builtin .append,args:= #[s,x],argTypes:= #[t,t]})
 (base:Nat) (e:TypeId) (i:TypeInfo) (z:Value) (bytes:Nat) (ht:P.underlying t=some (.slice e)) (hi:P.info? e=some i) (hz:i.zero=some z)
 (hsize:i.size=1) (hby:i.bytes=bytes) (hzs:z.cells.size=1)
 (v:Value) (n:Nat) (xs:List Value) (hs:a.eval s=v) (hown:w.ownsRow base e 1 v n xs)
 (B:Nat) (A:Option Addr) (m c:Nat) (news:List Value) (hx:a.eval x= .slice A m c) (hm:m=news.length) (hr:Row w B A news) (h1: ∀u∈news,u.oneCell'=true)
 (h63:n+m≤maxLen) (hbytes:(n+m)*bytes≤140737488355328) (hbase:base≤w.heap.size)
 (h: ∀A' c' w',w'.ownsRow base e 1 (.slice A' (n+m) c') (n+m) (xs++news)→w.grownBy w' v.ownBlock→((Value.slice A' (n+m) c').ownBlock=v.ownBlock∨(Value.slice A' (n+m) c').ownBlock=some w.heap.size)→wpList P ops Q rest (a.put o.dst (.slice A' (n+m) c')) w'):wpList P ops Q (o::rest) a w:=by
 refine wpList_plain hgd fun _ hK=> ?_
 obtain⟨v',w',hrun,h2,h3,h4⟩:=xY (P:=P) w base t o.type e i z bytes ht hi hz hsize hby hzs v n xs hown B A m c news hm hr h1 h63 hbytes hbase
 obtain⟨A',c',rfl⟩:=Si h2
 unfold Oper.wp execOp
 simp only [ho,resolve,invoke,builtin,Sem.run_bind,Sem.run_pure,Result.andThen_ok,List.map_toArray,List.map_cons,List.map_nil,hs,hx,hrun]
 exact hK _ _ (h A' c' w' h2 h3 h4)
theorem row_one (w:World) (x:Value) (t:TypeId):Row (w.alloc (.cells #[x] t)) (w.heap.size+1) (some ⟨w.heap.size,0,none⟩) [x]:=by
 intro _
 refine⟨w.heap.size,0,rfl,Nat.lt_succ_self _,fun j u hu=> ?_⟩
 have:=cell_one_new w x t j u hu
 rwa [Addr.add_lit] at this
theorem LC (l:List UInt8): ∀u∈l.map bv,u.oneCell'=true:=by
 intro u hu
 obtain⟨_,_,rfl⟩:=List.mem_map.1 hu
 rfl
def enc (v:Nat):List UInt8:=if v<128 then [UInt8.ofNat v] else UInt8.ofNat (v%128+128)::enc (v/128)
 termination_by v
theorem Kt (v:Nat) (h:v<128):enc v= [UInt8.ofNat v]:=by rw [enc,if_pos h]
theorem PK (v:Nat) (h: ¬v<128):enc v=UInt8.ofNat (v%128+128)::enc (v/128):=by rw [enc,if_neg h]
theorem jX: ∀(n v:Nat),v<128^(n+1)→(enc v).length≤n+1
 | 0,v,h=>by rw [Kt v (by omega)];simp
 | n+1,v,h=>by
  by_cases h1:v<128
  ·rw [Kt v h1];simp
  ·rw [PK v h1]
   have:=jX n (v/128) (by rw [Nat.div_lt_iff_lt_mul (by omega)];rw [Nat.pow_succ] at h;exact h)
   simp;omega
theorem Ag (v:Nat) (h:v<18446744073709551616):(enc v).length≤10:=jX 9 v (Nat.lt_of_lt_of_le h (by decide))
theorem Dv (v:Nat):0<(enc v).length:=by
 by_cases h1:v<128
 ·rw [Kt v h1];simp
 ·rw [PK v h1];simp
theorem ADl (c:Nat) (h:c<256):bits .or .u8 (c:Int) 128=((c%128+128:Nat):Int):=by
 have:=u8_or_nat c 128 h (by omega)
 rw [show((128:Nat):Int)=128 from rfl] at this
 rw [this]
 congr 1
 have: ∀c:Fin 256,c.val||| 128=c.val%128+128:=by decide+kernel
 exact this ⟨c,h⟩
theorem Oe (x:Nat) (h:x<256):bv (UInt8.ofNat x)= .int .u8 (x:Int):=by
 unfold bv
 rw [UInt8.toNat_ofNat_of_lt' (by simpa using h)]
theorem lK {P:Program} (w:World) (base:Nat) (t ty e:TypeId) (i:TypeInfo) (size:Nat) (ht:P.underlying t=some (.slice e)) (hi:P.info? e=some i)
 (v:Value) (n:Nat) (xs:List Value) (hown:w.ownsRow base e size v n xs) (c:Nat):(Builtin.append_ #[t,t] ty #[v,.slice none 0 c]).run P w= .ok v w:=by
 rcases hown.2 with⟨rfl,rfl⟩ | ⟨g,cap,cur,rfl,_,_,hnc,_⟩
 ·simp [Builtin.append_,run_underlying ht,sizeOf,typeInfo,hi,Builtin.lenOf,Builtin.firstCells]
 ·simp [Builtin.append_,run_underlying ht,sizeOf,typeInfo,hi,Builtin.lenOf,Builtin.firstCells,hnc,storeCells]
theorem Nu {w:World} {base size:Nat} {e:TypeId} {v:Value} {n:Nat} {xs:List Value} (h:w.ownsRow base e size v n xs): ∃A c,v= .slice A n c:=by
 rcases h.2 with⟨rfl,rfl⟩ | ⟨g,cap,cur,rfl,_⟩
 ·exact⟨_,_,rfl⟩
 ·exact⟨_,_,rfl⟩
theorem CJ {w w':World} {base size:Nat} {e:TypeId} {v:Value} {n:Nat} {xs:List Value} (h:w.ownsRow base e size v n xs) (hb:Below w.heap.size w w'):w'.ownsRow base e size v n xs:=
 h.kept (row:=some w.heap.size) ⟨hb.os,hb.tape,hb.output,hb.size,fun k hk _=>hb.block k hk⟩ (by
  cases hv:v.ownBlock with
  | none=>exact .inl rfl
  | some k=>right;intro e;injection e with e;have:=(h.lt k hv).2;omega)
theorem Wm {P:Program} (w:World) (base:Nat) (t ty e:TypeId) (i:TypeInfo) (z:Value) (size bytes:Nat) (ht:P.underlying t=some (.slice e)) (hi:P.info? e=some i) (hz:i.zero=some z)
 (hsize:i.size=size) (hby:i.bytes=bytes) (hzs:z.cells.size=size) (hpos:0<size)
 (v:Value) (n:Nat) (xs:List Value) (hown:w.ownsRow base e size v n xs)
 (B:Nat) (A:Option Addr) (m c:Nat) (news:List Value) (hm:news.length=m*size) (hr:Row w B A news) (h1: ∀u∈news,u.oneCell'=true)
 (h63:n+m≤maxLen) (hbytes:(n+m)*bytes≤140737488355328) (hbase:base≤w.heap.size):
 ∃v' w',(Builtin.append_ #[t,t] ty #[v,.slice A m c]).run P w= .ok v' w'∧w'.ownsRow base e size v' (n+m) (xs++news)∧w.grownBy w' v.ownBlock∧
  (v'.ownBlock=v.ownBlock∨v'.ownBlock=some w.heap.size):=by
 rcases A with _ | ad
 ·have hnil:news= []:=by
   rcases Nat.eq_zero_or_pos news.length with h0 | h0
   ·exact List.eq_nil_of_length_eq_zero h0
   ·obtain⟨_,_,h',_⟩:=hr h0
    cases h'
  subst hnil
  have hm0:m=0:=by
   rcases Nat.eq_zero_or_pos m with h0 | h0
   ·exact h0
   ·have:=Nat.mul_pos h0 hpos
    simp at hm;omega
  subst hm0
  exact⟨v,w,lK w base t ty e i size ht hi v n xs hown c,by simpa using hown,World.grownBy.refl w _,.inl rfl⟩
 ·obtain⟨v',w',hrun,h2,h3,_,h5⟩:=run_append_own_at (P:=P) w base t ty e i z size bytes ht hi hz hsize hby hzs hpos v n xs hown ad m c news hm (fun j u hu=>by
   have hj:=(List.getElem?_eq_some_iff.1 hu).1
   obtain⟨b,o,h',_,hc⟩:=hr (by omega)
   injection h' with h'
   subst h'
   rw [Addr.add_lit]
   exact hc j u hu) h1 h63 hbytes hbase
  exact⟨v',w',hrun,h2,h3,h5⟩
theorem Qm {P:Program} (w:World) {ops:Array Oper} {rest:List Oper} {o:Oper} {a:Act} {Q:Exit→Act→World→Prop} (hgd:o.guard=none) (s x:Operand) (t:TypeId)
 (ho:o.op= .call {callee:= .builtin .append,args:= #[s,x],argTypes:= #[t,t]})
 (base:Nat) (e:TypeId) (i:TypeInfo) (z:Value) (size bytes:Nat) (ht:P.underlying t=some (.slice e)) (hi:P.info? e=some i) (hz:i.zero=some z)
 (hsize:i.size=size) (hby:i.bytes=bytes) (hzs:z.cells.size=size) (hpos:0<size)
 (v:Value) (n:Nat) (xs:List Value) (hs:a.eval s=v) (hown:w.ownsRow base e size v n xs)
 (B:Nat) (A:Option Addr) (m c:Nat) (news:List Value) (hx:a.eval x= .slice A m c) (hm:news.length=m*size) (hr:Row w B A news) (h1: ∀u∈news,u.oneCell'=true)
 (h63:n+m≤maxLen) (hbytes:(n+m)*bytes≤140737488355328) (hbase:base≤w.heap.size)
 (h: ∀A' c' w',w'.ownsRow base e size (.slice A' (n+m) c') (n+m) (xs++news)→w.grownBy w' v.ownBlock→((Value.slice A' (n+m) c').ownBlock=v.ownBlock∨(Value.slice A' (n+m) c').ownBlock=some w.heap.size)→wpList P ops Q rest (a.put o.dst (.slice A' (n+m) c')) w'):wpList P ops Q (o::rest) a w:=by
 refine wpList_plain hgd fun _ hK=> ?_
 obtain⟨v',w',hrun,h2,h3,h4⟩:=Wm (P:=P) w base t o.type e i z size bytes ht hi hz hsize hby hzs hpos v n xs hown B A m c news hm hr h1 h63 hbytes hbase
 obtain⟨A',c',rfl⟩:=Nu h2
 unfold Oper.wp execOp
 simp only [ho,resolve,invoke,builtin,Sem.run_bind,Sem.run_pure,Result.andThen_ok,List.map_toArray,List.map_cons,List.map_nil,hs,hx,hrun]
 exact hK _ _ (h A' c' w' h2 h3 h4)
theorem ES {P:Program} {ops:Array Oper} {o:Oper} {a:Act} {w:World} {K:Act→World→Prop} {Q:Exit→Act→World→Prop} {E:Prop}
 (hg:o.guard=none) (s x:Operand) (t:TypeId) (hop:o.op=Op.call {callee:=Callee.builtin Builtin.append,args:= #[s,x],argTypes:= #[t,t]})
 (base:Nat) (e:TypeId) (i:TypeInfo) (z:Value) (size bytes:Nat) (ht:P.underlying t=some (.slice e)) (hi:P.info? e=some i) (hz:i.zero=some z)
 (hsize:i.size=size) (hby:i.bytes=bytes) (hzs:z.cells.size=size) (hpos:0<size)
 (v:Value) (n:Nat) (xs:List Value) (hs:a.eval s=v) (hown:w.ownsRow base e size v n xs)
 (B:Nat) (A:Option Addr) (m c:Nat) (news:List Value) (hx:a.eval x= .slice A m c) (hm:news.length=m*size) (hr:Row w B A news) (h1: ∀u∈news,u.oneCell'=true)
 (h63:n+m≤maxLen) (hbytes:(n+m)*bytes≤140737488355328) (hbase:base≤w.heap.size)
 (h: ∀A' c' w',w'.ownsRow base e size (.slice A' (n+m) c') (n+m) (xs++news)→w.grownBy w' v.ownBlock→((Value.slice A' (n+m) c').ownBlock=v.ownBlock∨(Value.slice A' (n+m) c').ownBlock=some w.heap.size)→K (a.put o.dst (.slice A' (n+m) c')) w'):
 if Region.wanted o (yielded ops a.tmps)=true then Oper.wp P o a w K Q else E:=by
 have hw:Region.wanted o (yielded ops a.tmps)=true:=by simp [Region.wanted,hg]
 rw [if_pos hw]
 obtain⟨v',w',hrun,h2,h3,h4⟩:=Wm (P:=P) w base t o.type e i z size bytes ht hi hz hsize hby hzs hpos v n xs hown B A m c news hm hr h1 h63 hbytes hbase
 obtain⟨A',c',rfl⟩:=Nu h2
 unfold Oper.wp
 simp [execOp,hop,resolve,invoke,builtin,hs,hx,hrun,Result.andThen]
 exact h A' c' w' h2 h3 h4
theorem EB {w w':World} {row:Option Nat} (hg:w.grownBy w' row) {g:Nat} {t:TypeId} {xs:List Value} (h:AV w g t xs) (hn:row≠some g):AV w' g t xs:=
 (hg.block g h.lt (fun e=>hn e.symm)).trans h
theorem Dx (w:World) (cs:List Value) (t:TypeId):Row (w.alloc (.cells cs.toArray t)) (w.heap.size+1) (some ⟨w.heap.size,0,none⟩) cs:=by
 intro _
 refine⟨w.heap.size,0,rfl,Nat.lt_succ_self _,fun j u hu=> ?_⟩
 have:=(AV.new w t cs).cell j
 rw [Nat.zero_add,this,hu]
section
open Go.ChangeShapes Go.WideShapes Go.RowKit
section
variable {H:Type} {enc:TypeId×Value→H} {P:Program} {w:World} {base:Nat} {spare:Nat→Bool} {held:Bool}
theorem ABZ {n:Int} (h:(Lit.int .i64 n).wf=true): -9223372036854775808≤n∧n<9223372036854775808:=by
 simp only [Lit.wf,Bool.and_eq_true,decide_eq_true_eq] at h
 have hmin:IntKind.i64.min= -9223372036854775808:=rfl
 have hmax:IntKind.i64.max=9223372036854775807:=rfl
 omega
theorem qZ {n:Int} (h:(Lit.int .u64 n).wf=true):0≤n∧n<18446744073709551616:=by
 simp only [Lit.wf,Bool.and_eq_true,decide_eq_true_eq] at h
 have hmin:IntKind.u64.min=0:=rfl
 have hmax:IntKind.u64.max=18446744073709551615:=rfl
 omega
theorem ADj {n:Int} (h:(Lit.int .u8 n).wf=true):0≤n∧n<256:=by
 simp only [Lit.wf,Bool.and_eq_true,decide_eq_true_eq] at h
 have hmin:IntKind.u8.min=0:=rfl
 have hmax:IntKind.u8.max=255:=rfl
 omega
end
end
section
structure Rd (α:Type) where
 z:Nat
 R:World→Nat→Nat→List Value→α→Prop
 len: ∀ {W:World} {lo hi:Nat} {cs:List Value} {x:α},R W lo hi cs x→cs.length=z
 keep: ∀ {W W':World} {lo hi:Nat} {cs:List Value} {x:α},(∀p:Addr,lo≤p.block→p.block<hi→W'.cell? p=W.cell? p)→R W lo hi cs x→R W' lo hi cs x
 more: ∀ {W:World} {lo hi lo' hi':Nat} {cs:List Value} {x:α},lo'≤lo→hi≤hi'→R W lo hi cs x→R W lo' hi' cs x
namespace Rd
variable {α β γ:Type}
def at_ (r:Rd α) (W:World) (lo hi b o:Nat) (x:α):Prop:= ∃cs,(∀(j:Nat) u,cs[j]?=some u→W.cell? ⟨b,o+j,none⟩=some u)∧r.R W lo hi cs x
theorem at_.keep {r:Rd α} {W W':World} {lo hi b o:Nat} {x:α} (hb:lo≤b∧b<hi) (hk: ∀p:Addr,lo≤p.block→p.block<hi→W'.cell? p=W.cell? p) (h:r.at_ W lo hi b o x):r.at_ W' lo hi b o x:=by
 obtain⟨cs,hc,hr⟩:=h
 exact⟨cs,fun j u hu=>(hk _ hb.1 hb.2).trans (hc j u hu),r.keep hk hr⟩
theorem at_.more {r:Rd α} {W:World} {lo hi lo' hi' b o:Nat} {x:α} (h1:lo'≤lo) (h2:hi≤hi') (h:r.at_ W lo hi b o x):r.at_ W lo' hi' b o x:=by
 obtain⟨cs,hc,hr⟩:=h
 exact⟨cs,hc,r.more h1 h2 hr⟩
def one (f:α→Value) (ok:α→Prop):Rd α where
 z:=1
 R _ _ _ cs x:=cs= [f x]∧ok x
 len h:=by rw [h.1];rfl
 keep _ h:=h
 more _ _ h:=h
def B64 (n:Nat):Prop:=n<18446744073709551616
def Ej (n:Int):Prop:= -9223372036854775808≤n∧n<9223372036854775808
def B8 (n:Int):Prop:= -128≤n∧n<128
def U6 (s:ByteArray):Prop:=s.size≤140737488351232
def u64:Rd Nat:=one uv B64
def i64:Rd Int:=one (Value.int .i64) Ej
def i8:Rd Int:=one (Value.int .i8) B8
def u8:Rd UInt8:=one bv fun _=>True
def bool:Rd Bool:=one Value.bool fun _=>True
def str:Rd ByteArray:=one Value.string U6
def sl (sp:Bool) (r:Rd α):Rd (List α) where
 z:=1
 R W lo hi cs xs:= ∃A c,cs= [.slice A xs.length c]∧((sp=true→ ∀a,A=some a→a.spot=none)∧xs.length≤c)∧(0<xs.length→ ∃b o,A=some ⟨b,o,none⟩∧lo≤b∧b<hi∧ ∀(k:Nat) x,xs[k]?=some x→r.at_ W lo hi b (o+k*r.z) x)
 len h:=by obtain⟨A,c,rfl,_⟩:=h;rfl
 keep hk h:=by
  obtain⟨A,c,rfl,hs,h⟩:=h
  refine⟨A,c,rfl,hs,fun hn=> ?_⟩
  obtain⟨b,o,e,h1,h2,hx⟩:=h hn
  exact⟨b,o,e,h1,h2,fun k x hkx=>(hx k x hkx).keep ⟨h1,h2⟩ hk⟩
 more h1 h2 h:=by
  obtain⟨A,c,rfl,hs,h⟩:=h
  refine⟨A,c,rfl,hs,fun hn=> ?_⟩
  obtain⟨b,o,e,h3,h4,hx⟩:=h hn
  exact⟨b,o,e,by omega,by omega,fun k x hkx=>(hx k x hkx).more h1 h2⟩
def pair (r:Rd α) (s:Rd β):Rd (α×β) where
 z:=r.z+s.z
 R W lo hi cs x:= ∃c1 c2,cs=c1++c2∧r.R W lo hi c1 x.1∧s.R W lo hi c2 x.2
 len h:=by obtain⟨c1,c2,rfl,h1,h2⟩:=h;rw [List.length_append,r.len h1,s.len h2]
 keep hk h:=by obtain⟨c1,c2,e,h1,h2⟩:=h;exact⟨c1,c2,e,r.keep hk h1,s.keep hk h2⟩
 more h1 h2 h:=by obtain⟨c1,c2,e,h3,h4⟩:=h;exact⟨c1,c2,e,r.more h1 h2 h3,s.more h1 h2 h4⟩
def unit:Rd Unit where
 z:=0
 R _ _ _ cs _:=cs= []
 len h:=by rw [h];rfl
 keep _ h:=h
 more _ _ h:=h
def via (r:Rd α) (f:β→α):Rd β where
 z:=r.z
 R W lo hi cs x:=r.R W lo hi cs (f x)
 len h:=r.len h
 keep hk h:=r.keep hk h
 more h1 h2 h:=r.more h1 h2 h
variable {r:Rd α} {W W':World} {lo hi:Nat} {cs:List Value} {x:α}
theorem below (h:r.R W lo hi cs x) {B:Nat} (hb:Below B W W') (hB:hi≤B):r.R W' lo hi cs x:=
 r.keep (fun p _ h2=>hb.cell (Nat.lt_of_lt_of_le h2 hB)) h
theorem grown (h:r.R W lo hi cs x) {row:Option Nat} (hg:W.grownBy W' row) (hB:hi≤W.heap.size) (hr: ∀k,row=some k→k<lo∨hi≤k):r.R W' lo hi cs x:=
 r.keep (fun p h1 h2=>by
  have hb:=hg.block p.block (by omega) (fun e=>by have:=hr _ e.symm;omega)
  simp [World.cell?,hb]) h
theorem qd {sp:Bool} {f:α→Value} {ok:α→Prop} {A:Option Addr} {n c:Nat} {xs:List α} (h:(sl sp (one f ok)).R W lo hi [.slice A n c] xs):n=xs.length∧Row W hi A (xs.map f):=by
 obtain⟨A',c',he,_,h⟩:=h
 injection he with he _
 injection he with h1 h2 h3
 subst h1 h2
 refine⟨rfl,fun hn=> ?_⟩
 rw [List.length_map] at hn
 obtain⟨b,o,e,_,hlt,hx⟩:=h hn
 refine⟨b,o,e,hlt,fun j u hu=> ?_⟩
 rw [List.getElem?_map] at hu
 cases hxj:xs[j]? with
 | none=>rw [hxj] at hu;cases hu
 | some y=>
  rw [hxj] at hu
  obtain⟨cs,hc,hcs,_⟩:=hx j y hxj
  subst hcs
  have:=hc 0 (f y) rfl
  rw [show(one f ok).z=1 from rfl,Nat.mul_one,Nat.add_zero] at this
  rw [this]
  simpa using hu
theorem qg {sp:Bool} {f:α→Value} {ok:α→Prop} {A:Option Addr} {n c:Nat} {xs:List α} (h:(sl sp (one f ok)).R W lo hi [.slice A n c] xs): ∀x∈xs,ok x:=by
 obtain⟨A',c',he,_,h⟩:=h
 intro x hx
 obtain⟨k,hk,rfl⟩:=List.getElem_of_mem hx
 obtain⟨b,o,e,_,hlt,hx⟩:=h (by omega)
 obtain⟨cs,hc,hcs,hok⟩:=hx k _ (List.getElem?_eq_getElem hk)
 exact hok
end Rd
theorem Row.qh {W:World} {base:Nat} {e:TypeId} {A:Option Addr} {n c m size:Nat} {xs:List Value} (h:W.ownsRow base e size (.slice A n c) m xs): ∀a,A=some a→a.spot=none:=by
 rintro a rfl
 rcases h.2 with⟨hv,_⟩ | ⟨g,cap,cur,hv,_⟩
 ·injection hv with h1;cases h1
 ·injection hv with h1;injection h1 with h1;rw [h1]
theorem Row.few {W:World} {base:Nat} {e:TypeId} {A:Option Addr} {n c size:Nat} {xs:List Value} (h:W.ownsRow base e size (.slice A n c) n xs):n≤c:=by
 rcases h.2 with⟨hv,h0⟩ | ⟨g,cap,cur,hv,_,_,hle,_⟩
 ·injection hv with h1 h2 h3;omega
 ·injection hv with h1 h2 h3;omega
theorem Rd.own {α:Type} (sp:Bool) {r:Rd α} {W:World} {base:Nat} {e:TypeId} {A:Option Addr} {n c:Nat} {vs:List Value} {xs:List α} (h:W.ownsRow base e r.z (.slice A n c) n vs) (hn:n=xs.length)
 (hx: ∀(k:Nat) x,xs[k]?=some x→r.R W base W.heap.size ((vs.drop (k*r.z)).take r.z) x):(r.sl sp).R W base W.heap.size [.slice A n c] xs:=by
 subst hn
 refine⟨A,c,rfl,⟨fun _=>Row.qh h,Row.few h⟩,fun hn=> ?_⟩
 rcases h.2 with⟨_,h0⟩ | ⟨g,cap,cur,hv,hb,hg,_⟩
 ·omega
 ·have hA:A=some ⟨g,0,none⟩:=by injection hv
  subst hA
  refine⟨g,0,rfl,hb,(Array.getElem?_eq_some_iff.1 hg).1,fun k x hk=>⟨_,fun j u hu=> ?_,hx k x hk⟩⟩
  rw [List.getElem?_take] at hu
  split at hu
  ·rw [List.getElem?_drop] at hu
   have:=h.cells (g:=g) rfl (k*r.z+j) u hu
   rw [Addr.add_lit] at this
   simpa [Nat.add_assoc] using this
  ·cases hu
section
variable {α β:Type}
def Opens (P:Program) (t:TypeId) (r:Rd α) (ok:α→Prop):Prop:=P.cellsOf t=r.z∧
 ∀ {H:Type} {enc:TypeId×Value→H} {W:World} {base:Nat} {spare:Nat→Bool} {held:Bool} {n:Nat} {cs:List Value} {x:DataW H×List MemPlace},
  DataW.trod enc P W base spare held n t cs=some x→(∀m∈x.1.weights P t,m≤140737488351232)→ ∃y,r.R W 0 W.heap.size cs y∧ok y
theorem UU {P:Program} {t:TypeId} {k:IntKind} (ht:P.underlying t=some (.int k)) (hc:P.cellsOf t=1) {f:α→Value} {ok:α→Prop} (hf: ∀n:Int,(Lit.int k n).wf=true→ ∃x,f x= .int k n∧ok x):Opens P t (Rd.one f ok) ok:=by
 refine⟨hc,fun h _=> ?_⟩
 obtain⟨n,rfl,_,hw⟩:=DataW.trod_int ht h
 obtain⟨x,hx,hok⟩:=hf n hw
 exact⟨x,⟨by rw [hx],hok⟩,hok⟩
theorem lH {P:Program} {t:TypeId} (ht:P.underlying t=some (.int .u64)) (hc:P.cellsOf t=1):Opens P t Rd.u64 Rd.B64:=
 UU ht hc fun n hn=>⟨n.toNat,by have:=qZ hn;unfold uv;rw [Int.toNat_of_nonneg this.1],by have:=qZ hn;unfold Rd.B64;omega⟩
theorem Yk {P:Program} {t:TypeId} (ht:P.underlying t=some (.int .i64)) (hc:P.cellsOf t=1):Opens P t Rd.i64 Rd.Ej:=
 UU ht hc fun n hn=>⟨n,rfl,ABZ hn⟩
theorem qj {P:Program} {t:TypeId} (ht:P.underlying t=some (.int .u8)) (hc:P.cellsOf t=1):Opens P t Rd.u8 (fun _=>True):=
 UU ht hc fun n hn=>⟨UInt8.ofNat n.toNat,by
  have:=ADj hn
  unfold bv
  rw [UInt8.toNat_ofNat_of_lt' (by simp only [UInt8.size];omega),Int.toNat_of_nonneg this.1],trivial⟩
theorem fq {P:Program} {t:TypeId} (ht:P.underlying t=some .bool) (hc:P.cellsOf t=1):Opens P t Rd.bool (fun _=>True):=by
 refine⟨hc,fun h _=> ?_⟩
 obtain⟨b,rfl,_⟩:=DataW.trod_bool ht h
 exact⟨b,⟨rfl,trivial⟩,trivial⟩
theorem lI {P:Program} {t:TypeId} (ht:P.underlying t=some .string) (hc:P.cellsOf t=1):Opens P t Rd.str Rd.U6:=by
 refine⟨hc,fun h hw=> ?_⟩
 obtain⟨s,rfl,rfl,_⟩:=DataW.trod_string ht h
 have:=hw s.data.toList.length (by simp [DataW.weights])
 exact⟨s,⟨rfl,by simpa [Rd.U6] using this⟩,by simpa [Rd.U6] using this⟩
theorem Qj {H:Type} {P:Program} {e:TypeId}: ∀ {xs:List (DataW H)} {d:DataW H},d∈xs→ ∀m∈d.weights P e,m∈DataW.weightsAll P e xs
 | x::xs,d,h,m,hm=>by
  rw [DataW.weightsAll,List.mem_append]
  rcases List.mem_cons.1 h with rfl | h
  ·exact .inl hm
  ·exact .inr (Qj h m hm)
theorem qm {P:Program} {t e:TypeId} {r:Rd α} {ok:α→Prop} (ht:P.underlying t=some (.slice e)) (hc:P.cellsOf t=1) (he:Opens P e r ok) {jW:Nat} (hby:P.bytesOf e=jW) (hz:0<P.cellsOf e):
 Opens P t (r.sl false) (fun xs=>xs.length*jW≤140737488351232∧ ∀x∈xs,ok x):=by
 refine⟨hc,?_⟩
 intro H enc W base spare held n cs x h hw
 rcases DataW.trod_slice ht h with⟨rfl,rfl⟩ | ⟨a,len,cap,elems,rest,m,rfl,rfl,rfl,_,hlc,hcm,hel,hget,_⟩
 ·exact⟨[],⟨none,0,rfl,⟨fun h=>(by cases h),Nat.le_refl _⟩,fun h=>absurd h (by simp)⟩,by simp,by simp⟩
 ·have key: ∀(k:Nat),k<len→ ∃y:α,ok y∧ ∃cs:List Value,W.cells? base (a.add (k*P.cellsOf e)) (P.cellsOf e)=some cs∧r.R W 0 W.heap.size cs y:=by
   intro k hk
   have hg:=hget k hk
   have hkl:k<elems.length:=by omega
   rw [List.getElem?_eq_getElem hkl] at hg
   obtain⟨cs,hcs,htr⟩:=Option.bind_eq_some_iff.1 hg
   obtain⟨y,hy,hok⟩:=he.2 htr (fun q hq=>hw q (by
    simp only [DataW.weights,ht,List.mem_cons,List.mem_append]
    exact .inr (.inl (Qj (List.mem_map_of_mem (List.getElem_mem hkl)) q hq))))
   exact⟨y,hok,cs,hcs,hy⟩
  have hlist: ∀m:Nat,m≤len→ ∃xs:List α,xs.length=m∧ ∀(k:Nat) y,xs[k]?=some y→ok y∧ ∃cs:List Value,W.cells? base (a.add (k*P.cellsOf e)) (P.cellsOf e)=some cs∧r.R W 0 W.heap.size cs y:=by
   intro m
   induction m with
   | zero=>exact fun _=>⟨[],rfl,by simp⟩
   | succ m ih=>
    intro hm
    obtain⟨xs,hl,hx⟩:=ih (by omega)
    obtain⟨y,hok,cs,hcs,hy⟩:=key m (by omega)
    refine⟨xs++ [y],by simp [hl],fun k u hu=> ?_⟩
    rw [List.getElem?_append] at hu
    split at hu
    ·exact hx k u hu
    ·rename_i hge
     have hk:k=m:=by
      have:=(List.getElem?_eq_some_iff.1 hu).1
      simp at this;omega
     subst hk
     rw [hl,Nat.sub_self] at hu
     simp at hu
     subst hu
     exact⟨hok,cs,hcs,hy⟩
  obtain⟨xs,hl,hx⟩:=hlist len (Nat.le_refl _)
  have hlen:len*jW≤140737488351232:=by
   have:=hw _ (by simp only [DataW.weights,ht];exact List.mem_cons_self ..)
   rw [hby,List.length_map,List.length_map,hel] at this
   exact Nat.le_trans (Nat.mul_le_mul_right _ (by omega)) this
  subst hl
  refine⟨xs,⟨some a,cap,rfl,⟨(fun h=>by cases h),by omega⟩,fun hn=> ?_⟩,hlen,fun y hy=> ?_⟩
  ·obtain⟨_,cs0,ADk,_⟩:=hx 0 _ (List.getElem?_eq_getElem hn)
   have hb:=World.cells?_block ADk hz
   obtain⟨_,hl0,hg0⟩:=World.cells?_some ADk
   have h0:=hg0 0 hz
   rw [List.getElem?_eq_getElem (by omega)] at h0
   have hs0:=World.cell?_spot h0
   obtain⟨b,o,spot⟩:=a
   have hspot:spot=none:=by simpa [Addr.add] using hs0
   subst hspot
   have hbl:b<W.heap.size:=by simpa [Addr.add] using hb
   refine⟨b,o,rfl,Nat.zero_le _,hbl,fun k x hk=> ?_⟩
   obtain⟨_,cs,hcs,hr⟩:=hx k x hk
   obtain⟨_,hl1,hg1⟩:=World.cells?_some hcs
   refine⟨cs,fun j u hu=> ?_,hr⟩
   have hj:=(List.getElem?_eq_some_iff.1 hu).1
   have:=hg1 j (by omega)
   rw [Addr.add_lit,Addr.add_lit,he.1,hu] at this
   rw [←this]
  ·obtain⟨k,hk,rfl⟩:=List.getElem_of_mem hy
   exact(hx k _ (List.getElem?_eq_getElem hk)).1
structure ZQ (P:Program) (fs:List Field) (off:Nat) (r:Rd α) (ok:α→Prop):Prop where
 out: ∀ {H:Type} {enc:TypeId×Value→H} {W:World} {base:Nat} {spare:Nat→Bool} {held:Bool} {n:Nat} {cs:List Value} {xs:List (DataW H×List MemPlace)},
  cs.length=off+r.z→fs.map (fun f=>DataW.trod enc P W base spare held n f.type ((cs.drop f.offset).take (P.cellsOf f.type)))=xs.map some→
  (∀m∈DataW.weightsEach P (fs.map (·.type)) (xs.map (·.1)),m≤140737488351232)→ ∃y,r.R W 0 W.heap.size (cs.drop off) y∧ok y
theorem Kj {P:Program} {off:Nat}:ZQ P [] off Rd.unit (fun _=>True):=by
 constructor
 intro H enc W base spare held n cs xs hl _ _
 exact⟨(),by show cs.drop off= [];exact List.drop_eq_nil_of_le (by rw [hl];exact Nat.le_refl _),trivial⟩
theorem Ap {P:Program} {f:Field} {fs:List Field} {off:Nat} {r:Rd α} {s:Rd β} {ok:α→Prop} {ok2:β→Prop} (hf:f.offset=off) (h1:Opens P f.type r ok) (h2:ZQ P fs (off+r.z) s ok2):
 ZQ P (f::fs) off (r.pair s) (fun x=>ok x.1∧ok2 x.2):=by
 constructor
 intro H enc W base spare held n cs xs hl hx hw
 cases xs with
 | nil=>cases hx
 | cons x xs=>
  simp only [List.map_cons,List.cons.injEq] at hx
  obtain⟨hx,hxs⟩:=hx
  simp only [List.map_cons,DataW.weightsEach,List.mem_append] at hw
  have hlen:cs.length=off+(r.z+s.z):=hl
  obtain⟨y,hy,hok⟩:=h1.2 hx (fun m hm=>hw m (.inl hm))
  obtain⟨y2,hy2,hok2⟩:=h2.out (cs:=cs) (by rw [hlen,Nat.add_assoc]) hxs (fun m hm=>hw m (.inr hm))
  refine⟨(y,y2),⟨_,_,?_,hy,hy2⟩,hok,hok2⟩
  rw [hf,h1.1,←List.drop_drop,List.take_append_drop]
theorem Ih {P:Program} {t:TypeId} {fs:Array Field} {r:Rd α} {ok:α→Prop} (ht:P.underlying t=some (.struct fs)) (hc:P.cellsOf t=r.z) (h:ZQ P fs.toList 0 r ok):Opens P t r ok:=by
 refine⟨hc,?_⟩
 intro H enc W base spare held n cs x hx hw
 obtain⟨xs,m,rfl,rfl,hl,hlen,hf⟩:=DataW.trod_struct ht hx
 obtain⟨y,hy,hok⟩:=h.out (enc:=enc) (W:=W) (base:=base) (spare:=spare) (held:=held) (n:=m) (cs:=cs) (xs:=xs) (by rw [hl,hc,Nat.zero_add]) (by
  refine List.ext_getElem? fun i=> ?_
  rw [List.getElem?_map,List.getElem?_map]
  cases hi:fs.toList[i]? with
  | none=>
   have hge:fs.size≤i:=by simpa using List.getElem?_eq_none_iff.1 hi
   rw [List.getElem?_eq_none (by omega)];rfl
  | some f=>
   have hfi:fs[i]?=some f:=by simpa using hi
   have hlt:i<xs.length:=by rw [hlen];exact(Array.getElem?_eq_some_iff.1 hfi).1
   have:=hf i f hfi
   rw [List.getElem?_eq_getElem hlt] at this⊢
   simpa using this) (by
  intro q hq
  apply hw q
  simp only [DataW.weights,ht]
  exact hq)
 exact⟨y,by simpa using hy,hok⟩
theorem MW {P:Program} {t:TypeId} {r:Rd α} {ok:α→Prop} (h:Opens P t r ok) (f:β→α) (g:α→β) (hfg: ∀a,f (g a)=a):Opens P t (r.via f) (fun b=>ok (f b)):=by
 refine⟨h.1,fun hx hw=> ?_⟩
 obtain⟨y,hy,hok⟩:=h.2 hx hw
 exact⟨g y,by show r.R _ _ _ _ (f (g y));rw [hfg];exact hy,by show ok (f (g y));rw [hfg];exact hok⟩
theorem lJ {P:Program} {t:TypeId} {r:Rd α} {ok:α→Prop} (h:Opens P t r ok) {H:Type} {enc:TypeId×Value→H} {W:World} {base:Nat} {spare:Nat→Bool} {held:Bool} {v:Value} {d:DataW H} {p:List MemPlace}
 (hv:DataW.Trod enc P W base spare held t v d p) {ts:List TypeId} {ds:List (DataW H)} {j:Nat} (hs:(DataW.weightsEach P ts ds).all (· ≤reachBytes)=true) (ht:ts[j]?=some t) (hd:ds[j]?=some d):
 ∃y,r.R W 0 W.heap.size v.cells.toList y∧ok y:=by
 obtain⟨n,hv⟩:=hv
 refine h.2 hv fun m hm=> ?_
 have:=List.all_eq_true.1 hs m (DataW.weights_mem_each ht hd m hm)
 exact of_decide_eq_true this
end
end
theorem NW {α:Type} {r:Rd α} {sp:Bool} {W:World} {lo hi:Nat} {A:Option Addr} {n c:Nat} {xs:List α} (h:(r.sl sp).R W lo hi [.slice A n c] xs) {k:Nat} {x:α} (hk:xs[k]?=some x):
 ∃b o,A=some ⟨b,o,none⟩∧lo≤b∧b<hi∧ ∃cs,(∀(j:Nat) u,cs[j]?=some u→W.cell? ⟨b,o+k*r.z+j,none⟩=some u)∧r.R W lo hi cs x:=by
 obtain⟨A',c',he,_,h⟩:=h
 injection he with he _
 injection he with h1 h2 h3
 subst h1 h2
 have hlt:=(List.getElem?_eq_some_iff.1 hk).1
 obtain⟨b,o,e,hlo,hhi,hx⟩:=h (by omega)
 obtain⟨cs,hc,hr⟩:=hx k x hk
 exact⟨b,o,e,hlo,hhi,cs,hc,hr⟩
theorem D5 {α:Type} {r:Rd α} {sp:Bool} {W:World} {lo hi:Nat} {A:Option Addr} {n c:Nat} {xs:List α} (h:(r.sl sp).R W lo hi [.slice A n c] xs):n=xs.length:=by
 obtain⟨A',c',he,_⟩:=h
 injection he with he _
 injection he with h1 h2 h3
theorem qo {α:Type} {r:Rd α} {W:World} {lo hi:Nat} {A:Option Addr} {c:Nat}:(r.sl false).R W lo hi [.slice A 0 c] []:=⟨A,c,rfl,⟨fun h=>(by cases h),Nat.zero_le _⟩,fun h=>absurd h (by simp)⟩
theorem AU {α:Type} {r:Rd α} {sp:Bool} {W:World} {lo hi:Nat} {v:Value} {xs:List α} (h:(r.sl sp).R W lo hi [v] xs): ∃A c,v= .slice A xs.length c:=by
 obtain⟨A,c,he,_⟩:=h
 injection he with he _
 exact⟨A,c,he⟩
theorem Pt {α:Type} {r:Rd α} {sp:Bool} {W:World} {lo hi:Nat} {cs:List Value} {xs:List α} (h:(r.sl sp).R W lo hi cs xs): ∃v,cs= [v]∧(r.sl sp).R W lo hi [v] xs:=by
 have h0:=h
 obtain⟨A,c,he,_⟩:=h0
 exact⟨_,he,he▸h⟩
structure Dl where
 p:ByteArray
 r:ByteArray
def Mr:Rd Dl:=(Rd.str.pair (Rd.str.pair Rd.unit)).via (fun x=>(x.p,x.r,()))
theorem Qk {W:World} {lo hi:Nat} {cs:List Value} {x:Dl}:Mr.R W lo hi cs x↔cs= [Value.string x.p,Value.string x.r]∧Rd.U6 x.p∧Rd.U6 x.r:=by
 constructor
 ·rintro⟨c_p,r_p,rfl,h_p,⟨c_r,r_r,rfl,h_r,rfl⟩⟩
  obtain⟨rfl,h_p⟩:=h_p
  obtain⟨rfl,h_r⟩:=h_r
  exact⟨rfl,h_p,h_r⟩
 ·rintro⟨rfl,h_p,h_r⟩
  exact⟨[Value.string x.p],[Value.string x.r],rfl,⟨rfl,h_p⟩,⟨[Value.string x.r],[],rfl,⟨rfl,h_r⟩,rfl⟩⟩
theorem Ii {sp:Bool} {W:World} {lo hi:Nat} {A:Option Addr} {n c:Nat} {xs:List Dl} (h:(Mr.sl sp).R W lo hi [.slice A n c] xs) {k:Nat} {x:Dl} (hk:xs[k]?=some x):
 ∃(b o:Nat),A=some ⟨b,o,none⟩∧lo≤b∧b<hi∧W.cell? ⟨b,o+k*2,none⟩=some (.string x.p)∧W.cell? ⟨b,o+k*2+1,none⟩=some (.string x.r)∧Rd.U6 x.p∧Rd.U6 x.r:=by
 obtain⟨b,o,e,h1,h2,cs,hc,hr⟩:=NW h hk
 obtain⟨rfl,h_p,h_r⟩:=Qk.1 hr
 exact⟨b,o,e,h1,h2,hc 0 _ rfl,hc 1 _ rfl,h_p,h_r⟩
structure Ep where
 l:UInt8
 m:Bool
 v:Nat
def JG:Rd Ep:=(Rd.u8.pair (Rd.bool.pair (Rd.u64.pair Rd.unit))).via (fun x=>(x.l,x.m,x.v,()))
theorem Ns {W:World} {lo hi:Nat} {cs:List Value} {x:Ep}:JG.R W lo hi cs x↔cs= [bv x.l,Value.bool x.m,uv x.v]∧Rd.B64 x.v:=by
 constructor
 ·rintro⟨Nt,r_l,rfl,Ql,⟨c_m,r_m,rfl,h_m,⟨c_v,r_v,rfl,h_v,rfl⟩⟩⟩
  obtain⟨rfl,_⟩:=Ql
  obtain⟨rfl,_⟩:=h_m
  obtain⟨rfl,h_v⟩:=h_v
  exact⟨rfl,h_v⟩
 ·rintro⟨rfl,h_v⟩
  exact⟨[bv x.l],[Value.bool x.m,uv x.v],rfl,⟨rfl,trivial⟩,⟨[Value.bool x.m],[uv x.v],rfl,⟨rfl,trivial⟩,⟨[uv x.v],[],rfl,⟨rfl,h_v⟩,rfl⟩⟩⟩
theorem K_ {sp:Bool} {W:World} {lo hi:Nat} {A:Option Addr} {n c:Nat} {xs:List Ep} (h:(JG.sl sp).R W lo hi [.slice A n c] xs) {k:Nat} {x:Ep} (hk:xs[k]?=some x):
 ∃(b o:Nat),A=some ⟨b,o,none⟩∧lo≤b∧b<hi∧W.cell? ⟨b,o+k*3,none⟩=some (.int .u8 (x.l.toNat:Int))∧W.cell? ⟨b,o+k*3+1,none⟩=some (.bool x.m)∧W.cell? ⟨b,o+k*3+2,none⟩=some (.int .u64 (x.v:Int))∧Rd.B64 x.v:=by
 obtain⟨b,o,e,h1,h2,cs,hc,hr⟩:=NW h hk
 obtain⟨rfl,h_v⟩:=Ns.1 hr
 exact⟨b,o,e,h1,h2,hc 0 _ rfl,hc 1 _ rfl,hc 2 _ rfl,h_v⟩
structure Av where
 op:UInt8
 a:Int
 l:List Int
def I_:Rd Av:=(Rd.u8.pair (Rd.i64.pair ((Rd.i64.sl false).pair Rd.unit))).via (fun x=>(x.op,x.a,x.l,()))
theorem D9 {W:World} {lo hi:Nat} {cs:List Value} {x:Av}:I_.R W lo hi cs x↔ ∃fu:Value,cs= [bv x.op,Value.int .i64 x.a,fu]∧Rd.Ej x.a∧(Rd.i64.sl false).R W lo hi [fu] x.l:=by
 constructor
 ·rintro⟨c_op,r_op,rfl,h_op,⟨c_a,r_a,rfl,WI,⟨Nt,r_l,rfl,Ql,rfl⟩⟩⟩
  obtain⟨rfl,_⟩:=h_op
  obtain⟨rfl,WI⟩:=WI
  obtain⟨fu,rfl,Ql⟩:=Pt Ql
  exact⟨fu,rfl,WI,Ql⟩
 ·rintro⟨fu,rfl,WI,Ql⟩
  exact⟨[bv x.op],[Value.int .i64 x.a,fu],rfl,⟨rfl,trivial⟩,⟨[Value.int .i64 x.a],[fu],rfl,⟨rfl,WI⟩,⟨[fu],[],rfl,Ql,rfl⟩⟩⟩
theorem Nf {sp:Bool} {W:World} {lo hi:Nat} {A:Option Addr} {n c:Nat} {xs:List Av} (h:(I_.sl sp).R W lo hi [.slice A n c] xs) {k:Nat} {x:Av} (hk:xs[k]?=some x):
 ∃(b o:Nat) (OT:Option Addr) (Nt:Nat),A=some ⟨b,o,none⟩∧lo≤b∧b<hi∧W.cell? ⟨b,o+k*3,none⟩=some (.int .u8 (x.op.toNat:Int))∧W.cell? ⟨b,o+k*3+1,none⟩=some (.int .i64 x.a)∧W.cell? ⟨b,o+k*3+2,none⟩=some (.slice OT x.l.length Nt)∧Rd.Ej x.a∧(Rd.i64.sl false).R W lo hi [.slice OT x.l.length Nt] x.l:=by
 obtain⟨b,o,e,h1,h2,cs,hc,hr⟩:=NW h hk
 obtain⟨fu,rfl,WI,Ql⟩:=D9.1 hr
 obtain⟨OT,Nt,rfl⟩:=AU Ql
 exact⟨b,o,OT,Nt,e,h1,h2,hc 0 _ rfl,hc 1 _ rfl,hc 2 _ rfl,WI,Ql⟩
structure FL where
 t:Int
 loc:ByteArray
 code:List Av
def Tf:Rd FL:=(Rd.i64.pair (Rd.str.pair ((I_.sl false).pair Rd.unit))).via (fun x=>(x.t,x.loc,x.code,()))
theorem Ob {W:World} {lo hi:Nat} {cs:List Value} {x:FL}:Tf.R W lo hi cs x↔ ∃Ox:Value,cs= [Value.int .i64 x.t,Value.string x.loc,Ox]∧Rd.Ej x.t∧Rd.U6 x.loc∧(I_.sl false).R W lo hi [Ox] x.code:=by
 constructor
 ·rintro⟨c_t,r_t,rfl,qB,⟨c_loc,r_loc,rfl,QW,⟨Gu,r_code,rfl,JA,rfl⟩⟩⟩
  obtain⟨rfl,qB⟩:=qB
  obtain⟨rfl,QW⟩:=QW
  obtain⟨Ox,rfl,JA⟩:=Pt JA
  exact⟨Ox,rfl,qB,QW,JA⟩
 ·rintro⟨Ox,rfl,qB,QW,JA⟩
  exact⟨[Value.int .i64 x.t],[Value.string x.loc,Ox],rfl,⟨rfl,qB⟩,⟨[Value.string x.loc],[Ox],rfl,⟨rfl,QW⟩,⟨[Ox],[],rfl,JA,rfl⟩⟩⟩
theorem Oy {sp:Bool} {W:World} {lo hi:Nat} {A:Option Addr} {n c:Nat} {xs:List FL} (h:(Tf.sl sp).R W lo hi [.slice A n c] xs) {k:Nat} {x:FL} (hk:xs[k]?=some x):
 ∃(b o:Nat) (G_:Option Addr) (Gu:Nat),A=some ⟨b,o,none⟩∧lo≤b∧b<hi∧W.cell? ⟨b,o+k*3,none⟩=some (.int .i64 x.t)∧W.cell? ⟨b,o+k*3+1,none⟩=some (.string x.loc)∧W.cell? ⟨b,o+k*3+2,none⟩=some (.slice G_ x.code.length Gu)∧Rd.Ej x.t∧Rd.U6 x.loc∧(I_.sl false).R W lo hi [.slice G_ x.code.length Gu] x.code:=by
 obtain⟨b,o,e,h1,h2,cs,hc,hr⟩:=NW h hk
 obtain⟨Ox,rfl,qB,QW,JA⟩:=Ob.1 hr
 obtain⟨G_,Gu,rfl⟩:=AU JA
 exact⟨b,o,G_,Gu,e,h1,h2,hc 0 _ rfl,hc 1 _ rfl,hc 2 _ rfl,qB,QW,JA⟩
structure EZ where
 at_:Int
 b:List UInt8
def Kz:Rd EZ:=(Rd.i64.pair ((Rd.u8.sl false).pair Rd.unit)).via (fun x=>(x.at_,x.b,()))
theorem N7 {W:World} {lo hi:Nat} {cs:List Value} {x:EZ}:Kz.R W lo hi cs x↔ ∃xX:Value,cs= [Value.int .i64 x.at_,xX]∧Rd.Ej x.at_∧(Rd.u8.sl false).R W lo hi [xX] x.b:=by
 constructor
 ·rintro⟨c_at_,r_at_,rfl,QX,⟨Rl,r_b,rfl,f_,rfl⟩⟩
  obtain⟨rfl,QX⟩:=QX
  obtain⟨xX,rfl,f_⟩:=Pt f_
  exact⟨xX,rfl,QX,f_⟩
 ·rintro⟨xX,rfl,QX,f_⟩
  exact⟨[Value.int .i64 x.at_],[xX],rfl,⟨rfl,QX⟩,⟨[xX],[],rfl,f_,rfl⟩⟩
theorem Jd {sp:Bool} {W:World} {lo hi:Nat} {A:Option Addr} {n c:Nat} {xs:List EZ} (h:(Kz.sl sp).R W lo hi [.slice A n c] xs) {k:Nat} {x:EZ} (hk:xs[k]?=some x):
 ∃(b o:Nat) (Sb:Option Addr) (Rl:Nat),A=some ⟨b,o,none⟩∧lo≤b∧b<hi∧W.cell? ⟨b,o+k*2,none⟩=some (.int .i64 x.at_)∧W.cell? ⟨b,o+k*2+1,none⟩=some (.slice Sb x.b.length Rl)∧Rd.Ej x.at_∧(Rd.u8.sl false).R W lo hi [.slice Sb x.b.length Rl] x.b:=by
 obtain⟨b,o,e,h1,h2,cs,hc,hr⟩:=NW h hk
 obtain⟨xX,rfl,QX,f_⟩:=N7.1 hr
 obtain⟨Sb,Rl,rfl⟩:=AU f_
 exact⟨b,o,Sb,Rl,e,h1,h2,hc 0 _ rfl,hc 1 _ rfl,QX,f_⟩
structure LA where
 n:ByteArray
 f:Int
def M_:Rd LA:=(Rd.str.pair (Rd.i64.pair Rd.unit)).via (fun x=>(x.n,x.f,()))
theorem Wj {W:World} {lo hi:Nat} {cs:List Value} {x:LA}:M_.R W lo hi cs x↔cs= [Value.string x.n,Value.int .i64 x.f]∧Rd.U6 x.n∧Rd.Ej x.f:=by
 constructor
 ·rintro⟨c_n,r_n,rfl,h_n,⟨c_f,r_f,rfl,h_f,rfl⟩⟩
  obtain⟨rfl,h_n⟩:=h_n
  obtain⟨rfl,h_f⟩:=h_f
  exact⟨rfl,h_n,h_f⟩
 ·rintro⟨rfl,h_n,h_f⟩
  exact⟨[Value.string x.n],[Value.int .i64 x.f],rfl,⟨rfl,h_n⟩,⟨[Value.int .i64 x.f],[],rfl,⟨rfl,h_f⟩,rfl⟩⟩
theorem LB {sp:Bool} {W:World} {lo hi:Nat} {A:Option Addr} {n c:Nat} {xs:List LA} (h:(M_.sl sp).R W lo hi [.slice A n c] xs) {k:Nat} {x:LA} (hk:xs[k]?=some x):
 ∃(b o:Nat),A=some ⟨b,o,none⟩∧lo≤b∧b<hi∧W.cell? ⟨b,o+k*2,none⟩=some (.string x.n)∧W.cell? ⟨b,o+k*2+1,none⟩=some (.int .i64 x.f)∧Rd.U6 x.n∧Rd.Ej x.f:=by
 obtain⟨b,o,e,h1,h2,cs,hc,hr⟩:=NW h hk
 obtain⟨rfl,h_n,h_f⟩:=Wj.1 hr
 exact⟨b,o,e,h1,h2,hc 0 _ rfl,hc 1 _ rfl,h_n,h_f⟩
structure AQ where
 types:List Dl
 hosts:List Int
 globs:List Ep
 first:Int
 most:Int
 fns:List FL
 dat:List EZ
 AO:List LA
def IZ:Rd AQ:=((Mr.sl false).pair ((Rd.i64.sl false).pair ((JG.sl false).pair (Rd.i64.pair (Rd.i64.pair ((Tf.sl false).pair ((Kz.sl false).pair ((M_.sl false).pair Rd.unit)))))))).via (fun x=>(x.types,x.hosts,x.globs,x.first,x.most,x.fns,x.dat,x.AO,()))
theorem DF {W:World} {lo hi:Nat} {cs:List Value} {x:AQ}:IZ.R W lo hi cs x↔ ∃Oc Ng Mh PE Od Kk:Value,cs= [Oc,Ng,Mh,Value.int .i64 x.first,Value.int .i64 x.most,PE,Od,Kk]∧(Mr.sl false).R W lo hi [Oc] x.types∧(Rd.i64.sl false).R W lo hi [Ng] x.hosts∧(JG.sl false).R W lo hi [Mh] x.globs∧Rd.Ej x.first∧Rd.Ej x.most∧(Tf.sl false).R W lo hi [PE] x.fns∧(Kz.sl false).R W lo hi [Od] x.dat∧(M_.sl false).R W lo hi [Kk] x.AO:=by
 constructor
 ·rintro⟨Q9,r_types,rfl,Je,⟨Q_,r_hosts,rfl,Jf,⟨RA,r_globs,rfl,Jg,⟨c_first,r_first,rfl,Nh,⟨c_most,r_most,rfl,Pv,⟨Yl,r_fns,rfl,PG,⟨Ym,r_dat,rfl,PI,⟨UW,r_exps,rfl,MX,rfl⟩⟩⟩⟩⟩⟩⟩⟩
  obtain⟨Oc,rfl,Je⟩:=Pt Je
  obtain⟨Ng,rfl,Jf⟩:=Pt Jf
  obtain⟨Mh,rfl,Jg⟩:=Pt Jg
  obtain⟨rfl,Nh⟩:=Nh
  obtain⟨rfl,Pv⟩:=Pv
  obtain⟨PE,rfl,PG⟩:=Pt PG
  obtain⟨Od,rfl,PI⟩:=Pt PI
  obtain⟨Kk,rfl,MX⟩:=Pt MX
  exact⟨Oc,Ng,Mh,PE,Od,Kk,rfl,Je,Jf,Jg,Nh,Pv,PG,PI,MX⟩
 ·rintro⟨Oc,Ng,Mh,PE,Od,Kk,rfl,Je,Jf,Jg,Nh,Pv,PG,PI,MX⟩
  exact⟨[Oc],[Ng,Mh,Value.int .i64 x.first,Value.int .i64 x.most,PE,Od,Kk],rfl,Je,⟨[Ng],[Mh,Value.int .i64 x.first,Value.int .i64 x.most,PE,Od,Kk],rfl,Jf,⟨[Mh],[Value.int .i64 x.first,Value.int .i64 x.most,PE,Od,Kk],rfl,Jg,⟨[Value.int .i64 x.first],[Value.int .i64 x.most,PE,Od,Kk],rfl,⟨rfl,Nh⟩,⟨[Value.int .i64 x.most],[PE,Od,Kk],rfl,⟨rfl,Pv⟩,⟨[PE],[Od,Kk],rfl,PG,⟨[Od],[Kk],rfl,PI,⟨[Kk],[],rfl,MX,rfl⟩⟩⟩⟩⟩⟩⟩⟩
end Go.Proofs.YtebgikflpgcnlaaGreatDoor
