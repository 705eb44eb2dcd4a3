/- Part 3 of the proof: AppZ Gath CopyA Lists Size Fold StrP -/
import Derived.Deep.RegionLaw
import Derived.Deep.Onto
import Derived.Test.YtlagonfamllgjaaGreatDoorProg
import Derived.KernelRfl
import Derived.Handy
import Derived.BigQuiet
import Derived.Deep.CutBlock
import Derived.Deep.DeepCutAuto
import Derived.Laws.Strings
import Derived.Test.YtlagonfamllgjaaGreatDoorK02
namespace Go.Proofs.YtlagonfamllgjaaGreatDoor
set_option linter.unusedVariables false
set_option linter.unusedSimpArgs false
set_option maxRecDepth 100000
set_option maxHeartbeats 4000000
open Go.RowKit Tryz
theorem eZ {P:Program} (w:World) (base:Nat) (t ty e:TypeId) (i:TypeInfo) (size:Nat) (ht:P.underlying t=some (.slice e)) (hi:P.info? e=some i)
 (v:Value) (n:Nat) (xs:List Value) (hown:w.ownsRow base e size v n xs) (c:Nat):(Builtin.append_ #[t,t] ty #[v,.slice none 0 c]).run P w= .ok v w:=by
 rcases hown.2 with⟨rfl,rfl⟩ | ⟨g,cap,cur,rfl,_,_,hnc,_⟩
 ·simp [Builtin.append_,run_underlying ht,sizeOf,typeInfo,hi,Builtin.lenOf,Builtin.firstCells]
 ·simp [Builtin.append_,run_underlying ht,sizeOf,typeInfo,hi,Builtin.lenOf,Builtin.firstCells,hnc,storeCells]
theorem NC {w:World} {base size:Nat} {e:TypeId} {v:Value} {n:Nat} {xs:List Value} (h:w.ownsRow base e size v n xs): ∃A c,v= .slice A n c:=by
 rcases h.2 with⟨rfl,rfl⟩ | ⟨g,cap,cur,rfl,_⟩
 ·exact⟨_,_,rfl⟩
 ·exact⟨_,_,rfl⟩
theorem BK {w w':World} {base size:Nat} {e:TypeId} {v:Value} {n:Nat} {xs:List Value} (h:w.ownsRow base e size v n xs) (hg:w.grownBy w' v.ownBlock) (hB:base≤w.heap.size):Below base w w':=
 (Below.refl base w).grown hg hB fun k hk=>(h.lt k hk).1
theorem FY {w w':World} {base size:Nat} {e:TypeId} {v:Value} {n:Nat} {xs:List Value} (h:w.ownsRow base e size v n xs) (hb:Below w.heap.size w w'):w'.ownsRow base e size v n xs:=
 h.kept (row:=some w.heap.size) ⟨hb.os,hb.tape,hb.output,hb.size,fun k hk _=>hb.block k hk⟩ (by
  cases hv:v.ownBlock with
  | none=>exact .inl rfl
  | some k=>right;intro e;injection e with e;have:=(h.lt k hv).2;omega)
theorem Rv {P:Program} (w:World) (base:Nat) (t ty e:TypeId) (i:TypeInfo) (z:Value) (size bytes:Nat) (ht:P.underlying t=some (.slice e)) (hi:P.info? e=some i) (hz:i.zero=some z)
 (hsize:i.size=size) (hby:i.bytes=bytes) (hzs:z.cells.size=size) (hpos:0<size)
 (v:Value) (n:Nat) (xs:List Value) (hown:w.ownsRow base e size v n xs)
 (B:Nat) (A:Option Addr) (m c:Nat) (news:List Value) (hm:news.length=m*size) (hr:Row w B A news) (h1: ∀u∈news,u.oneCell'=true)
 (h63:n+m≤maxLen) (hbytes:(n+m)*bytes≤140737488355328) (hbase:base≤w.heap.size):
 ∃v' w',(Builtin.append_ #[t,t] ty #[v,.slice A m c]).run P w= .ok v' w'∧w'.ownsRow base e size v' (n+m) (xs++news)∧w.grownBy w' v.ownBlock∧
  (v'.ownBlock=v.ownBlock∨v'.ownBlock=some w.heap.size):=by
 rcases A with _ | ad
 ·have hnil:news= []:=by
   rcases Nat.eq_zero_or_pos news.length with h0 | h0
   ·exact List.eq_nil_of_length_eq_zero h0
   ·obtain⟨_,_,h',_⟩:=hr h0
    cases h'
  subst hnil
  have hm0:m=0:=by
   rcases Nat.eq_zero_or_pos m with h0 | h0
   ·exact h0
   ·have:=Nat.mul_pos h0 hpos
    simp at hm;omega
  subst hm0
  exact⟨v,w,eZ w base t ty e i size ht hi v n xs hown c,by simpa using hown,World.grownBy.refl w _,.inl rfl⟩
 ·obtain⟨v',w',hrun,h2,h3,_,h5⟩:=run_append_own_at (P:=P) w base t ty e i z size bytes ht hi hz hsize hby hzs hpos v n xs hown ad m c news hm (fun j u hu=>by
   have hj:=(List.getElem?_eq_some_iff.1 hu).1
   obtain⟨b,o,h',_,hc⟩:=hr (by omega)
   injection h' with h'
   subst h'
   rw [Addr.add_lit]
   exact hc j u hu) h1 h63 hbytes hbase
  exact⟨v',w',hrun,h2,h3,h5⟩
theorem BP {P:Program} (w:World) {ops:Array Oper} {rest:List Oper} {o:Oper} {a:Act} {Q:Exit→Act→World→Prop} (hgd:o.guard=none) (s x:Operand) (t:TypeId)
 (ho:o.op= .call {callee:= .builtin .append,args:= #[s,x],argTypes:= #[t,t]})
 (base:Nat) (e:TypeId) (i:TypeInfo) (z:Value) (size bytes:Nat) (ht:P.underlying t=some (.slice e)) (hi:P.info? e=some i) (hz:i.zero=some z)
 (hsize:i.size=size) (hby:i.bytes=bytes) (hzs:z.cells.size=size) (hpos:0<size)
 (v:Value) (n:Nat) (xs:List Value) (hs:a.eval s=v) (hown:w.ownsRow base e size v n xs)
 (B:Nat) (A:Option Addr) (m c:Nat) (news:List Value) (hx:a.eval x= .slice A m c) (hm:news.length=m*size) (hr:Row w B A news) (h1: ∀u∈news,u.oneCell'=true)
 (h63:n+m≤maxLen) (hbytes:(n+m)*bytes≤140737488355328) (hbase:base≤w.heap.size)
 (h: ∀A' c' w',w'.ownsRow base e size (.slice A' (n+m) c') (n+m) (xs++news)→w.grownBy w' v.ownBlock→((Value.slice A' (n+m) c').ownBlock=v.ownBlock∨(Value.slice A' (n+m) c').ownBlock=some w.heap.size)→wpList P ops Q rest (a.put o.dst (.slice A' (n+m) c')) w'):wpList P ops Q (o::rest) a w:=by
 refine wpList_plain hgd fun _ hK=> ?_
 obtain⟨v',w',hrun,h2,h3,h4⟩:=Rv (P:=P) w base t o.type e i z size bytes ht hi hz hsize hby hzs hpos v n xs hown B A m c news hm hr h1 h63 hbytes hbase
 obtain⟨A',c',rfl⟩:=NC h2
 unfold Oper.wp execOp
 simp only [ho,resolve,invoke,builtin,Sem.run_bind,Sem.run_pure,Result.andThen_ok,List.map_toArray,List.map_cons,List.map_nil,hs,hx,hrun]
 exact hK _ _ (h A' c' w' h2 h3 h4)
theorem Ur {P:Program} {ops:Array Oper} {o:Oper} {a:Act} {w:World} {K:Act→World→Prop} {Q:Exit→Act→World→Prop} {E:Prop}
 (hg:o.guard=none) (s x:Operand) (t:TypeId) (hop:o.op=Op.call {callee:=Callee.builtin Builtin.append,args:= #[s,x],argTypes:= #[t,t]})
 (base:Nat) (e:TypeId) (i:TypeInfo) (z:Value) (size bytes:Nat) (ht:P.underlying t=some (.slice e)) (hi:P.info? e=some i) (hz:i.zero=some z)
 (hsize:i.size=size) (hby:i.bytes=bytes) (hzs:z.cells.size=size) (hpos:0<size)
 (v:Value) (n:Nat) (xs:List Value) (hs:a.eval s=v) (hown:w.ownsRow base e size v n xs)
 (B:Nat) (A:Option Addr) (m c:Nat) (news:List Value) (hx:a.eval x= .slice A m c) (hm:news.length=m*size) (hr:Row w B A news) (h1: ∀u∈news,u.oneCell'=true)
 (h63:n+m≤maxLen) (hbytes:(n+m)*bytes≤140737488355328) (hbase:base≤w.heap.size)
 (h: ∀A' c' w',w'.ownsRow base e size (.slice A' (n+m) c') (n+m) (xs++news)→w.grownBy w' v.ownBlock→((Value.slice A' (n+m) c').ownBlock=v.ownBlock∨(Value.slice A' (n+m) c').ownBlock=some w.heap.size)→K (a.put o.dst (.slice A' (n+m) c')) w'):
 if Region.wanted o (yielded ops a.tmps)=true then Oper.wp P o a w K Q else E:=by
 have hw:Region.wanted o (yielded ops a.tmps)=true:=by simp [Region.wanted,hg]
 rw [if_pos hw]
 obtain⟨v',w',hrun,h2,h3,h4⟩:=Rv (P:=P) w base t o.type e i z size bytes ht hi hz hsize hby hzs hpos v n xs hown B A m c news hm hr h1 h63 hbytes hbase
 obtain⟨A',c',rfl⟩:=NC h2
 unfold Oper.wp
 simp [execOp,hop,resolve,invoke,builtin,hs,hx,hrun,Result.andThen]
 exact h A' c' w' h2 h3 h4
theorem J3 {w:World} {base size:Nat} {e:TypeId} {v:Value} {n:Nat} {xs:List Value} (h:w.ownsRow base e size v n xs) {p:Addr} (hp:p.block<base) (u:Value):(w.setCell p u).ownsRow base e size v n xs:=
 h.kept (row:=some p.block) ⟨rfl,rfl,rfl,by simp [World.setCell],fun k _ hn=>Below.heap_setCell _ _ _ _ (fun e=>hn (by rw [e]))⟩ (by
  cases hv:v.ownBlock with
  | none=>exact .inl rfl
  | some k=>right;intro e;injection e with e;have:=(h.lt k hv).1;omega)
theorem Av {w w':World} {row:Option Nat} (hg:w.grownBy w' row) {g:Nat} {t:TypeId} {xs:List Value} (h:AQ w g t xs) (hn:row≠some g):AQ w' g t xs:=
 (hg.block g h.lt (fun e=>hn e.symm)).trans h
theorem eu (w:World) (cs:List Value) (t:TypeId):Row (w.alloc (.cells cs.toArray t)) (w.heap.size+1) (some ⟨w.heap.size,0,none⟩) cs:=by
 intro _
 refine⟨w.heap.size,0,rfl,Nat.lt_succ_self _,fun j u hu=> ?_⟩
 have:=(AQ.new w t cs).cell j
 rw [Nat.zero_add,this,hu]
structure GX {α:Type} (r:Rd α) (e:TypeId) (base:Nat) (W:World) (A:Option Addr) (n c:Nat) (cells:List Value) (xs:List α):Prop where
 own:W.ownsRow base e r.z (.slice A n c) n cells
 len:n=xs.length
 els: ∀(k:Nat) x,xs[k]?=some x→ ∃lo hi,base≤lo∧hi≤W.heap.size∧(∀g,(Value.slice A n c).ownBlock=some g→g<lo∨hi≤g)∧r.R W lo hi ((cells.drop (k*r.z)).take r.z) x
section
variable {α:Type} {r:Rd α} {e:TypeId} {base:Nat} {W W':World} {A:Option Addr} {n c:Nat} {cells:List Value} {xs:List α}
theorem GX.nil (r:Rd α) (e:TypeId) (base:Nat) (W:World):GX r e base W none 0 0 [] []:=
 ⟨⟨by simp,.inl ⟨rfl,rfl⟩⟩,rfl,fun k x h=>by simp at h⟩
theorem GX.below (h:GX r e base W A n c cells xs) (hb:Below W.heap.size W W'):GX r e base W' A n c cells xs:=by
 refine⟨FY h.own hb,h.len,fun k x hk=> ?_⟩
 obtain⟨lo,hi,h1,h2,h3,h4⟩:=h.els k x hk
 exact⟨lo,hi,h1,Nat.le_trans h2 hb.size,h3,r.below h4 hb h2⟩
theorem GX.reads (h:GX r e base W A n c cells xs):(r.sl false).R W base W.heap.size [.slice A n c] xs:=by
 refine Rd.own false h.own h.len fun k x hk=> ?_
 obtain⟨lo,hi,h1,h2,_,h4⟩:=h.els k x hk
 exact r.more h1 h2 h4
theorem GX.snoc (h:GX r e base W A n c cells xs) (hbase:base≤W.heap.size) {A':Option Addr} {c' lo hi:Nat} {cs:List Value} {x:α} (hr:r.R W lo hi cs x) (hlo:base≤lo) (hhi:hi≤W.heap.size) (hap: ∀g,(Value.slice A n c).ownBlock=some g→g<lo∨hi≤g)
 (ho:W'.ownsRow base e r.z (.slice A' (n+1) c') (n+1) (cells++cs)) (hg:W.grownBy W' (Value.slice A n c).ownBlock) (hat:(Value.slice A' (n+1) c').ownBlock=(Value.slice A n c).ownBlock∨(Value.slice A' (n+1) c').ownBlock=some W.heap.size):
 GX r e base W' A' (n+1) c' (cells++cs) (xs++ [x]):=by
 have hl:cells.length=n*r.z:=h.own.1
 have hcs:cs.length=r.z:=r.len hr
 have hnew: ∀ {lo hi:Nat},hi≤W.heap.size→(∀g,(Value.slice A n c).ownBlock=some g→g<lo∨hi≤g)→ ∀g,(Value.slice A' (n+1) c').ownBlock=some g→g<lo∨hi≤g:=fun hh ha g hg'=>by
  rcases hat with h1 | h1
  ·exact ha g (h1▸hg')
  ·rw [h1] at hg';injection hg' with hg';right;omega
 refine⟨ho,by rw [List.length_append,←h.len];rfl,fun k y hk=> ?_⟩
 rw [List.getElem?_append] at hk
 split at hk
 ·rename_i hlt
  obtain⟨l1,h1,g1,g2,g3,g4⟩:=h.els k y hk
  refine⟨l1,h1,g1,Nat.le_trans g2 hg.size,hnew g2 g3,?_⟩
  have hkn:k*r.z+r.z≤cells.length:=by
   rw [hl,←Nat.succ_mul]
   exact Nat.mul_le_mul_right _ (by rw [h.len];exact hlt)
  rw [List.drop_append_of_le_length (by omega),List.take_append_of_le_length (by rw [List.length_drop];omega)]
  exact r.grown g4 hg g2 g3
 ·rename_i hge
  have hk0:k=xs.length:=by
   have:=(List.getElem?_eq_some_iff.1 hk).1
   simp at this;omega
  subst hk0
  rw [Nat.sub_self] at hk
  simp at hk
  subst hk
  refine⟨lo,hi,hlo,Nat.le_trans hhi hg.size,hnew hhi hap,?_⟩
  rw [←h.len,←hl,List.drop_left' rfl,←hcs,List.take_length]
  exact r.grown hr hg hhi hap
end
structure Flat {α:Type} (r:Rd α) (f:α→List Value) (ok:α→Prop):Prop where
 iff: ∀ {W:World} {lo hi:Nat} {cs:List Value} {x:α},r.R W lo hi cs x↔cs=f x∧ok x
 one: ∀x,∀u∈f x,u.oneCell'=true
 len: ∀x,(f x).length=r.z
 pos:0<r.z
theorem LB:Flat Rd.u8 (fun x=> [bv x]) (fun _=>True):=⟨Iff.rfl,fun x u h=>by rw [List.mem_singleton] at h;subst h;rfl,fun _=>rfl,by decide⟩
theorem JW:Flat Rd.i64 (fun x=> [Value.int .i64 x]) Rd.G8:=⟨Iff.rfl,fun x u h=>by rw [List.mem_singleton] at h;subst h;rfl,fun _=>rfl,by decide⟩
theorem JX:Flat Rd.u64 (fun x=> [uv x]) Rd.XK:=⟨Iff.rfl,fun x u h=>by rw [List.mem_singleton] at h;subst h;rfl,fun _=>rfl,by decide⟩
def Ov (x:Cg):List Value:= [.string x.p,.string x.r]
theorem JY:Flat Py Ov (fun x=>Rd.Pq x.p∧Rd.Pq x.r):=⟨Rt,fun x u h=>by unfold Ov at h;simp at h;rcases h with rfl | rfl<;>rfl,fun _=>rfl,by decide⟩
def xW (x:ED):List Value:= [bv x.l,.bool x.m,uv x.v]
theorem KV:Flat Lm xW (fun x=>Rd.XK x.v):=⟨Uq,fun x u h=>by unfold xW at h;simp at h;rcases h with rfl | rfl | rfl<;>rfl,fun _=>rfl,by decide⟩
def ACt (x:KU):List Value:= [.string x.n,.int .i64 x.f]
theorem MK:Flat Q8 ACt (fun x=>Rd.Pq x.n∧Rd.G8 x.f):=⟨XM,fun x u h=>by unfold ACt at h;simp at h;rcases h with rfl | rfl<;>rfl,fun _=>rfl,by decide⟩
theorem EW {α:Type} {f:α→List Value} {z:Nat} (hl: ∀x,(f x).length=z): ∀l:List α,(l.flatMap f).length=l.length*z
 | []=>by simp
 | x::l=>by rw [List.flatMap_cons,List.length_append,hl,EW hl l,List.length_cons,Nat.succ_mul,Nat.add_comm]
theorem LC {α:Type} {f:α→List Value} {z:Nat} (hl: ∀x,(f x).length=z): ∀(l:List α) (k:Nat) (x:α),l[k]?=some x→((l.flatMap f).drop (k*z)).take z=f x
 | [],k,x,h=>by simp at h
 | y::l,0,x,h=>by
  simp at h
  subst h
  rw [Nat.zero_mul,List.drop_zero,List.flatMap_cons,←hl y,List.take_left' rfl]
 | y::l,k+1,x,h=>by
  rw [List.getElem?_cons_succ] at h
  rw [List.flatMap_cons,Nat.succ_mul,Nat.add_comm,←hl y,←List.drop_drop,List.drop_left' rfl,hl y]
  exact LC hl l k x h
section
variable {α:Type} {r:Rd α} {f:α→List Value} {ok:α→Prop} {W:World} {lo hi:Nat} {A:Option Addr} {n c:Nat} {l:List α}
theorem Flat.oks (hf:Flat r f ok) (h:(r.sl false).R W lo hi [.slice A n c] l): ∀x∈l,ok x:=fun x hx=>by
 obtain⟨k,hk,rfl⟩:=List.getElem_of_mem hx
 obtain⟨b,o,_,_,_,cs,_,hr⟩:=DC h (List.getElem?_eq_getElem hk)
 exact(hf.iff.1 hr).2
theorem Flat.row (hf:Flat r f ok) (h:(r.sl false).R W lo hi [.slice A n c] l):Row W hi A (l.flatMap f):=fun hn=>by
 have hlen:=EW hf.len l
 have h0:0<l.length:=by
  rcases Nat.eq_zero_or_pos l.length with h0 | h0
  ·rw [h0,Nat.zero_mul] at hlen;omega
  ·exact h0
 obtain⟨A',c',he,_,h⟩:=h
 injection he with he _
 injection he with h1 h2 h3
 subst h1 h2
 obtain⟨b,o,e,_,hhi,hx⟩:=h h0
 refine⟨b,o,e,hhi,fun j u hu=> ?_⟩
 have hj:j<l.length*r.z:=by have:=(List.getElem?_eq_some_iff.1 hu).1;rwa [hlen] at this
 have hk:j/r.z<l.length:=(Nat.div_lt_iff_lt_mul hf.pos).2 hj
 obtain⟨cs,hc,hr⟩:=hx (j/r.z) _ (List.getElem?_eq_getElem hk)
 obtain⟨rfl,_⟩:=hf.iff.1 hr
 have ht:=LC hf.len l (j/r.z) _ (List.getElem?_eq_getElem hk)
 have hm:j%r.z<r.z:=Nat.mod_lt _ hf.pos
 have hd:j/r.z*r.z+j%r.z=j:=by rw [Nat.mul_comm];exact Nat.div_add_mod j r.z
 have:=hc (j%r.z) u (by
  rw [←ht,List.getElem?_take,if_pos hm,List.getElem?_drop,hd]
  exact hu)
 rw [Nat.add_assoc,hd] at this
 exact this
theorem Flat.reads (hf:Flat r f ok) {base:Nat} {e:TypeId} (h:W.ownsRow base e r.z (.slice A n c) n (l.flatMap f)) (hn:n=l.length) (hok: ∀x∈l,ok x):(r.sl false).R W base W.heap.size [.slice A n c] l:=
 Rd.own false h hn fun k x hk=>hf.iff.2 ⟨LC hf.len l k x hk,hok x (List.mem_of_getElem? hk)⟩
theorem Flat.cells (hf:Flat r f ok) (l:List α): ∀u∈l.flatMap f,u.oneCell'=true:=fun u hu=>by
 obtain⟨x,_,hx⟩:=List.mem_flatMap.1 hu
 exact hf.one x u hx
end
theorem Rd.set {α:Type} {r:Rd α} {W:World} {lo hi:Nat} {cs:List Value} {x:α} (h:r.R W lo hi cs x) {p:Addr} (u:Value) (hp:p.block<lo∨hi≤p.block):r.R (W.setCell p u) lo hi cs x:=
 r.keep (fun q h1 h2=>by
  have hb:=Below.heap_setCell W p u q.block (by omega)
  simp only [World.cell?,hb]) h
def FI {α:Type} (r:Rd α) (l:List α) (w:World) (e:Ending) (w':World):Prop:= ∃A' c',e= .returned (.slice A' l.length c')∧(r.sl false).R w' w.heap.size w'.heap.size [.slice A' l.length c'] l∧Below w.heap.size w w'
theorem info_parts' {P:Program} {t:TypeId} {s b:Nat} (h:(P.info? t).map (fun i=>(i.size,i.bytes,i.zero.map fun z=>z.cells.size))=some (s,b,some s)): ∃i z,P.info? t=some i∧i.zero=some z∧i.size=s∧i.bytes=b∧z.cells.size=s:=by
 cases hi:P.info? t with
 | none=>rw [hi] at h;cases h
 | some i=>
  rw [hi] at h
  simp only [Option.map_some,Option.some.injEq,Prod.mk.injEq] at h
  obtain⟨h1,h2,h3⟩:=h
  cases hz:i.zero with
  | none=>rw [hz] at h3;cases h3
  | some z=>
   rw [hz] at h3
   exact⟨i,z,rfl,hz,h1,h2,by simpa using h3⟩
theorem XP:(prog.info? 5).map (fun i=>(i.size,i.bytes,i.zero.map fun z=>z.cells.size))=some (1,1,some 1):=by kernel_rfl
theorem XQ (A:Option Addr) (n c hi:Nat) (l:List UInt8) (w:World) (h:(Rd.u8.sl false).R w 0 hi [.slice A n c] l) (hhi:hi≤w.heap.size) (h47:n*1≤140737488351232):
 Calls prog 17 #[.slice A n c] w (FI Rd.u8 l w):=by
 have hn:=Bq h
 have Rw:=AA (LB.row h)
 have kF:=AA (LB.oks h)
 have Hl:=AA (EW LB.len l)
 have Hc:=AA (LB.cells l)
 have Hn:=AA hn;clear hn h
 obtain⟨i0,z0,hi0,hz,hs',hb,hzz⟩:=info_parts' XP
 have Hi:=AA hi0;have Hz:=AA hz;have Hs:=AA hs';have Hb:=AA hb;have Nz:=AA hzz;clear hi0 hz hs' hb hzz
 go_enter func17,ntmps17
 go_wp2_with (at_builtin;refine BP _ rfl (.tmp 4) (.tmp 5) 40 rfl w.heap.size 5 i0 z0 1 1 underlying40 Hi.out Hz.out Hs.out Hb.out Nz.out (by omega) (.slice none 0 0) 0 [] rfl ⟨rfl,.inl ⟨rfl,rfl⟩⟩ hi A n c (l.flatMap _) rfl (by rw [Hl.out,Hn.out];rfl) Rw.out Hc.out (by unfold maxLen;omega) (by omega) (Nat.le_refl _) ?_;intro A3 c3 w2 h2 h3 h4;rw [Nat.zero_add] at h2;have H2:=AA h2;have H3:=AA h3;clear h2 h3 h4)
 go_ret
 have hb2:Below w.heap.size w w2:=BK (v:= .slice none 0 0) (xs:= []) (n:=0) (base:=w.heap.size) (e:=5) (size:=1) ⟨rfl,.inl ⟨rfl,rfl⟩⟩ H3.out (Nat.le_refl _)
 refine⟨A3,c3,by rw [←Hn.out];rfl,?_,hb2⟩
 rw [←Hn.out]
 exact LB.reads H2.out Hn.out kF.out
theorem ZM:(prog.info? 3).map (fun i=>(i.size,i.bytes,i.zero.map fun z=>z.cells.size))=some (1,8,some 1):=by kernel_rfl
theorem bN (A:Option Addr) (n c hi:Nat) (l:List Int) (w:World) (h:(Rd.i64.sl false).R w 0 hi [.slice A n c] l) (hhi:hi≤w.heap.size) (h47:n*8≤140737488351232):
 Calls prog 26 #[.slice A n c] w (FI Rd.i64 l w):=by
 have hn:=Bq h
 have Rw:=AA (JW.row h)
 have kF:=AA (JW.oks h)
 have Hl:=AA (EW JW.len l)
 have Hc:=AA (JW.cells l)
 have Hn:=AA hn;clear hn h
 obtain⟨i0,z0,hi0,hz,hs',hb,hzz⟩:=info_parts' ZM
 have Hi:=AA hi0;have Hz:=AA hz;have Hs:=AA hs';have Hb:=AA hb;have Nz:=AA hzz;clear hi0 hz hs' hb hzz
 go_enter func26,ntmps26
 go_wp2_with (at_builtin;refine BP _ rfl (.tmp 4) (.tmp 5) 23 rfl w.heap.size 3 i0 z0 1 8 underlying23 Hi.out Hz.out Hs.out Hb.out Nz.out (by omega) (.slice none 0 0) 0 [] rfl ⟨rfl,.inl ⟨rfl,rfl⟩⟩ hi A n c (l.flatMap _) rfl (by rw [Hl.out,Hn.out];rfl) Rw.out Hc.out (by unfold maxLen;omega) (by omega) (Nat.le_refl _) ?_;intro A3 c3 w2 h2 h3 h4;rw [Nat.zero_add] at h2;have H2:=AA h2;have H3:=AA h3;clear h2 h3 h4)
 go_ret
 have hb2:Below w.heap.size w w2:=BK (v:= .slice none 0 0) (xs:= []) (n:=0) (base:=w.heap.size) (e:=3) (size:=1) ⟨rfl,.inl ⟨rfl,rfl⟩⟩ H3.out (Nat.le_refl _)
 refine⟨A3,c3,by rw [←Hn.out];rfl,?_,hb2⟩
 rw [←Hn.out]
 exact JW.reads H2.out Hn.out kF.out
theorem Qg:(prog.info? 87).map (fun i=>(i.size,i.bytes,i.zero.map fun z=>z.cells.size))=some (1,8,some 1):=by kernel_rfl
theorem Ow (A:Option Addr) (n c hi:Nat) (l:List Nat) (w:World) (h:(Rd.u64.sl false).R w 0 hi [.slice A n c] l) (hhi:hi≤w.heap.size) (h47:n*8≤140737488351232):
 Calls prog 32 #[.slice A n c] w (FI Rd.u64 l w):=by
 have hn:=Bq h
 have Rw:=AA (JX.row h)
 have kF:=AA (JX.oks h)
 have Hl:=AA (EW JX.len l)
 have Hc:=AA (JX.cells l)
 have Hn:=AA hn;clear hn h
 obtain⟨i0,z0,hi0,hz,hs',hb,hzz⟩:=info_parts' Qg
 have Hi:=AA hi0;have Hz:=AA hz;have Hs:=AA hs';have Hb:=AA hb;have Nz:=AA hzz;clear hi0 hz hs' hb hzz
 go_enter func32,ntmps32
 go_wp2_with (at_builtin;refine BP _ rfl (.tmp 4) (.tmp 5) 31 rfl w.heap.size 87 i0 z0 1 8 underlying31 Hi.out Hz.out Hs.out Hb.out Nz.out (by omega) (.slice none 0 0) 0 [] rfl ⟨rfl,.inl ⟨rfl,rfl⟩⟩ hi A n c (l.flatMap _) rfl (by rw [Hl.out,Hn.out];rfl) Rw.out Hc.out (by unfold maxLen;omega) (by omega) (Nat.le_refl _) ?_;intro A3 c3 w2 h2 h3 h4;rw [Nat.zero_add] at h2;have H2:=AA h2;have H3:=AA h3;clear h2 h3 h4)
 go_ret
 have hb2:Below w.heap.size w w2:=BK (v:= .slice none 0 0) (xs:= []) (n:=0) (base:=w.heap.size) (e:=87) (size:=1) ⟨rfl,.inl ⟨rfl,rfl⟩⟩ H3.out (Nat.le_refl _)
 refine⟨A3,c3,by rw [←Hn.out];rfl,?_,hb2⟩
 rw [←Hn.out]
 exact JX.reads H2.out Hn.out kF.out
theorem Rx:(prog.info? 93).map (fun i=>(i.size,i.bytes,i.zero.map fun z=>z.cells.size))=some (2,32,some 2):=by kernel_rfl
theorem rT (A:Option Addr) (n c hi:Nat) (l:List Cg) (w:World) (h:(Py.sl false).R w 0 hi [.slice A n c] l) (hhi:hi≤w.heap.size) (h47:n*32≤140737488351232):
 Calls prog 25 #[.slice A n c] w (FI Py l w):=by
 have hn:=Bq h
 have Rw:=AA (JY.row h)
 have kF:=AA (JY.oks h)
 have Hl:=AA (EW JY.len l)
 have Hc:=AA (JY.cells l)
 have Hn:=AA hn;clear hn h
 obtain⟨i0,z0,hi0,hz,hs',hb,hzz⟩:=info_parts' Rx
 have Hi:=AA hi0;have Hz:=AA hz;have Hs:=AA hs';have Hb:=AA hb;have Nz:=AA hzz;clear hi0 hz hs' hb hzz
 go_enter func25,ntmps25
 go_wp2_with (at_builtin;refine BP _ rfl (.tmp 4) (.tmp 5) 22 rfl w.heap.size 93 i0 z0 2 32 underlying22 Hi.out Hz.out Hs.out Hb.out Nz.out (by omega) (.slice none 0 0) 0 [] rfl ⟨rfl,.inl ⟨rfl,rfl⟩⟩ hi A n c (l.flatMap _) rfl (by rw [Hl.out,Hn.out];rfl) Rw.out Hc.out (by unfold maxLen;omega) (by omega) (Nat.le_refl _) ?_;intro A3 c3 w2 h2 h3 h4;rw [Nat.zero_add] at h2;have H2:=AA h2;have H3:=AA h3;clear h2 h3 h4)
 go_ret
 have hb2:Below w.heap.size w w2:=BK (v:= .slice none 0 0) (xs:= []) (n:=0) (base:=w.heap.size) (e:=93) (size:=2) ⟨rfl,.inl ⟨rfl,rfl⟩⟩ H3.out (Nat.le_refl _)
 refine⟨A3,c3,by rw [←Hn.out];rfl,?_,hb2⟩
 rw [←Hn.out]
 exact JY.reads H2.out Hn.out kF.out
theorem UH:(prog.info? 139).map (fun i=>(i.size,i.bytes,i.zero.map fun z=>z.cells.size))=some (3,16,some 3):=by kernel_rfl
theorem ZN (A:Option Addr) (n c hi:Nat) (l:List ED) (w:World) (h:(Lm.sl false).R w 0 hi [.slice A n c] l) (hhi:hi≤w.heap.size) (h47:n*16≤140737488351232):
 Calls prog 27 #[.slice A n c] w (FI Lm l w):=by
 have hn:=Bq h
 have Rw:=AA (KV.row h)
 have kF:=AA (KV.oks h)
 have Hl:=AA (EW KV.len l)
 have Hc:=AA (KV.cells l)
 have Hn:=AA hn;clear hn h
 obtain⟨i0,z0,hi0,hz,hs',hb,hzz⟩:=info_parts' UH
 have Hi:=AA hi0;have Hz:=AA hz;have Hs:=AA hs';have Hb:=AA hb;have Nz:=AA hzz;clear hi0 hz hs' hb hzz
 go_enter func27,ntmps27
 go_wp2_with (at_builtin;refine BP _ rfl (.tmp 4) (.tmp 5) 24 rfl w.heap.size 139 i0 z0 3 16 underlying24 Hi.out Hz.out Hs.out Hb.out Nz.out (by omega) (.slice none 0 0) 0 [] rfl ⟨rfl,.inl ⟨rfl,rfl⟩⟩ hi A n c (l.flatMap _) rfl (by rw [Hl.out,Hn.out];rfl) Rw.out Hc.out (by unfold maxLen;omega) (by omega) (Nat.le_refl _) ?_;intro A3 c3 w2 h2 h3 h4;rw [Nat.zero_add] at h2;have H2:=AA h2;have H3:=AA h3;clear h2 h3 h4)
 go_ret
 have hb2:Below w.heap.size w w2:=BK (v:= .slice none 0 0) (xs:= []) (n:=0) (base:=w.heap.size) (e:=139) (size:=3) ⟨rfl,.inl ⟨rfl,rfl⟩⟩ H3.out (Nat.le_refl _)
 refine⟨A3,c3,by rw [←Hn.out];rfl,?_,hb2⟩
 rw [←Hn.out]
 exact KV.reads H2.out Hn.out kF.out
theorem UJ:(prog.info? 101).map (fun i=>(i.size,i.bytes,i.zero.map fun z=>z.cells.size))=some (2,24,some 2):=by kernel_rfl
theorem ZO (A:Option Addr) (n c hi:Nat) (l:List KU) (w:World) (h:(Q8.sl false).R w 0 hi [.slice A n c] l) (hhi:hi≤w.heap.size) (h47:n*24≤140737488351232):
 Calls prog 30 #[.slice A n c] w (FI Q8 l w):=by
 have hn:=Bq h
 have Rw:=AA (MK.row h)
 have kF:=AA (MK.oks h)
 have Hl:=AA (EW MK.len l)
 have Hc:=AA (MK.cells l)
 have Hn:=AA hn;clear hn h
 obtain⟨i0,z0,hi0,hz,hs',hb,hzz⟩:=info_parts' UJ
 have Hi:=AA hi0;have Hz:=AA hz;have Hs:=AA hs';have Hb:=AA hb;have Nz:=AA hzz;clear hi0 hz hs' hb hzz
 go_enter func30,ntmps30
 go_wp2_with (at_builtin;refine BP _ rfl (.tmp 4) (.tmp 5) 27 rfl w.heap.size 101 i0 z0 2 24 underlying27 Hi.out Hz.out Hs.out Hb.out Nz.out (by omega) (.slice none 0 0) 0 [] rfl ⟨rfl,.inl ⟨rfl,rfl⟩⟩ hi A n c (l.flatMap _) rfl (by rw [Hl.out,Hn.out];rfl) Rw.out Hc.out (by unfold maxLen;omega) (by omega) (Nat.le_refl _) ?_;intro A3 c3 w2 h2 h3 h4;rw [Nat.zero_add] at h2;have H2:=AA h2;have H3:=AA h3;clear h2 h3 h4)
 go_ret
 have hb2:Below w.heap.size w w2:=BK (v:= .slice none 0 0) (xs:= []) (n:=0) (base:=w.heap.size) (e:=101) (size:=2) ⟨rfl,.inl ⟨rfl,rfl⟩⟩ H3.out (Nat.le_refl _)
 refine⟨A3,c3,by rw [←Hn.out];rfl,?_,hb2⟩
 rw [←Hn.out]
 exact MK.reads H2.out Hn.out kF.out
theorem Gz (w:World) (cs:List Value) (e:TypeId):Row (w.alloc (.cells cs.toArray e)) (w.heap.size+1) (some ⟨w.heap.size,0,none⟩) cs:=by
 have:=(AQ.new w e cs).row 0 cs.length
 simpa using this
def Us (ps:List Int):List Value:=ps.map (Value.int .i64)
theorem Ry {w:World} {B:Nat} {A:Option Addr} {ps:List Int} (h:Row w B A (Us ps)) {k:Nat} (hk:k<ps.length):
 ∃b o,A=some ⟨b,o,none⟩∧b<B∧w.cell? ⟨b,o+k,none⟩=some (.int .i64 (ps[k]?.getD 0)):=by
 refine h.at ?_
 unfold Us
 rw [List.getElem?_map,List.getElem?_eq_getElem hk]
 rfl
def Cap (n N:Nat):Prop:=n=N∨(2147483647<n∧2147483647<N)
def BG {α:Type} (f:α→Nat) (l:List α):Nat:=(l.map f).sum
theorem Cap.step {n N m g:Nat} (h:Cap n N) (h2:Cap m g):Cap (n+m) (N+g):=by unfold Cap at*;omega
theorem Cap.stop {n N M:Nat} (h:Cap n N) (hn:2147483647<n) (hM:N≤M):Cap n M:=by unfold Cap at*;omega
theorem Cap.iff {n N:Nat} (h:Cap n N):n≤2147483647↔N≤2147483647:=by unfold Cap at*;omega
theorem LD {α:Type} (f:α→Nat) (l:List α) (k:Nat):BG f (l.take k)≤BG f l:=by
 have:=List.take_append_drop k l
 conv=>rhs;rw [←this]
 unfold BG
 rw [List.map_append,List.sum_append]
 omega
theorem Rz {α:Type} (f:α→Nat) {l:List α} {k:Nat} {x:α} (h:l[k]?=some x):BG f (l.take (k+1))=BG f (l.take k)+f x:=by
 rw [List.take_add_one,h]
 simp [BG]
def Ut (x:Ad):Prop:=x.l.length≤140737488351232
def LG (l:List Ad):Nat:=l.length+BG (fun i=>i.l.length) l
def LH (l:List (List UInt8)):Nat:=l.length+BG List.length l
def JB (x:Bv):Nat:=x.loc.size+LG x.code
def Bg (m:AP):Nat:=m.types.length+m.hosts.length+m.globs.length+m.fns.length+m.dat.length+m.Au.length+BG (fun t=>t.p.size+t.r.size) m.types+BG JB m.fns+BG (fun d=>d.b.length) m.dat+BG (fun e=>e.n.size) m.Au
def fA (s:FH):Nat:=s.frames.length+s.globs.length+s.res.length+LH s.pages+BG (fun f=>f.loc.length+f.st.length) s.frames
def Cx:Nat→List Nat→Nat
 | n,[]=>n
 | n,g::gs=>if n≤2147483647 then Cx (n+g) gs else n
theorem Vg {n:Nat} (h:2147483647<n) (gs:List Nat):Cx n gs=n:=by cases gs with | nil=>rfl | cons g gs=>unfold Cx;rw [if_neg (by omega)]
theorem ML: ∀(gs:List Nat) (n:Nat),Cap (Cx n gs) (n+gs.sum)
 | [],n=> .inl (by simp [Cx])
 | g::gs,n=>by
  unfold Cx
  split
  ·have:=ML gs (n+g)
   rwa [List.sum_cons,←Nat.add_assoc]
  ·rename_i h
   exact .inr ⟨by omega,by omega⟩
theorem N7: ∀(gs:List Nat) (n U:Nat),n≤U→(∀g∈gs,2147483647+g≤U)→Cx n gs≤U
 | [],n,U,h,_=>h
 | g::gs,n,U,h,hg=>by
  unfold Cx
  split
  ·rename_i hn
   exact N7 gs (n+g) U (by have:=hg g (by simp);omega) (fun x hx=>hg x (by simp [hx]))
  ·exact h
def LM (l:List Ad):Nat:=Cx l.length (l.map fun i=>i.l.length)
theorem XR (l:List Ad):Cap (LM l) (LG l):=ML _ _
theorem ZP {l:List Ad} (h:l.length≤140737488351232) (hl: ∀i∈l,Ut i):LM l≤281474976710656:=
 N7 _ _ _ (by omega) (fun g hg=>by
  obtain⟨i,hi,rfl⟩:=List.mem_map.1 hg
  have:=hl i hi
  unfold Ut at this
  omega)
def JZ (l:List (List UInt8)):Nat:=Cx l.length (l.map List.length)
theorem Vh (l:List (List UInt8)):Cap (JZ l) (LH l):=ML _ _
theorem XT {l:List (List UInt8)} (h:l.length≤140737488351232) (hl: ∀i∈l,i.length≤140737488351232):JZ l≤281474976710656:=
 N7 _ _ _ (by omega) (fun g hg=>by
  obtain⟨i,hi,rfl⟩:=List.mem_map.1 hg
  have:=hl i hi
  omega)
def MN {α:Type} (f:α→Nat) (n0:Nat) (l:List α) (w:World) (x i:Value) (wr:World):Prop:= ∃k m:Nat,k≤l.length∧i= .int .i64 k∧x= .int .i64 m∧wr=w∧Cx m ((l.drop k).map f)=Cx n0 (l.map f)∧m≤281474976710656
theorem MN.next {α:Type} {f:α→Nat} {n0:Nat} {l:List α} {k m:Nat} {x:α} (h:Cx m ((l.drop k).map f)=Cx n0 (l.map f)) (hx:l[k]?=some x) (hm:m≤2147483647):Cx (m+f x) ((l.drop (k+1)).map f)=Cx n0 (l.map f):=by
 obtain⟨hk,he⟩:=List.getElem?_eq_some_iff.1 hx
 rw [List.drop_eq_getElem_cons hk,List.map_cons,he] at h
 rw [←h]
 conv=>rhs;unfold Cx
 rw [if_pos hm]
theorem MN.stop {α:Type} {f:α→Nat} {n0:Nat} {l:List α} {k m:Nat} (h:Cx m ((l.drop k).map f)=Cx n0 (l.map f)) (hm:2147483647<m):m=Cx n0 (l.map f):=by rwa [Vg hm] at h
theorem MN.all {α:Type} {f:α→Nat} {n0:Nat} {l:List α} {k m:Nat} (h:Cx m ((l.drop k).map f)=Cx n0 (l.map f)) (hk:k=l.length):m=Cx n0 (l.map f):=by
 subst hk
 rw [List.drop_length] at h
 exact h
theorem fB (A:Option Addr) (n c hi:Nat) (l:List Ad) (w:World) (h:(Ei.sl false).R w 0 hi [.slice A n c] l) (h47:n≤140737488351232) (hl: ∀i∈l,Ut i):
 Calls prog 50 #[.slice A n c] w fun e w'=>w=w'∧e= .returned (.int .i64 (LM l:Nat)):=by
 have Hn:=AA (Bq h)
 have Hh:=AA h;clear h
 have Hl:=AA hl;clear hl
 go_enter func50,ntmps50
 go_wp2_with fail
 go_loopw [3,4] (fun x i wr=>MN (fun i:Ad=>i.l.length) l.length l w x i wr) (fun _ i _=>n-(intOf i).toNat)
 case atStart=>exact⟨0,n,Nat.zero_le _,rfl,rfl,rfl,by rw [List.drop_zero,←Hn.out],by omega⟩
 case round=>
  obtain⟨k,m,hk,rfl,rfl,rfl,hm,UK⟩:=hrel
  rw [←Hn.out] at hk
  have Hm:=AA hm;clear hm
  by_cases hlt:k<n
  ·by_cases hm2:m≤2147483647
   ·obtain⟨x,hx⟩: ∃x,l[k]?=some x:=⟨_,List.getElem?_eq_getElem (by rw [←Hn.out];exact hlt)⟩
    obtain⟨b,o,Ga,GJ,rfl,_,hb,hc0,hc1,hc2,_,KQ⟩:=Dy Hh.out hx
    have hr8:x.l.length≤140737488351232:=Hl.out x (List.mem_of_getElem? hx)
    have HS:=AA (MN.next Hm.out hx hm2)
    have Uu:decide ((m:Int)≤2147483647)=true:=decide_eq_true (by omega)
    have hi0:(0:Int)≤k:=by omega
    clear hx KQ hc0 hc1
    go_wp2_with fail
    exact⟨⟨k+1,m+x.l.length,by rw [←Hn.out];omega,by go_num,by go_num,rfl,HS.out,by omega⟩,by simp [intOf];omega⟩
   ·have Uu:decide ((m:Int)≤2147483647)=false:=decide_eq_false (by omega)
    go_wp2_with fail
    go_ret
    exact⟨rfl,by rw [show m=LM l from MN.stop Hm.out (by omega)];rfl⟩
  ·obtain rfl:k=n:=by omega
   go_wp2_with fail
   go_ret
   exact⟨rfl,by rw [show k=l.length from Hn.out] at Hm;rw [show m=LM l from MN.all Hm.out rfl];rfl⟩
theorem ZQ (A:Option Addr) (n c hi:Nat) (l:List (List UInt8)) (w:World) (h:((Rd.u8.sl false).sl false).R w 0 hi [.slice A n c] l) (h47:n≤140737488351232) (hl: ∀i∈l,i.length≤140737488351232):
 Calls prog 61 #[.slice A n c] w fun e w'=>w=w'∧e= .returned (.int .i64 (JZ l:Nat)):=by
 have Hn:=AA (Bq h)
 have Hh:=AA h;clear h
 have Hl:=AA hl;clear hl
 go_enter func61,ntmps61
 go_wp2_with fail
 go_loopw [3,4] (fun x i wr=>MN (List.length (α:=UInt8)) l.length l w x i wr) (fun _ i _=>n-(intOf i).toNat)
 case atStart=>exact⟨0,n,Nat.zero_le _,rfl,rfl,rfl,by rw [List.drop_zero,←Hn.out],by omega⟩
 case round=>
  obtain⟨k,m,hk,rfl,rfl,rfl,hm,UK⟩:=hrel
  rw [←Hn.out] at hk
  have Hm:=AA hm;clear hm
  by_cases hlt:k<n
  ·by_cases hm2:m≤2147483647
   ·obtain⟨x,hx⟩: ∃x,l[k]?=some x:=⟨_,List.getElem?_eq_getElem (by rw [←Hn.out];exact hlt)⟩
    obtain⟨b,o,rfl,_,hb,cs,hcs,hr⟩:=DC Hh.out hx
    obtain⟨v,rfl,hr⟩:=Co hr
    obtain⟨A2,c2,rfl⟩:=AB hr
    have hc0:wr.cell? ⟨b,o+k,none⟩=some (.slice A2 x.length c2):=by
     have:=hcs 0 _ rfl
     rwa [show(Rd.u8.sl false).z=1 from rfl,Nat.mul_one,Nat.add_zero] at this
    have hr8:x.length≤140737488351232:=Hl.out x (List.mem_of_getElem? hx)
    have HS:=AA (MN.next Hm.out hx hm2)
    have Uu:decide ((m:Int)≤2147483647)=true:=decide_eq_true (by omega)
    have hi0:(0:Int)≤k:=by omega
    clear hx hr hcs
    go_wp2_with fail
    exact⟨⟨k+1,m+x.length,by rw [←Hn.out];omega,by go_num,by go_num,rfl,HS.out,by omega⟩,by simp [intOf];omega⟩
   ·have Uu:decide ((m:Int)≤2147483647)=false:=decide_eq_false (by omega)
    go_wp2_with fail
    go_ret
    exact⟨rfl,by rw [show m=JZ l from MN.stop Hm.out (by omega)];rfl⟩
  ·obtain rfl:k=n:=by omega
   go_wp2_with fail
   go_ret
   exact⟨rfl,by rw [show k=l.length from Hn.out] at Hm;rw [show m=JZ l from MN.all Hm.out rfl];rfl⟩
def folded (v:Int):Nat:=if v<0 then 2*(-(v+1)).toNat+1 else 2*v.toNat
theorem rU (a:Nat) (h:a<18446744073709551616):bits .xor .u64 (a:Int) 0=(a:Int):=by
 have:=u64_xor_nat a 0 h (by omega)
 rw [show((0:Nat):Int)=0 from rfl] at this
 rw [this,Nat.xor_zero]
theorem rV (a b:Nat) (h:a<18446744073709551616) (hb:b=18446744073709551615):bits .xor .u64 (a:Int) (b:Int)=((18446744073709551615-a:Nat):Int):=by
 subst hb
 show IntKind.u64.wrap ((BitVec.ofInt 64 (a:Int)^^^BitVec.ofInt 64 ((18446744073709551615:Nat):Int)).toNat:Int)=_
 have e:BitVec.ofInt 64 ((18446744073709551615:Nat):Int)=BitVec.allOnes 64:=by decide+kernel
 have e2:(BitVec.ofInt 64 (a:Int)).toNat=a:=by
  rw [BitVec.ofInt_natCast,BitVec.toNat_ofNat];exact Nat.mod_eq_of_lt (by omega)
 rw [e,BitVec.xor_allOnes,BitVec.toNat_not,e2,IntKind.wrap_u64]
 omega
theorem fC (v:Int) (h0: -9223372036854775808≤v) (h1:v<9223372036854775808):
 bits .xor .u64 (IntKind.u64.wrap (IntKind.u64.wrap v*2)) (IntKind.u64.wrap (v/9223372036854775808))=(folded v:Int):=by
 unfold folded
 rw [IntKind.wrap_u64,IntKind.wrap_u64,IntKind.wrap_u64]
 by_cases hv:v<0
 ·rw [if_pos hv]
  have e1:(v%18446744073709551616*2)%18446744073709551616=((18446744073709551616-2*(-v).toNat:Nat):Int):=by omega
  have e2:v/9223372036854775808%18446744073709551616=((18446744073709551615:Nat):Int):=by omega
  rw [e1,e2,rV _ _ (by omega) rfl]
  omega
 ·rw [if_neg hv]
  have e1:(v%18446744073709551616*2)%18446744073709551616=((2*v.toNat:Nat):Int):=by omega
  have e2:v/9223372036854775808%18446744073709551616=0:=by omega
  rw [e1,e2,rU _ (by omega)]
theorem IK (v:Int) (h0: -9223372036854775808≤v) (h1:v<9223372036854775808):folded v<18446744073709551616:=by unfold folded;split<;>omega
def ZR (s:ByteArray):Bool:=Nh 256 s.data.toList
def sv (s:ByteArray):Go.Value:= .string s
def ends (s t:ByteArray):Bool:=decide (t.size≤s.size)&&((s.extract (s.size-t.size) s.size).toList==t.toList)
theorem LP (s t:ByteArray) (h:ends s t=true):t.size≤s.size:=by
 unfold ends at h
 simp at h
 exact h.1
end Go.Proofs.YtlagonfamllgjaaGreatDoor
