/- Part 3 of the proof: AppZ Gath CopyA Lists Size SizeM SizeS OpenM -/
import Derived.Deep.RegionLaw
import Derived.Deep.Onto
import Derived.Test.YtebgikflpgcnlaaGreatDoorProg
import Derived.KernelRfl
import Derived.Handy
import Derived.BigQuiet
import Derived.Deep.CutBlock
import Derived.Deep.DeepCutAuto
import Derived.Test.YtebgikflpgcnlaaGreatDoorT02
namespace Go.Proofs.YtebgikflpgcnlaaGreatDoor
set_option linter.unusedVariables false
set_option linter.unusedSimpArgs false
set_option maxRecDepth 100000
set_option maxHeartbeats 4000000
open Go.RowKit Tryz
theorem app_nonez {P:Program} (w:World) (base:Nat) (t ty e:TypeId) (i:TypeInfo) (size:Nat) (ht:P.underlying t=some (.slice e)) (hi:P.info? e=some i)
 (v:Value) (n:Nat) (xs:List Value) (hown:w.ownsRow base e size v n xs) (c:Nat):(Builtin.append_ #[t,t] ty #[v,.slice none 0 c]).run P w= .ok v w:=by
 rcases hown.2 with⟨rfl,rfl⟩ | ⟨g,cap,cur,rfl,_,_,hnc,_⟩
 ·simp [Builtin.append_,run_underlying ht,sizeOf,typeInfo,hi,Builtin.lenOf,Builtin.firstCells]
 ·simp [Builtin.append_,run_underlying ht,sizeOf,typeInfo,hi,Builtin.lenOf,Builtin.firstCells,hnc,storeCells]
theorem own_formz {w:World} {base size:Nat} {e:TypeId} {v:Value} {n:Nat} {xs:List Value} (h:w.ownsRow base e size v n xs): ∃A c,v= .slice A n c:=by
 rcases h.2 with⟨rfl,rfl⟩ | ⟨g,cap,cur,rfl,_⟩
 ·exact⟨_,_,rfl⟩
 ·exact⟨_,_,rfl⟩
theorem own_belowz {w w':World} {base size:Nat} {e:TypeId} {v:Value} {n:Nat} {xs:List Value} (h:w.ownsRow base e size v n xs) (hg:w.grownBy w' v.ownBlock) (hB:base≤w.heap.size):Below base w w':=
 (Below.refl base w).grown hg hB fun k hk=>(h.lt k hk).1
theorem own_keptz {w w':World} {base size:Nat} {e:TypeId} {v:Value} {n:Nat} {xs:List Value} (h:w.ownsRow base e size v n xs) (hb:Below w.heap.size w w'):w'.ownsRow base e size v n xs:=
 h.kept (row:=some w.heap.size) ⟨hb.os,hb.tape,hb.output,hb.size,fun k hk _=>hb.block k hk⟩ (by
  cases hv:v.ownBlock with
  | none=>exact .inl rfl
  | some k=>right;intro e;injection e with e;have:=(h.lt k hv).2;omega)
theorem app_rowz {P:Program} (w:World) (base:Nat) (t ty e:TypeId) (i:TypeInfo) (z:Value) (size bytes:Nat) (ht:P.underlying t=some (.slice e)) (hi:P.info? e=some i) (hz:i.zero=some z)
 (hsize:i.size=size) (hby:i.bytes=bytes) (hzs:z.cells.size=size) (hpos:0<size)
 (v:Value) (n:Nat) (xs:List Value) (hown:w.ownsRow base e size v n xs)
 (B:Nat) (A:Option Addr) (m c:Nat) (news:List Value) (hm:news.length=m*size) (hr:Row w B A news) (h1: ∀u∈news,u.oneCell'=true)
 (h63:n+m≤maxLen) (hbytes:(n+m)*bytes≤140737488355328) (hbase:base≤w.heap.size):
 ∃v' w',(Builtin.append_ #[t,t] ty #[v,.slice A m c]).run P w= .ok v' w'∧w'.ownsRow base e size v' (n+m) (xs++news)∧w.grownBy w' v.ownBlock∧
  (v'.ownBlock=v.ownBlock∨v'.ownBlock=some w.heap.size):=by
 rcases A with _ | ad
 ·have hnil:news= []:=by
   rcases Nat.eq_zero_or_pos news.length with h0 | h0
   ·exact List.eq_nil_of_length_eq_zero h0
   ·obtain⟨_,_,h',_⟩:=hr h0
    cases h'
  subst hnil
  have hm0:m=0:=by
   rcases Nat.eq_zero_or_pos m with h0 | h0
   ·exact h0
   ·have:=Nat.mul_pos h0 hpos
    simp at hm;omega
  subst hm0
  exact⟨v,w,app_nonez w base t ty e i size ht hi v n xs hown c,by simpa using hown,World.grownBy.refl w _,.inl rfl⟩
 ·obtain⟨v',w',hrun,h2,h3,_,h5⟩:=run_append_own_at (P:=P) w base t ty e i z size bytes ht hi hz hsize hby hzs hpos v n xs hown ad m c news hm (fun j u hu=>by
   have hj:=(List.getElem?_eq_some_iff.1 hu).1
   obtain⟨b,o,h',_,hc⟩:=hr (by omega)
   injection h' with h'
   subst h'
   rw [Addr.add_lit]
   exact hc j u hu) h1 h63 hbytes hbase
  exact⟨v',w',hrun,h2,h3,h5⟩
theorem wpList_appz {P:Program} (w:World) {ops:Array Oper} {rest:List Oper} {o:Oper} {a:Act} {Q:Exit→Act→World→Prop} (hgd:o.guard=none) (s x:Operand) (t:TypeId)
 (ho:o.op= .call {callee:= .builtin .append,args:= #[s,x],argTypes:= #[t,t]})
 (base:Nat) (e:TypeId) (i:TypeInfo) (z:Value) (size bytes:Nat) (ht:P.underlying t=some (.slice e)) (hi:P.info? e=some i) (hz:i.zero=some z)
 (hsize:i.size=size) (hby:i.bytes=bytes) (hzs:z.cells.size=size) (hpos:0<size)
 (v:Value) (n:Nat) (xs:List Value) (hs:a.eval s=v) (hown:w.ownsRow base e size v n xs)
 (B:Nat) (A:Option Addr) (m c:Nat) (news:List Value) (hx:a.eval x= .slice A m c) (hm:news.length=m*size) (hr:Row w B A news) (h1: ∀u∈news,u.oneCell'=true)
 (h63:n+m≤maxLen) (hbytes:(n+m)*bytes≤140737488355328) (hbase:base≤w.heap.size)
 (h: ∀A' c' w',w'.ownsRow base e size (.slice A' (n+m) c') (n+m) (xs++news)→w.grownBy w' v.ownBlock→((Value.slice A' (n+m) c').ownBlock=v.ownBlock∨(Value.slice A' (n+m) c').ownBlock=some w.heap.size)→wpList P ops Q rest (a.put o.dst (.slice A' (n+m) c')) w'):wpList P ops Q (o::rest) a w:=by
 refine wpList_plain hgd fun _ hK=> ?_
 obtain⟨v',w',hrun,h2,h3,h4⟩:=app_rowz (P:=P) w base t o.type e i z size bytes ht hi hz hsize hby hzs hpos v n xs hown B A m c news hm hr h1 h63 hbytes hbase
 obtain⟨A',c',rfl⟩:=own_formz h2
 unfold Oper.wp execOp
 simp only [ho,resolve,invoke,builtin,Sem.run_bind,Sem.run_pure,Result.andThen_ok,List.map_toArray,List.map_cons,List.map_nil,hs,hx,hrun]
 exact hK _ _ (h A' c' w' h2 h3 h4)
theorem step_appz {P:Program} {ops:Array Oper} {o:Oper} {a:Act} {w:World} {K:Act→World→Prop} {Q:Exit→Act→World→Prop} {E:Prop}
 (hg:o.guard=none) (s x:Operand) (t:TypeId) (hop:o.op=Op.call {callee:=Callee.builtin Builtin.append,args:= #[s,x],argTypes:= #[t,t]})
 (base:Nat) (e:TypeId) (i:TypeInfo) (z:Value) (size bytes:Nat) (ht:P.underlying t=some (.slice e)) (hi:P.info? e=some i) (hz:i.zero=some z)
 (hsize:i.size=size) (hby:i.bytes=bytes) (hzs:z.cells.size=size) (hpos:0<size)
 (v:Value) (n:Nat) (xs:List Value) (hs:a.eval s=v) (hown:w.ownsRow base e size v n xs)
 (B:Nat) (A:Option Addr) (m c:Nat) (news:List Value) (hx:a.eval x= .slice A m c) (hm:news.length=m*size) (hr:Row w B A news) (h1: ∀u∈news,u.oneCell'=true)
 (h63:n+m≤maxLen) (hbytes:(n+m)*bytes≤140737488355328) (hbase:base≤w.heap.size)
 (h: ∀A' c' w',w'.ownsRow base e size (.slice A' (n+m) c') (n+m) (xs++news)→w.grownBy w' v.ownBlock→((Value.slice A' (n+m) c').ownBlock=v.ownBlock∨(Value.slice A' (n+m) c').ownBlock=some w.heap.size)→K (a.put o.dst (.slice A' (n+m) c')) w'):
 if Region.wanted o (yielded ops a.tmps)=true then Oper.wp P o a w K Q else E:=by
 have hw:Region.wanted o (yielded ops a.tmps)=true:=by simp [Region.wanted,hg]
 rw [if_pos hw]
 obtain⟨v',w',hrun,h2,h3,h4⟩:=app_rowz (P:=P) w base t o.type e i z size bytes ht hi hz hsize hby hzs hpos v n xs hown B A m c news hm hr h1 h63 hbytes hbase
 obtain⟨A',c',rfl⟩:=own_formz h2
 unfold Oper.wp
 simp [execOp,hop,resolve,invoke,builtin,hs,hx,hrun,Result.andThen]
 exact h A' c' w' h2 h3 h4
theorem own_far {w:World} {base size:Nat} {e:TypeId} {v:Value} {n:Nat} {xs:List Value} (h:w.ownsRow base e size v n xs) {p:Addr} (hp:p.block<base) (u:Value):(w.setCell p u).ownsRow base e size v n xs:=
 h.kept (row:=some p.block) ⟨rfl,rfl,rfl,by simp [World.setCell],fun k _ hn=>Below.heap_setCell _ _ _ _ (fun e=>hn (by rw [e]))⟩ (by
  cases hv:v.ownBlock with
  | none=>exact .inl rfl
  | some k=>right;intro e;injection e with e;have:=(h.lt k hv).1;omega)
theorem grown_cell {w w':World} {row:Option Nat} (hg:w.grownBy w' row) {p:Addr} (hp:p.block<w.heap.size) (hn:row≠some p.block):w'.cell? p=w.cell? p:=by
 have:=hg.block p.block hp (fun e=>hn e.symm)
 simp [World.cell?,this]
theorem grown_blk {w w':World} {row:Option Nat} (hg:w.grownBy w' row) {g:Nat} {t:TypeId} {xs:List Value} (h:Blk w g t xs) (hn:row≠some g):Blk w' g t xs:=
 (hg.block g h.lt (fun e=>hn e.symm)).trans h
theorem row_cells (w:World) (cs:List Value) (t:TypeId):Row (w.alloc (.cells cs.toArray t)) (w.heap.size+1) (some ⟨w.heap.size,0,none⟩) cs:=by
 intro _
 refine⟨w.heap.size,0,rfl,Nat.lt_succ_self _,fun j u hu=> ?_⟩
 have:=(Blk.new w t cs).cell j
 rw [Nat.zero_add,this,hu]
structure Gath {α:Type} (r:Rd α) (e:TypeId) (base:Nat) (W:World) (A:Option Addr) (n c:Nat) (cells:List Value) (xs:List α):Prop where
 own:W.ownsRow base e r.z (.slice A n c) n cells
 len:n=xs.length
 els: ∀(k:Nat) x,xs[k]?=some x→ ∃lo hi,base≤lo∧hi≤W.heap.size∧(∀g,(Value.slice A n c).ownBlock=some g→g<lo∨hi≤g)∧r.R W lo hi ((cells.drop (k*r.z)).take r.z) x
section
variable {α:Type} {r:Rd α} {e:TypeId} {base:Nat} {W W':World} {A:Option Addr} {n c:Nat} {cells:List Value} {xs:List α}
theorem Gath.nil (r:Rd α) (e:TypeId) (base:Nat) (W:World):Gath r e base W none 0 0 [] []:=
 ⟨⟨by simp,.inl ⟨rfl,rfl⟩⟩,rfl,fun k x h=>by simp at h⟩
theorem Gath.below (h:Gath r e base W A n c cells xs) (hb:Below W.heap.size W W'):Gath r e base W' A n c cells xs:=by
 refine⟨own_keptz h.own hb,h.len,fun k x hk=> ?_⟩
 obtain⟨lo,hi,h1,h2,h3,h4⟩:=h.els k x hk
 exact⟨lo,hi,h1,Nat.le_trans h2 hb.size,h3,r.below h4 hb h2⟩
theorem Gath.reads (h:Gath r e base W A n c cells xs):(r.sl false).R W base W.heap.size [.slice A n c] xs:=by
 refine Rd.own false h.own h.len fun k x hk=> ?_
 obtain⟨lo,hi,h1,h2,_,h4⟩:=h.els k x hk
 exact r.more h1 h2 h4
theorem Gath.snoc (h:Gath r e base W A n c cells xs) (hbase:base≤W.heap.size) {A':Option Addr} {c' lo hi:Nat} {cs:List Value} {x:α} (hr:r.R W lo hi cs x) (hlo:base≤lo) (hhi:hi≤W.heap.size) (hap: ∀g,(Value.slice A n c).ownBlock=some g→g<lo∨hi≤g)
 (ho:W'.ownsRow base e r.z (.slice A' (n+1) c') (n+1) (cells++cs)) (hg:W.grownBy W' (Value.slice A n c).ownBlock) (hat:(Value.slice A' (n+1) c').ownBlock=(Value.slice A n c).ownBlock∨(Value.slice A' (n+1) c').ownBlock=some W.heap.size):
 Gath r e base W' A' (n+1) c' (cells++cs) (xs++ [x]):=by
 have hl:cells.length=n*r.z:=h.own.1
 have hcs:cs.length=r.z:=r.len hr
 have hnew: ∀ {lo hi:Nat},hi≤W.heap.size→(∀g,(Value.slice A n c).ownBlock=some g→g<lo∨hi≤g)→ ∀g,(Value.slice A' (n+1) c').ownBlock=some g→g<lo∨hi≤g:=fun hh ha g hg'=>by
  rcases hat with h1 | h1
  ·exact ha g (h1▸hg')
  ·rw [h1] at hg';injection hg' with hg';right;omega
 refine⟨ho,by rw [List.length_append,←h.len];rfl,fun k y hk=> ?_⟩
 rw [List.getElem?_append] at hk
 split at hk
 ·rename_i hlt
  obtain⟨l1,h1,g1,g2,g3,g4⟩:=h.els k y hk
  refine⟨l1,h1,g1,Nat.le_trans g2 hg.size,hnew g2 g3,?_⟩
  have hkn:k*r.z+r.z≤cells.length:=by
   rw [hl,←Nat.succ_mul]
   exact Nat.mul_le_mul_right _ (by rw [h.len];exact hlt)
  rw [List.drop_append_of_le_length (by omega),List.take_append_of_le_length (by rw [List.length_drop];omega)]
  exact r.grown g4 hg g2 g3
 ·rename_i hge
  have hk0:k=xs.length:=by
   have:=(List.getElem?_eq_some_iff.1 hk).1
   simp at this;omega
  subst hk0
  rw [Nat.sub_self] at hk
  simp at hk
  subst hk
  refine⟨lo,hi,hlo,Nat.le_trans hhi hg.size,hnew hhi hap,?_⟩
  rw [←h.len,←hl,List.drop_left' rfl,←hcs,List.take_length]
  exact r.grown hr hg hhi hap
end
structure Flat {α:Type} (r:Rd α) (f:α→List Value) (ok:α→Prop):Prop where
 iff: ∀ {W:World} {lo hi:Nat} {cs:List Value} {x:α},r.R W lo hi cs x↔cs=f x∧ok x
 one: ∀x,∀u∈f x,u.oneCell'=true
 len: ∀x,(f x).length=r.z
 pos:0<r.z
theorem flat_u8:Flat Rd.u8 (fun x=> [bv x]) (fun _=>True):=⟨Iff.rfl,fun x u h=>by rw [List.mem_singleton] at h;subst h;rfl,fun _=>rfl,by decide⟩
theorem flat_i64:Flat Rd.i64 (fun x=> [Value.int .i64 x]) Rd.B63:=⟨Iff.rfl,fun x u h=>by rw [List.mem_singleton] at h;subst h;rfl,fun _=>rfl,by decide⟩
theorem flat_u64:Flat Rd.u64 (fun x=> [uv x]) Rd.B64:=⟨Iff.rfl,fun x u h=>by rw [List.mem_singleton] at h;subst h;rfl,fun _=>rfl,by decide⟩
theorem flat_str:Flat Rd.str (fun x=> [Value.string x]) Rd.SOk:=⟨Iff.rfl,fun x u h=>by rw [List.mem_singleton] at h;subst h;rfl,fun _=>rfl,by decide⟩
def sigC (x:SigV):List Value:= [.string x.p,.string x.r]
theorem flat_sig:Flat rSig sigC (fun x=>Rd.SOk x.p∧Rd.SOk x.r):=⟨rSig_iff,fun x u h=>by unfold sigC at h;simp at h;rcases h with rfl | rfl<;>rfl,fun _=>rfl,by decide⟩
def globC (x:GlobV):List Value:= [bv x.l,.bool x.m,uv x.v]
theorem flat_glob:Flat rGlob globC (fun x=>Rd.B64 x.v):=⟨rGlob_iff,fun x u h=>by unfold globC at h;simp at h;rcases h with rfl | rfl | rfl<;>rfl,fun _=>rfl,by decide⟩
def expC (x:ExpV):List Value:= [.string x.n,.int .i64 x.f]
theorem flat_exp:Flat rExp expC (fun x=>Rd.SOk x.n∧Rd.B63 x.f):=⟨rExp_iff,fun x u h=>by unfold expC at h;simp at h;rcases h with rfl | rfl<;>rfl,fun _=>rfl,by decide⟩
theorem flatMap_len {α:Type} {f:α→List Value} {z:Nat} (hl: ∀x,(f x).length=z): ∀l:List α,(l.flatMap f).length=l.length*z
 | []=>by simp
 | x::l=>by rw [List.flatMap_cons,List.length_append,hl,flatMap_len hl l,List.length_cons,Nat.succ_mul,Nat.add_comm]
theorem flatMap_take {α:Type} {f:α→List Value} {z:Nat} (hl: ∀x,(f x).length=z): ∀(l:List α) (k:Nat) (x:α),l[k]?=some x→((l.flatMap f).drop (k*z)).take z=f x
 | [],k,x,h=>by simp at h
 | y::l,0,x,h=>by
  simp at h
  subst h
  rw [Nat.zero_mul,List.drop_zero,List.flatMap_cons,←hl y,List.take_left' rfl]
 | y::l,k+1,x,h=>by
  rw [List.getElem?_cons_succ] at h
  rw [List.flatMap_cons,Nat.succ_mul,Nat.add_comm,←hl y,←List.drop_drop,List.drop_left' rfl,hl y]
  exact flatMap_take hl l k x h
section
variable {α:Type} {r:Rd α} {f:α→List Value} {ok:α→Prop} {W:World} {lo hi:Nat} {A:Option Addr} {n c:Nat} {l:List α}
theorem Flat.oks (hf:Flat r f ok) (h:(r.sl false).R W lo hi [.slice A n c] l): ∀x∈l,ok x:=fun x hx=>by
 obtain⟨k,hk,rfl⟩:=List.getElem_of_mem hx
 obtain⟨b,o,_,_,_,cs,_,hr⟩:=sl_at h (List.getElem?_eq_getElem hk)
 exact(hf.iff.1 hr).2
theorem Flat.row (hf:Flat r f ok) (h:(r.sl false).R W lo hi [.slice A n c] l):Row W hi A (l.flatMap f):=fun hn=>by
 have hlen:=flatMap_len hf.len l
 have h0:0<l.length:=by
  rcases Nat.eq_zero_or_pos l.length with h0 | h0
  ·rw [h0,Nat.zero_mul] at hlen;omega
  ·exact h0
 obtain⟨A',c',he,_,h⟩:=h
 injection he with he _
 injection he with h1 h2 h3
 subst h1 h2
 obtain⟨b,o,e,_,hhi,hx⟩:=h h0
 refine⟨b,o,e,hhi,fun j u hu=> ?_⟩
 have hj:j<l.length*r.z:=by have:=(List.getElem?_eq_some_iff.1 hu).1;rwa [hlen] at this
 have hk:j/r.z<l.length:=(Nat.div_lt_iff_lt_mul hf.pos).2 hj
 obtain⟨cs,hc,hr⟩:=hx (j/r.z) _ (List.getElem?_eq_getElem hk)
 obtain⟨rfl,_⟩:=hf.iff.1 hr
 have ht:=flatMap_take hf.len l (j/r.z) _ (List.getElem?_eq_getElem hk)
 have hm:j%r.z<r.z:=Nat.mod_lt _ hf.pos
 have hd:j/r.z*r.z+j%r.z=j:=by rw [Nat.mul_comm];exact Nat.div_add_mod j r.z
 have:=hc (j%r.z) u (by
  rw [←ht,List.getElem?_take,if_pos hm,List.getElem?_drop,hd]
  exact hu)
 rw [Nat.add_assoc,hd] at this
 exact this
theorem Flat.reads (hf:Flat r f ok) {base:Nat} {e:TypeId} (h:W.ownsRow base e r.z (.slice A n c) n (l.flatMap f)) (hn:n=l.length) (hok: ∀x∈l,ok x):(r.sl false).R W base W.heap.size [.slice A n c] l:=
 Rd.own false h hn fun k x hk=>hf.iff.2 ⟨flatMap_take hf.len l k x hk,hok x (List.mem_of_getElem? hk)⟩
theorem Flat.cells (hf:Flat r f ok) (l:List α): ∀u∈l.flatMap f,u.oneCell'=true:=fun u hu=>by
 obtain⟨x,_,hx⟩:=List.mem_flatMap.1 hu
 exact hf.one x u hx
end
theorem Rd.set {α:Type} {r:Rd α} {W:World} {lo hi:Nat} {cs:List Value} {x:α} (h:r.R W lo hi cs x) {p:Addr} (u:Value) (hp:p.block<lo∨hi≤p.block):r.R (W.setCell p u) lo hi cs x:=
 r.keep (fun q h1 h2=>by
  have hb:=Below.heap_setCell W p u q.block (by omega)
  simp only [World.cell?,hb]) h
def CopyPost {α:Type} (r:Rd α) (l:List α) (w:World) (e:Ending) (w':World):Prop:= ∃A' c',e= .returned (.slice A' l.length c')∧(r.sl false).R w' w.heap.size w'.heap.size [.slice A' l.length c'] l∧Below w.heap.size w w'
theorem info_parts' {P:Program} {t:TypeId} {s b:Nat} (h:(P.info? t).map (fun i=>(i.size,i.bytes,i.zero.map fun z=>z.cells.size))=some (s,b,some s)): ∃i z,P.info? t=some i∧i.zero=some z∧i.size=s∧i.bytes=b∧z.cells.size=s:=by
 cases hi:P.info? t with
 | none=>rw [hi] at h;cases h
 | some i=>
  rw [hi] at h
  simp only [Option.map_some,Option.some.injEq,Prod.mk.injEq] at h
  obtain⟨h1,h2,h3⟩:=h
  cases hz:i.zero with
  | none=>rw [hz] at h3;cases h3
  | some z=>
   rw [hz] at h3
   exact⟨i,z,rfl,hz,h1,h2,by simpa using h3⟩
theorem infoc_bytes:(prog.info? 5).map (fun i=>(i.size,i.bytes,i.zero.map fun z=>z.cells.size))=some (1,1,some 1):=by kernel_rfl
theorem infoc_ints:(prog.info? 3).map (fun i=>(i.size,i.bytes,i.zero.map fun z=>z.cells.size))=some (1,8,some 1):=by kernel_rfl
theorem infoc_words:(prog.info? 80).map (fun i=>(i.size,i.bytes,i.zero.map fun z=>z.cells.size))=some (1,8,some 1):=by kernel_rfl
theorem infoc_sigs:(prog.info? 51).map (fun i=>(i.size,i.bytes,i.zero.map fun z=>z.cells.size))=some (2,32,some 2):=by kernel_rfl
theorem infoc_globals:(prog.info? 82).map (fun i=>(i.size,i.bytes,i.zero.map fun z=>z.cells.size))=some (3,16,some 3):=by kernel_rfl
theorem infoc_exports:(prog.info? 61).map (fun i=>(i.size,i.bytes,i.zero.map fun z=>z.cells.size))=some (2,24,some 2):=by kernel_rfl
theorem row_lit (w:World) (cs:List Value) (e:TypeId):Row (w.alloc (.cells cs.toArray e)) (w.heap.size+1) (some ⟨w.heap.size,0,none⟩) cs:=by
 have:=(Blk.new w e cs).row 0 cs.length
 simpa using this
theorem getD_mem_range (ps:List Int) (h: ∀x∈ps,-9223372036854775808≤x∧x<9223372036854775808) (k:Nat) (hk:k<ps.length): -9223372036854775808≤ps[k]?.getD 0∧ps[k]?.getD 0<9223372036854775808:=by
 rw [List.getElem?_eq_getElem hk]
 exact h _ (List.getElem_mem hk)
def ivals (ps:List Int):List Value:=ps.map (Value.int .i64)
theorem ivals_cell {w:World} {B:Nat} {A:Option Addr} {ps:List Int} (h:Row w B A (ivals ps)) {k:Nat} (hk:k<ps.length):
 ∃b o,A=some ⟨b,o,none⟩∧b<B∧w.cell? ⟨b,o+k,none⟩=some (.int .i64 (ps[k]?.getD 0)):=by
 refine h.at ?_
 unfold ivals
 rw [List.getElem?_map,List.getElem?_eq_getElem hk]
 rfl
def Cap (n N:Nat):Prop:=n=N∨(2147483647<n∧2147483647<N)
def sumBy {α:Type} (f:α→Nat) (l:List α):Nat:=(l.map f).sum
theorem Cap.step {n N m g:Nat} (h:Cap n N) (h2:Cap m g):Cap (n+m) (N+g):=by unfold Cap at*;omega
theorem Cap.stop {n N M:Nat} (h:Cap n N) (hn:2147483647<n) (hM:N≤M):Cap n M:=by unfold Cap at*;omega
theorem Cap.iff {n N:Nat} (h:Cap n N):n≤2147483647↔N≤2147483647:=by unfold Cap at*;omega
theorem sumBy_take {α:Type} (f:α→Nat) (l:List α) (k:Nat):sumBy f (l.take k)≤sumBy f l:=by
 have:=List.take_append_drop k l
 conv=>rhs;rw [←this]
 unfold sumBy
 rw [List.map_append,List.sum_append]
 omega
theorem sumBy_succ {α:Type} (f:α→Nat) {l:List α} {k:Nat} {x:α} (h:l[k]?=some x):sumBy f (l.take (k+1))=sumBy f (l.take k)+f x:=by
 rw [List.take_add_one,h]
 simp [sumBy]
def InsIn (x:InsV):Prop:=x.l.length≤140737488351232
def szCode (l:List InsV):Nat:=l.length+sumBy (fun i=>i.l.length) l
def szPages (l:List (List UInt8)):Nat:=l.length+sumBy List.length l
def szFn (x:FnV):Nat:=x.loc.size+szCode x.code
def szMod (m:ModV):Nat:=m.types.length+m.hosts.length+m.globs.length+m.fns.length+m.dat.length+m.exps.length+sumBy (fun t=>t.p.size+t.r.size) m.types+sumBy szFn m.fns+sumBy (fun d=>d.b.length) m.dat+sumBy (fun e=>e.n.size) m.exps
def szSt (s:StV):Nat:=s.frames.length+s.globs.length+s.res.length+szPages s.pages+sumBy (fun f=>f.loc.length+f.st.length) s.frames
def capFrom:Nat→List Nat→Nat
 | n,[]=>n
 | n,g::gs=>if n≤2147483647 then capFrom (n+g) gs else n
theorem capFrom_stop {n:Nat} (h:2147483647<n) (gs:List Nat):capFrom n gs=n:=by cases gs with | nil=>rfl | cons g gs=>unfold capFrom;rw [if_neg (by omega)]
theorem capFrom_cap: ∀(gs:List Nat) (n:Nat),Cap (capFrom n gs) (n+gs.sum)
 | [],n=> .inl (by simp [capFrom])
 | g::gs,n=>by
  unfold capFrom
  split
  ·have:=capFrom_cap gs (n+g)
   rwa [List.sum_cons,←Nat.add_assoc]
  ·rename_i h
   exact .inr ⟨by omega,by omega⟩
theorem capFrom_le: ∀(gs:List Nat) (n U:Nat),n≤U→(∀g∈gs,2147483647+g≤U)→capFrom n gs≤U
 | [],n,U,h,_=>h
 | g::gs,n,U,h,hg=>by
  unfold capFrom
  split
  ·rename_i hn
   exact capFrom_le gs (n+g) U (by have:=hg g (by simp);omega) (fun x hx=>hg x (by simp [hx]))
  ·exact h
def capCode (l:List InsV):Nat:=capFrom l.length (l.map fun i=>i.l.length)
theorem capCode_cap (l:List InsV):Cap (capCode l) (szCode l):=capFrom_cap _ _
theorem capCode_le {l:List InsV} (h:l.length≤140737488351232) (hl: ∀i∈l,InsIn i):capCode l≤281474976710656:=
 capFrom_le _ _ _ (by omega) (fun g hg=>by
  obtain⟨i,hi,rfl⟩:=List.mem_map.1 hg
  have:=hl i hi
  unfold InsIn at this
  omega)
def capPages (l:List (List UInt8)):Nat:=capFrom l.length (l.map List.length)
theorem capPages_cap (l:List (List UInt8)):Cap (capPages l) (szPages l):=capFrom_cap _ _
theorem capPages_le {l:List (List UInt8)} (h:l.length≤140737488351232) (hl: ∀i∈l,i.length≤140737488351232):capPages l≤281474976710656:=
 capFrom_le _ _ _ (by omega) (fun g hg=>by
  obtain⟨i,hi,rfl⟩:=List.mem_map.1 hg
  have:=hl i hi
  omega)
def CfRel {α:Type} (f:α→Nat) (n0:Nat) (l:List α) (w:World) (x i:Value) (wr:World):Prop:= ∃k m:Nat,k≤l.length∧i= .int .i64 k∧x= .int .i64 m∧wr=w∧capFrom m ((l.drop k).map f)=capFrom n0 (l.map f)∧m≤281474976710656
theorem CfRel.next {α:Type} {f:α→Nat} {n0:Nat} {l:List α} {k m:Nat} {x:α} (h:capFrom m ((l.drop k).map f)=capFrom n0 (l.map f)) (hx:l[k]?=some x) (hm:m≤2147483647):capFrom (m+f x) ((l.drop (k+1)).map f)=capFrom n0 (l.map f):=by
 obtain⟨hk,he⟩:=List.getElem?_eq_some_iff.1 hx
 rw [List.drop_eq_getElem_cons hk,List.map_cons,he] at h
 rw [←h]
 conv=>rhs;unfold capFrom
 rw [if_pos hm]
theorem CfRel.stop {α:Type} {f:α→Nat} {n0:Nat} {l:List α} {k m:Nat} (h:capFrom m ((l.drop k).map f)=capFrom n0 (l.map f)) (hm:2147483647<m):m=capFrom n0 (l.map f):=by rwa [capFrom_stop hm] at h
theorem CfRel.all {α:Type} {f:α→Nat} {n0:Nat} {l:List α} {k m:Nat} (h:capFrom m ((l.drop k).map f)=capFrom n0 (l.map f)) (hk:k=l.length):m=capFrom n0 (l.map f):=by
 subst hk
 rw [List.drop_length] at h
 exact h
theorem size_code (A:Option Addr) (n c hi:Nat) (l:List InsV) (w:World) (h:(rIns.sl false).R w 0 hi [.slice A n c] l) (h47:n≤140737488351232) (hl: ∀i∈l,InsIn i):
 Calls prog 20 #[.slice A n c] w fun e w'=>w=w'∧e= .returned (.int .i64 (capCode l:Nat)):=by
 have Hn:=hideIt (sl_len h)
 have Hh:=hideIt h;clear h
 have Hl:=hideIt hl;clear hl
 go_enter func20,ntmps20
 go_wp2_with fail
 go_loopw [3,4] (fun x i wr=>CfRel (fun i:InsV=>i.l.length) l.length l w x i wr) (fun _ i _=>n-(intOf i).toNat)
 case atStart=>exact⟨0,n,Nat.zero_le _,rfl,rfl,rfl,by rw [List.drop_zero,←Hn.out],by omega⟩
 case round=>
  obtain⟨k,m,hk,rfl,rfl,rfl,hm,hm4⟩:=hrel
  rw [←Hn.out] at hk
  have Hm:=hideIt hm;clear hm
  by_cases hlt:k<n
  ·by_cases hm2:m≤2147483647
   ·obtain⟨x,hx⟩: ∃x,l[k]?=some x:=⟨_,List.getElem?_eq_getElem (by rw [←Hn.out];exact hlt)⟩
    obtain⟨b,o,A_l,c_l,rfl,_,hb,hc0,hc1,hc2,_,h_l⟩:=rIns_at Hh.out hx
    have hr8:x.l.length≤140737488351232:=Hl.out x (List.mem_of_getElem? hx)
    have HS:=hideIt (CfRel.next Hm.out hx hm2)
    have hm3:decide ((m:Int)≤2147483647)=true:=decide_eq_true (by omega)
    have hi0:(0:Int)≤k:=by omega
    clear hx h_l hc0 hc1
    go_wp2_with fail
    exact⟨⟨k+1,m+x.l.length,by rw [←Hn.out];omega,by go_num,by go_num,rfl,HS.out,by omega⟩,by simp [intOf];omega⟩
   ·have hm3:decide ((m:Int)≤2147483647)=false:=decide_eq_false (by omega)
    go_wp2_with fail
    go_ret
    exact⟨rfl,by rw [show m=capCode l from CfRel.stop Hm.out (by omega)];rfl⟩
  ·obtain rfl:k=n:=by omega
   go_wp2_with fail
   go_ret
   exact⟨rfl,by rw [show k=l.length from Hn.out] at Hm;rw [show m=capCode l from CfRel.all Hm.out rfl];rfl⟩
def FnIn (x:FnV):Prop:=x.loc.size≤140737488351232∧x.code.length≤140737488351232∧ ∀i∈x.code,InsIn i
structure ModIn (x:ModV):Prop where
 types:x.types.length≤140737488351232
 hosts:x.hosts.length≤140737488351232
 globs:x.globs.length≤140737488351232
 fnsl:x.fns.length≤140737488351232
 fns: ∀i∈x.fns,FnIn i
 datl:x.dat.length≤140737488351232
 dat: ∀i∈x.dat,i.b.length≤140737488351232
 exps:x.exps.length≤140737488351232
def SzC (w1:World) (N:Nat) (s:Value) (wx:World):Prop:= ∃(m q:Nat),s= .int .i64 m∧wx=w1.drewN q∧Cap m N∧m≤1125899906842624
def SzRel (w1:World) (N:Nat) {α:Type} (f:α→Nat) (l:List α) (x i:Value) (wr:World):Prop:= ∃k m q:Nat,k≤l.length∧i= .int .i64 k∧x= .int .i64 m∧wr=w1.drewN q∧Cap m (N+sumBy f (l.take k))∧m≤1125899906842624
theorem SzRel.stop {w1:World} {N k m q:Nat} {α:Type} {f:α→Nat} {l:List α} (hm:Cap m (N+sumBy f (l.take k))) (hn:2147483647<m) (h5:m≤1125899906842624):SzC w1 (N+sumBy f l) (.int .i64 m) (w1.drewN q):=
 ⟨m,q,rfl,rfl,hm.stop hn (by have:=sumBy_take f l k;omega),h5⟩
theorem SzRel.all {w1:World} {N k m q:Nat} {α:Type} {f:α→Nat} {l:List α} (hm:Cap m (N+sumBy f (l.take k))) (hk:k=l.length) (h5:m≤1125899906842624):SzC w1 (N+sumBy f l) (.int .i64 m) (w1.drewN q):=
 ⟨m,q,rfl,rfl,by rwa [List.take_of_length_le (by rw [hk];exact Nat.le_refl _)] at hm,h5⟩
theorem SzRel.next {α:Type} {f:α→Nat} {l:List α} {N k m g:Nat} {x:α} (hm:Cap m (N+sumBy f (l.take k))) (hx:l[k]?=some x) (hg:Cap g (f x)):Cap (m+g) (N+sumBy f (l.take (k+1))):=by
 rw [sumBy_succ _ hx,←Nat.add_assoc]
 exact hm.step hg
theorem size_module (cs:List Value) (hi:Nat) (x:ModV) (w:World) (h:rMod.R w 0 hi cs x) (hhi:hi≤w.heap.size) (hin:ModIn x):
 Calls prog 8 #[.agg cs.toArray] w fun e w'=>Below w.heap.size w w'∧ ∃n:Nat,e= .returned (.int .i64 n)∧Cap n (szMod x):=by
 obtain⟨v_types,v_hosts,v_globs,v_fns,v_dat,v_exps,rfl,h_types,h_hosts,h_globs,h_first,h_most,h_fns,h_dat,h_exps⟩:=rMod_iff.1 h
 clear h h_first h_most
 obtain⟨A_types,c_types,rfl⟩:=sl_form h_types
 obtain⟨A_hosts,c_hosts,rfl⟩:=sl_form h_hosts
 obtain⟨A_globs,c_globs,rfl⟩:=sl_form h_globs
 obtain⟨A_fns,c_fns,rfl⟩:=sl_form h_fns
 obtain⟨A_dat,c_dat,rfl⟩:=sl_form h_dat
 obtain⟨A_exps,c_exps,rfl⟩:=sl_form h_exps
 have H_types:=hideIt h_types
 have H_hosts:=hideIt h_hosts
 have H_globs:=hideIt h_globs
 have H_fns:=hideIt h_fns
 have H_dat:=hideIt h_dat
 have H_exps:=hideIt h_exps
 clear h_types h_hosts h_globs h_fns h_dat h_exps
 have Hin:=hideIt hin
 have l0:=hin.types;have l1:=hin.hosts;have l2:=hin.globs;have l3:=hin.fnsl;have l4:=hin.datl;have l5:=hin.exps
 clear hin
 go_enter func8,ntmps8
 go_upto_block 0 with fail
 generalize hw:w.alloc _=w1
 have Hb1:Hid (Blk w1 w.heap.size 29 [.slice A_types x.types.length c_types,.slice A_hosts x.hosts.length c_hosts,.slice A_globs x.globs.length c_globs,.int .i64 x.first,.int .i64 x.most,.slice A_fns x.fns.length c_fns,.slice A_dat x.dat.length c_dat,.slice A_exps x.exps.length c_exps]):=by rw [←hw];exact hideIt (Blk.new w 29 [.slice A_types x.types.length c_types,.slice A_hosts x.hosts.length c_hosts,.slice A_globs x.globs.length c_globs,.int .i64 x.first,.int .i64 x.most,.slice A_fns x.fns.length c_fns,.slice A_dat x.dat.length c_dat,.slice A_exps x.exps.length c_exps])
 have H1:Hid (Below w.heap.size w w1):=by rw [←hw];exact hideIt ((Below.refl _ _).alloc (Nat.le_refl _) _)
 clear hw
 have HN0:Hid (Cap (x.types.length+x.hosts.length+x.globs.length+x.fns.length+x.dat.length+x.exps.length) (x.types.length+x.hosts.length+x.globs.length+x.fns.length+x.dat.length+x.exps.length)∧(x.types.length+x.hosts.length+x.globs.length+x.fns.length+x.dat.length+x.exps.length)≤1125899906842624):=hideIt ⟨.inl rfl,by omega⟩
 go_cut [3] from 31 to 58 (fun s wx=>SzC w1 ((x.types.length+x.hosts.length+x.globs.length+x.fns.length+x.dat.length+x.exps.length)+sumBy (fun t:SigV=>t.p.size+t.r.size) x.types) s wx)
 case first=>
  have hbx:=Hb1.out.q 0 rfl
  go_wp2_with fail
  go_loopw [3,4] (fun s i wr=>SzRel w1 (x.types.length+x.hosts.length+x.globs.length+x.fns.length+x.dat.length+x.exps.length) (fun t:SigV=>t.p.size+t.r.size) x.types s i wr) (fun _ i _=>x.types.length-(intOf i).toNat)
  case atStart=>exact⟨0,_,0,Nat.zero_le _,rfl,by go_num,rfl,by simpa [sumBy] using HN0.out.1,HN0.out.2⟩
  case round=>
   obtain⟨k,m,q,hk,rfl,rfl,rfl,hm,hm4⟩:=hrel
   have Hm:=hideIt hm;clear hm
   by_cases hlt:k<x.types.length
   ·by_cases hm2:m≤2147483647
    ·obtain⟨y,hx⟩: ∃y,x.types[k]?=some y:=⟨_,List.getElem?_eq_getElem hlt⟩
     obtain⟨b,o,rfl,_,_,hc0,hc1,p_p,p_r⟩:=rSig_at (Rd.below H_types.out H1.out hhi) hx
     unfold Rd.SOk at p_p p_r
     have HS:=hideIt (SzRel.next Hm.out hx (.inl rfl))
     have hm3:decide ((m:Int)≤2147483647)=true:=decide_eq_true (by omega)
     have hi0:(0:Int)≤k:=by omega
     clear hx
     go_wp2_with fail
     go_quiet (fail)
     go_wp2_with fail
     exact⟨⟨k+1,m+(y.p.size+y.r.size),q+nq,by omega,by go_num,by go_num,rfl,HS.out,by omega⟩,by simp [intOf];omega⟩
    ·have hm3:decide ((m:Int)≤2147483647)=false:=decide_eq_false (by omega)
     go_wp2_with fail
     go_meet
     exact SzRel.stop Hm.out (by omega) hm4
   ·go_wp2_with fail
    go_meet
    exact SzRel.all Hm.out (by omega) hm4
 case rest=>
  obtain⟨n0,q0,rfl,rfl,hcap,hn5⟩:=hcut
  clear HN0
  have HN0:=hideIt (And.intro hcap hn5)
  clear hcap hn5
  go_upto_block 2 with fail
  go_cut [3] from 59 to 86 (fun s wx=>SzC w1 (((x.types.length+x.hosts.length+x.globs.length+x.fns.length+x.dat.length+x.exps.length)+sumBy (fun t:SigV=>t.p.size+t.r.size) x.types)+sumBy (szFn) x.fns) s wx)
  case first=>
   have hbx:=Hb1.out.q 5 rfl
   go_wp2_with fail
   go_loopw [3,5] (fun s i wr=>SzRel w1 ((x.types.length+x.hosts.length+x.globs.length+x.fns.length+x.dat.length+x.exps.length)+sumBy (fun t:SigV=>t.p.size+t.r.size) x.types) (szFn) x.fns s i wr) (fun _ i _=>x.fns.length-(intOf i).toNat)
   case atStart=>exact⟨0,n0,q0,Nat.zero_le _,rfl,rfl,rfl,by simpa [sumBy] using HN0.out.1,HN0.out.2⟩
   case round=>
    obtain⟨k,m,q,hk,rfl,rfl,rfl,hm,hm4⟩:=hrel
    have Hm:=hideIt hm;clear hm
    by_cases hlt:k<x.fns.length
    ·by_cases hm2:m≤2147483647
     ·obtain⟨y,hx⟩: ∃y,x.fns[k]?=some y:=⟨_,List.getElem?_eq_getElem hlt⟩
      obtain⟨b,o,A_code,c_code,rfl,_,_,hc0,hc1,hc2,_,p_loc,h_code⟩:=rFn_at (Rd.below H_fns.out H1.out hhi) hx
      unfold Rd.SOk at p_loc
      have hfn:=Hin.out.fns y (List.mem_of_getElem? hx)
      have HX:=hideIt hx
      have HC:=hideIt (fun W (hW:Below w1.heap.size w1 W)=>size_code A_code y.code.length c_code hi y.code W (Rd.below h_code hW (Nat.le_trans hhi H1.out.size)) hfn.2.1 hfn.2.2)
      have hcc:=capCode_le hfn.2.1 hfn.2.2
      clear h_code hfn
      have hm3:decide ((m:Int)≤2147483647)=true:=decide_eq_true (by omega)
      have hi0:(0:Int)≤k:=by omega
      clear hx
      go_wp2_with fail
      go_quiet ((go_at_call 20;first | exact quiet_at (HC.out _ (below_drewN (Below.refl _ _) _)) | exact quiet_on (HC.out _ (below_drewN (Below.refl _ _) _))))
      go_wp2_with fail
      have HS:=hideIt (SzRel.next (g:=y.loc.size+capCode y.code) Hm.out HX.out ((Cap.step (.inl rfl) (capCode_cap y.code)):Cap _ (szFn y)))
      exact⟨⟨k+1,m+(y.loc.size+capCode y.code),q+nq,by omega,by go_num,by go_num,rfl,HS.out,by omega⟩,by simp [intOf];omega⟩
     ·have hm3:decide ((m:Int)≤2147483647)=false:=decide_eq_false (by omega)
      go_wp2_with fail
      go_meet
      exact SzRel.stop Hm.out (by omega) hm4
    ·go_wp2_with fail
     go_meet
     exact SzRel.all Hm.out (by omega) hm4
  case rest=>
   obtain⟨n0,q0,rfl,rfl,hcap,hn5⟩:=hcut
   clear HN0
   have HN0:=hideIt (And.intro hcap hn5)
   clear hcap hn5
   go_upto_block 4 with fail
   go_cut [3] from 87 to 106 (fun s wx=>SzC w1 ((((x.types.length+x.hosts.length+x.globs.length+x.fns.length+x.dat.length+x.exps.length)+sumBy (fun t:SigV=>t.p.size+t.r.size) x.types)+sumBy (szFn) x.fns)+sumBy (fun d:DatV=>d.b.length) x.dat) s wx)
   case first=>
    have hbx:=Hb1.out.q 6 rfl
    go_wp2_with fail
    go_loopw [3,6] (fun s i wr=>SzRel w1 (((x.types.length+x.hosts.length+x.globs.length+x.fns.length+x.dat.length+x.exps.length)+sumBy (fun t:SigV=>t.p.size+t.r.size) x.types)+sumBy (szFn) x.fns) (fun d:DatV=>d.b.length) x.dat s i wr) (fun _ i _=>x.dat.length-(intOf i).toNat)
    case atStart=>exact⟨0,n0,q0,Nat.zero_le _,rfl,rfl,rfl,by simpa [sumBy] using HN0.out.1,HN0.out.2⟩
    case round=>
     obtain⟨k,m,q,hk,rfl,rfl,rfl,hm,hm4⟩:=hrel
     have Hm:=hideIt hm;clear hm
     by_cases hlt:k<x.dat.length
     ·by_cases hm2:m≤2147483647
      ·obtain⟨y,hx⟩: ∃y,x.dat[k]?=some y:=⟨_,List.getElem?_eq_getElem hlt⟩
       obtain⟨b,o,A_b,c_b,rfl,_,_,hc0,hc1,_,_⟩:=rDat_at (Rd.below H_dat.out H1.out hhi) hx
       have hdl:=Hin.out.dat y (List.mem_of_getElem? hx)
       have HS:=hideIt (SzRel.next Hm.out hx (.inl rfl))
       have hm3:decide ((m:Int)≤2147483647)=true:=decide_eq_true (by omega)
       have hi0:(0:Int)≤k:=by omega
       clear hx
       go_wp2_with fail
       exact⟨⟨k+1,m+(y.b.length),q,by omega,by go_num,by go_num,rfl,HS.out,by omega⟩,by simp [intOf];omega⟩
      ·have hm3:decide ((m:Int)≤2147483647)=false:=decide_eq_false (by omega)
       go_wp2_with fail
       go_meet
       exact SzRel.stop Hm.out (by omega) hm4
     ·go_wp2_with fail
      go_meet
      exact SzRel.all Hm.out (by omega) hm4
   case rest=>
    obtain⟨n0,q0,rfl,rfl,hcap,hn5⟩:=hcut
    clear HN0
    have HN0:=hideIt (And.intro hcap hn5)
    clear hcap hn5
    go_upto_block 6 with fail
    go_cut [3] from 107 to 126 (fun s wx=>SzC w1 (((((x.types.length+x.hosts.length+x.globs.length+x.fns.length+x.dat.length+x.exps.length)+sumBy (fun t:SigV=>t.p.size+t.r.size) x.types)+sumBy (szFn) x.fns)+sumBy (fun d:DatV=>d.b.length) x.dat)+sumBy (fun e:ExpV=>e.n.size) x.exps) s wx)
    case first=>
     have hbx:=Hb1.out.q 7 rfl
     go_wp2_with fail
     go_loopw [3,7] (fun s i wr=>SzRel w1 ((((x.types.length+x.hosts.length+x.globs.length+x.fns.length+x.dat.length+x.exps.length)+sumBy (fun t:SigV=>t.p.size+t.r.size) x.types)+sumBy (szFn) x.fns)+sumBy (fun d:DatV=>d.b.length) x.dat) (fun e:ExpV=>e.n.size) x.exps s i wr) (fun _ i _=>x.exps.length-(intOf i).toNat)
     case atStart=>exact⟨0,n0,q0,Nat.zero_le _,rfl,rfl,rfl,by simpa [sumBy] using HN0.out.1,HN0.out.2⟩
     case round=>
      obtain⟨k,m,q,hk,rfl,rfl,rfl,hm,hm4⟩:=hrel
      have Hm:=hideIt hm;clear hm
      by_cases hlt:k<x.exps.length
      ·by_cases hm2:m≤2147483647
       ·obtain⟨y,hx⟩: ∃y,x.exps[k]?=some y:=⟨_,List.getElem?_eq_getElem hlt⟩
        obtain⟨b,o,rfl,_,_,hc0,hc1,p_n,_⟩:=rExp_at (Rd.below H_exps.out H1.out hhi) hx
        unfold Rd.SOk at p_n
        have HS:=hideIt (SzRel.next Hm.out hx (.inl rfl))
        have hm3:decide ((m:Int)≤2147483647)=true:=decide_eq_true (by omega)
        have hi0:(0:Int)≤k:=by omega
        clear hx
        go_wp2_with fail
        exact⟨⟨k+1,m+(y.n.size),q,by omega,by go_num,by go_num,rfl,HS.out,by omega⟩,by simp [intOf];omega⟩
       ·have hm3:decide ((m:Int)≤2147483647)=false:=decide_eq_false (by omega)
        go_wp2_with fail
        go_meet
        exact SzRel.stop Hm.out (by omega) hm4
      ·go_wp2_with fail
       go_meet
       exact SzRel.all Hm.out (by omega) hm4
    case rest=>
     obtain⟨n0,q0,rfl,rfl,hcap,hn5⟩:=hcut
     clear HN0
     have HN0:=hideIt (And.intro hcap hn5)
     clear hcap hn5
     go_wp2_with fail
     go_ret
     exact⟨below_drewN H1.out _,n0,rfl,by simpa only [szMod,Nat.add_assoc] using HN0.out.1⟩
def FrIn (x:FrV):Prop:=x.loc.length≤140737488351232∧x.st.length≤140737488351232
structure StIn (x:StV):Prop where
 framesl:x.frames.length≤140737488351232
 frames: ∀i∈x.frames,FrIn i
 globs:x.globs.length≤140737488351232
 pagesl:x.pages.length≤140737488351232
 pages: ∀i∈x.pages,i.length≤140737488351232
 res:x.res.length≤140737488351232
theorem opens_mono {α:Type} {P:Program} {t:TypeId} {r:Rd α} {ok ok':α→Prop} (h:Opens P t r ok) (hm: ∀x,ok x→ok' x):Opens P t r ok':=
 ⟨h.1,fun hx hw=>by obtain⟨y,hy,hk⟩:=h.2 hx hw;exact⟨y,hy,hm y hk⟩⟩
theorem op_str:Opens prog 9 Rd.str Rd.SOk:=opens_str underlying9 (by kernel_rfl)
theorem op_int:Opens prog 3 Rd.i64 Rd.B63:=opens_i64 underlying3 (by kernel_rfl)
theorem op_int64:Opens prog 2 Rd.i64 Rd.B63:=opens_i64 underlying2 (by kernel_rfl)
theorem op_int8:Opens prog 134 Rd.i8 Rd.B8:=opens_i8 underlying134 (by kernel_rfl)
theorem op_u8:Opens prog 5 Rd.u8 (fun _=>True):=opens_u8 underlying5 (by kernel_rfl)
theorem op_u64:Opens prog 80 Rd.u64 Rd.B64:=opens_u64 underlying80 (by kernel_rfl)
theorem op_bool:Opens prog 4 Rd.bool (fun _=>True):=opens_bool underlying4 (by kernel_rfl)
def Bd {α:Type} (ok:α→Prop) (l:List α):Prop:=l.length≤140737488351232∧ ∀x∈l,ok x
theorem op_sl {α:Type} {P:Program} {t e:TypeId} {r:Rd α} {ok:α→Prop} (ht:P.underlying t=some (.slice e)) (hc:P.cellsOf t=1) (he:Opens P e r ok) {by_:Nat} (hby:P.bytesOf e=by_) (h1:0<by_) (hz:0<P.cellsOf e):Opens P t (r.sl false) (Bd ok):=
 opens_mono (opens_sl ht hc he hby hz) fun x hx=>⟨Nat.le_trans (by have:=Nat.mul_le_mul_left x.length h1;omega) hx.1,hx.2⟩
theorem op_ints:Opens prog 23 (Rd.i64.sl false) (Bd Rd.B63):=op_sl underlying23 (by kernel_rfl) op_int (by_:=8) (by kernel_rfl) (by decide) (of_decide_eq_true (by kernel_rfl))
theorem op_bytes:Opens prog 41 (Rd.u8.sl false) (Bd fun _=>True):=op_sl underlying41 (by kernel_rfl) op_u8 (by_:=1) (by kernel_rfl) (by decide) (of_decide_eq_true (by kernel_rfl))
theorem op_sig:Opens prog 51 rSig (fun _=>True):=
 opens_mono (opens_via (opens_struct underlying51 (by kernel_rfl) (opensF_cons (by rfl) op_str (opensF_cons (by rfl) op_str opensF_nil))) (fun x:SigV=>(x.p,x.r,())) (fun a=>⟨a.1,a.2.1⟩) (fun _=>rfl)) fun _ _=>trivial
theorem op_glob:Opens prog 82 rGlob (fun _=>True):=
 opens_mono (opens_via (opens_struct underlying82 (by kernel_rfl) (opensF_cons (by rfl) op_u8 (opensF_cons (by rfl) op_bool (opensF_cons (by rfl) op_u64 opensF_nil)))) (fun x:GlobV=>(x.l,x.m,x.v,())) (fun a=>⟨a.1,a.2.1,a.2.2.1⟩) (fun _=>rfl)) fun _ _=>trivial
theorem op_ins:Opens prog 53 rIns InsIn:=
 opens_mono (opens_via (opens_struct underlying53 (by kernel_rfl) (opensF_cons (by rfl) op_u8 (opensF_cons (by rfl) op_int64 (opensF_cons (by rfl) op_ints opensF_nil)))) (fun x:InsV=>(x.op,x.a,x.l,())) (fun a=>⟨a.1,a.2.1,a.2.2.1⟩) (fun _=>rfl)) fun x h=>h.2.2.1.1
theorem op_code:Opens prog 54 (rIns.sl false) (Bd InsIn):=op_sl underlying54 (by kernel_rfl) op_ins (by_:=40) (by kernel_rfl) (by decide) (of_decide_eq_true (by kernel_rfl))
theorem op_fn:Opens prog 56 rFn FnIn:=
 opens_mono (opens_via (opens_struct underlying56 (by kernel_rfl) (opensF_cons (by rfl) op_int (opensF_cons (by rfl) op_str (opensF_cons (by rfl) op_code opensF_nil)))) (fun x:FnV=>(x.t,x.loc,x.code,())) (fun a=>⟨a.1,a.2.1,a.2.2.1⟩) (fun _=>rfl)) fun x h=>⟨h.2.1,h.2.2.1.1,h.2.2.1.2⟩
theorem op_dat:Opens prog 59 rDat (fun x=>x.b.length≤140737488351232):=
 opens_mono (opens_via (opens_struct underlying59 (by kernel_rfl) (opensF_cons (by rfl) op_int (opensF_cons (by rfl) op_bytes opensF_nil))) (fun x:DatV=>(x.at_,x.b,())) (fun a=>⟨a.1,a.2.1⟩) (fun _=>rfl)) fun x h=>h.2.1.1
theorem op_exp:Opens prog 61 rExp (fun _=>True):=
 opens_mono (opens_via (opens_struct underlying61 (by kernel_rfl) (opensF_cons (by rfl) op_str (opensF_cons (by rfl) op_int opensF_nil))) (fun x:ExpV=>(x.n,x.f,())) (fun a=>⟨a.1,a.2.1⟩) (fun _=>rfl)) fun _ _=>trivial
theorem op_sigs:Opens prog 22 (rSig.sl false) (Bd fun _=>True):=op_sl underlying22 (by kernel_rfl) op_sig (by_:=32) (by kernel_rfl) (by decide) (of_decide_eq_true (by kernel_rfl))
theorem op_globs:Opens prog 24 (rGlob.sl false) (Bd fun _=>True):=op_sl underlying24 (by kernel_rfl) op_glob (by_:=16) (by kernel_rfl) (by decide) (of_decide_eq_true (by kernel_rfl))
theorem op_fns:Opens prog 25 (rFn.sl false) (Bd FnIn):=op_sl underlying25 (by kernel_rfl) op_fn (by_:=48) (by kernel_rfl) (by decide) (of_decide_eq_true (by kernel_rfl))
theorem op_dats:Opens prog 26 (rDat.sl false) (Bd fun x=>x.b.length≤140737488351232):=op_sl underlying26 (by kernel_rfl) op_dat (by_:=32) (by kernel_rfl) (by decide) (of_decide_eq_true (by kernel_rfl))
theorem op_exps:Opens prog 27 (rExp.sl false) (Bd fun _=>True):=op_sl underlying27 (by kernel_rfl) op_exp (by_:=24) (by kernel_rfl) (by decide) (of_decide_eq_true (by kernel_rfl))
theorem opens_module:Opens prog 29 rMod ModIn:=
 opens_mono (opens_via (opens_struct underlying29 (by kernel_rfl) (opensF_cons (by rfl) op_sigs (opensF_cons (by rfl) op_ints (opensF_cons (by rfl) op_globs (opensF_cons (by rfl) op_int (opensF_cons (by rfl) op_int (opensF_cons (by rfl) op_fns (opensF_cons (by rfl) op_dats (opensF_cons (by rfl) op_exps opensF_nil))))))))) (fun x:ModV=>(x.types,x.hosts,x.globs,x.first,x.most,x.fns,x.dat,x.exps,())) (fun a=>⟨a.1,a.2.1,a.2.2.1,a.2.2.2.1,a.2.2.2.2.1,a.2.2.2.2.2.1,a.2.2.2.2.2.2.1,a.2.2.2.2.2.2.2.1⟩) (fun _=>rfl)) fun x ⟨h1,h2,h3,_,_,h6,h7,h8,_⟩=>⟨h1.1,h2.1,h3.1,h6.1,h6.2,h7.1,h7.2,h8.1⟩
end Go.Proofs.YtebgikflpgcnlaaGreatDoor
