/- Part 2 of the proof: AppB FamO Wide WireE WireF WireH StrP EqI Dat Gath CopyA -/
import Derived.ArgAppend
import Derived.Lib.AppendStr
import Derived.Laws.Strings
import Derived.KernelRfl
import Derived.Test.YtlagonfamllgjaaGreatDoorR01
namespace Go.Proofs.YtlagonfamllgjaaGreatDoor
set_option linter.unusedVariables false
set_option linter.unusedSimpArgs false
set_option maxRecDepth 100000
set_option maxHeartbeats 4000000
open Go.RowKit Tryz
def FJ (w:World) (base:Nat) (e:TypeId) (v:Value) (n:Nat) (xs:List Value):Prop:=
 w.ownsRow base e 1 v n xs∨ ∃g fz,v= .slice (some ⟨g,0,none⟩) n n∧base≤g∧w.heap[g]?=some (.cells xs.toArray e fz)∧xs.length=n
section
variable {w w':World} {base:Nat} {e:TypeId} {v:Value} {n:Nat} {xs:List Value} {K:Nat→Prop}
theorem FJ.lt (h:FJ w base e v n xs): ∀k,v.ownBlock=some k→base≤k∧k<w.heap.size:=by
 rcases h with h | ⟨g,fz,rfl,hb,hg,hl⟩
 ·exact h.lt
 ·intro k hk
  injection hk with hk
  have hk:g=k:=hk
  subst hk
  exact⟨hb,(Array.getElem?_eq_some_iff.1 hg).1⟩
theorem FJ.CB (h:FJ w base e v n xs) (hk:Keep K w w') (hg: ∀k,v.ownBlock=some k→K k):FJ w' base e v n xs:=by
 rcases h with h | ⟨g,fz,rfl,hb,hh,hl⟩
 ·exact .inl (Ce h hk hg)
 ·exact .inr ⟨g,fz,rfl,hb,(hk.block g (Array.getElem?_eq_some_iff.1 hh).1 (hg g rfl)).trans hh,hl⟩
theorem FJ.XU (h:FJ w base e v n xs) (hb:Below w.heap.size w w'):FJ w' base e v n xs:=
 h.CB (K:=fun _=>True) (Keep.DC hb) fun _ _=>trivial
theorem FJ.jU (h:FJ w base e v n xs) {p:Addr} (hp:v.ownBlock≠some p.block) (u:Value):FJ (w.setCell p u) base e v n xs:=
 h.CB (K:=fun k=>k≠p.block) ((Keep.refl _ _).setCell (by simp) u) (fun k hk e=>hp (by rw [hk,e]))
theorem FJ.alloc (h:FJ w base e v n xs) (o:Obj):FJ (w.alloc o) base e v n xs:=
 h.XU ((Below.refl _ _).alloc (Nat.le_refl _) _)
end
theorem XV {P:Program} (w:World) (base:Nat) (t ty e:TypeId) (i:TypeInfo) (z:Value) (bytes:Nat) (ht:P.underlying t=some (.slice e)) (hi:P.info? e=some i) (hz:i.zero=some z)
 (hsize:i.size=1) (hby:i.bytes=bytes) (hzs:z.cells.size=1)
 (v:Value) (n:Nat) (xs:List Value) (hown:FJ w base e v n xs)
 (B:Nat) (A:Option Addr) (m c:Nat) (news:List Value) (hm0:0<m) (hm:news.length=m*1) (hr:Row w B A news) (h1: ∀u∈news,u.oneCell'=true)
 (h63:n+m≤maxLen) (hbytes:(n+m)*bytes≤140737488355328) (hbase:base≤w.heap.size):
 ∃v' w',(Builtin.append_ #[t,t] ty #[v,.slice A m c]).run P w= .ok v' w'∧w'.ownsRow base e 1 v' (n+m) (xs++news)∧w.grownBy w' v.ownBlock∧
  (v'.ownBlock=v.ownBlock∨v'.ownBlock=some w.heap.size):=by
 rcases hown with hown | ⟨g,fz,rfl,hb,hh,hl⟩
 ·exact RZ w base t ty e i z 1 bytes ht hi hz hsize hby hzs (by omega) v n xs hown B A m c news hm hr h1 h63 hbytes hbase
 ·obtain⟨b,o,rfl,_,hc⟩:=hr (by omega)
  obtain⟨v',w',hrun,r1,r2⟩:=run_append_arg_grows (P:=P) w t ty e i z 1 bytes ht hi hz hsize hby hzs (by omega) ⟨g,0,none⟩ n n xs (by omega) (fun j u hj=>by
   rw [Addr.add_lit,Nat.zero_add]
   simp only [World.cell?,hh]
   simp [hj]) ⟨b,o,none⟩ m c news hm (fun j u hj=>by rw [Addr.add_lit];exact hc j u hj) (by omega) h63 hbytes
  refine⟨v',w',hrun,r1.mono hbase,⟨r2.os,r2.tape,r2.output,r2.size,fun k h1 _=>r2.block k h1 (by simp)⟩,.inr ?_⟩
  have hr2:=run_append_grow (P:=P) w t ty e i z ht hi hz ⟨g,0,none⟩ n n xs (by rw [hsize];omega) (fun j u hj=>by
   rw [Addr.add_lit,Nat.zero_add]
   simp only [World.cell?,hh]
   simp [hj]) ⟨b,o,none⟩ m c news (by rw [hsize];exact hm) (fun j u hj=>by rw [Addr.add_lit];exact hc j u hj) (by omega) (by unfold maxLen at h63;omega) (by rw [hby];exact growslice_fits (by omega) hbytes)
  rw [hr2] at hrun
  injection hrun with e1 e2
  rw [←e1]
  rfl
theorem QN {P:Program} (w:World) {ops:Array Oper} {rest:List Oper} {o:Oper} {a:Act} {Q:Exit→Act→World→Prop} (hgd:o.guard=none) (s x:Operand) (t:TypeId)
 (ho:o.op= .call {callee:= .builtin .append,args:= #[s,x],argTypes:= #[t,t]})
 (base:Nat) (e:TypeId) (i:TypeInfo) (z:Value) (bytes:Nat) (ht:P.underlying t=some (.slice e)) (hi:P.info? e=some i) (hz:i.zero=some z)
 (hsize:i.size=1) (hby:i.bytes=bytes) (hzs:z.cells.size=1)
 (v:Value) (n:Nat) (xs:List Value) (hs:a.eval s=v) (hown:FJ w base e v n xs)
 (B:Nat) (A:Option Addr) (m c:Nat) (news:List Value) (hm0:0<m) (hx:a.eval x= .slice A m c) (hm:news.length=m*1) (hr:Row w B A news) (h1: ∀u∈news,u.oneCell'=true)
 (h63:n+m≤maxLen) (hbytes:(n+m)*bytes≤140737488355328) (hbase:base≤w.heap.size)
 (h: ∀A' c' w',w'.ownsRow base e 1 (.slice A' (n+m) c') (n+m) (xs++news)→w.grownBy w' v.ownBlock→((Value.slice A' (n+m) c').ownBlock=v.ownBlock∨(Value.slice A' (n+m) c').ownBlock=some w.heap.size)→wpList P ops Q rest (a.put o.dst (.slice A' (n+m) c')) w'):wpList P ops Q (o::rest) a w:=by
 refine wpList_plain hgd fun _ hK=> ?_
 obtain⟨v',w',hrun,h2,h3,h4⟩:=XV (P:=P) w base t o.type e i z bytes ht hi hz hsize hby hzs v n xs hown B A m c news hm0 hm hr h1 h63 hbytes hbase
 obtain⟨A',c',rfl⟩:=MX h2
 unfold Oper.wp execOp
 simp only [ho,resolve,invoke,builtin,Sem.run_bind,Sem.run_pure,Result.andThen_ok,List.map_toArray,List.map_cons,List.map_nil,hs,hx,hrun]
 exact hK _ _ (h A' c' w' h2 h3 h4)
theorem F6 {P:Program} {ops:Array Oper} {o:Oper} {a:Act} {w:World} {K:Act→World→Prop} {Q:Exit→Act→World→Prop} {E:Prop}
 (hg:o.guard=none) (s x:Operand) (t:TypeId) (hop:o.op=Op.call {callee:=Callee.builtin Builtin.append,args:= #[s,x],argTypes:= #[t,t]})
 (base:Nat) (e:TypeId) (i:TypeInfo) (z:Value) (bytes:Nat) (ht:P.underlying t=some (.slice e)) (hi:P.info? e=some i) (hz:i.zero=some z)
 (hsize:i.size=1) (hby:i.bytes=bytes) (hzs:z.cells.size=1)
 (v:Value) (n:Nat) (xs:List Value) (hs:a.eval s=v) (hown:FJ w base e v n xs)
 (B:Nat) (A:Option Addr) (m c:Nat) (news:List Value) (hm0:0<m) (hx:a.eval x= .slice A m c) (hm:news.length=m*1) (hr:Row w B A news) (h1: ∀u∈news,u.oneCell'=true)
 (h63:n+m≤maxLen) (hbytes:(n+m)*bytes≤140737488355328) (hbase:base≤w.heap.size)
 (h: ∀A' c' w',w'.ownsRow base e 1 (.slice A' (n+m) c') (n+m) (xs++news)→w.grownBy w' v.ownBlock→((Value.slice A' (n+m) c').ownBlock=v.ownBlock∨(Value.slice A' (n+m) c').ownBlock=some w.heap.size)→K (a.put o.dst (.slice A' (n+m) c')) w'):
 if Region.wanted o (yielded ops a.tmps)=true then Oper.wp P o a w K Q else E:=by
 have hw:Region.wanted o (yielded ops a.tmps)=true:=by simp [Region.wanted,hg]
 rw [if_pos hw]
 obtain⟨v',w',hrun,h2,h3,h4⟩:=XV (P:=P) w base t o.type e i z bytes ht hi hz hsize hby hzs v n xs hown B A m c news hm0 hm hr h1 h63 hbytes hbase
 obtain⟨A',c',rfl⟩:=MX h2
 unfold Oper.wp
 simp [execOp,hop,resolve,invoke,builtin,hs,hx,hrun,Result.andThen]
 exact h A' c' w' h2 h3 h4
structure Fam (k:Nat) (w:World) (base:Nat) (e:TypeId) (f:Nat→Value×List Value):Prop where
 own: ∀i,i<k→w.ownsRow base e 1 (f i).1 (f i).2.length (f i).2
 apart: ∀i j,i<k→j<k→i≠j→ ∀b,(f i).1.ownBlock=some b→(f j).1.ownBlock≠some b
def OY (f:Nat→Value×List Value) (i:Nat) (x:Value×List Value):Nat→Value×List Value:=fun j=>if j=i then x else f j
section
variable {k:Nat} {w w':World} {base:Nat} {e:TypeId} {f g:Nat→Value×List Value}
theorem Fam.congr (h:Fam k w base e f) (hg: ∀i,i<k→g i=f i):Fam k w base e g:=
 ⟨fun i hi=>by rw [hg i hi];exact h.own i hi,fun i j hi hj hn=>by rw [hg i hi,hg j hj];exact h.apart i j hi hj hn⟩
theorem Fam.below (h:Fam k w base e f) (hb:Below w.heap.size w w'):Fam k w' base e f:=
 ⟨fun i hi=>FD (h.own i hi) hb,h.apart⟩
theorem Fam.put (h:Fam k w base e f) {i:Nat} (hi:i<k) {v:Value} {xs:List Value} (hg:w.grownBy w' (f i).1.ownBlock) (ho:w'.ownsRow base e 1 v xs.length xs)
 (hb:v.ownBlock=(f i).1.ownBlock∨ ∃n,w.heap.size≤n∧v.ownBlock=some n):Fam k w' base e (OY f i (v,xs)):=by
 constructor
 ·intro j hj
  unfold OY
  split
  ·exact ho
  ·rename_i hn
   refine(h.own j hj).kept hg ?_
   cases hv:(f j).1.ownBlock with
   | none=>exact .inl rfl
   | some b=>exact .inr fun e=>h.apart j i hj hi hn b hv e.symm
 ·intro a b ha hb' hn c hc hd
  unfold OY at hc hd
  split at hc
  ·rename_i ea
   rw [if_neg (by omega)] at hd
   rcases hb with e | ⟨n,hn2,e⟩
   ·rw [e] at hc;exact h.apart i b hi hb' (by omega) c hc hd
   ·rw [e] at hc
    injection hc with hc
    have:=((h.own b hb').lt c hd).2
    omega
  ·split at hd
   ·rcases hb with e | ⟨n,hn2,e⟩
    ·rw [e] at hd;exact h.apart a i ha hi (by omega) c hc hd
    ·rw [e] at hd
     injection hd with hd
     have:=((h.own a ha).lt c hc).2
     omega
   ·exact h.apart a b ha hb' hn c hc hd
theorem Fam.set (h:Fam k w base e f) {i:Nat} (hi:i<k) {b n c:Nat} (hv:(f i).1= .slice (some ⟨b,0,none⟩) n c) (hn:n=(f i).2.length) (p:Nat) (u:Value):
 Fam k (w.setCell ⟨b,p,none⟩ u) base e (OY f i ((f i).1,(f i).2.set p u)):=by
 subst hn
 have ho:=h.own i hi
 rw [hv] at ho
 have hs:=ho.stored p u
 refine h.put hi (v:=(f i).1) (xs:=(f i).2.set p u) ?_ ?_ (.inl rfl)
 ·rw [hv];exact hs.2
 ·rw [List.length_set,hv];exact hs.1
theorem Fam.o (h:Fam k w base e f) (i:Nat) (hi:i<k) {v:Value} {xs:List Value} {n:Nat} (hf:f i=(v,xs)) (hn:n=xs.length):w.ownsRow base e 1 v n xs:=by
 have:=h.own i hi
 rw [hf] at this
 rw [hn];exact this
theorem Fam.app (h:Fam k w base e f) (i:Nat) (hi:i<k) {v:Value} {xs news:List Value} {A:Option Addr} {c n m:Nat} (hf:f i=(v,xs)) (hn:n+m=(xs++news).length) (hg:w.grownBy w' v.ownBlock)
 (ho:w'.ownsRow base e 1 (.slice A (n+m) c) (n+m) (xs++news)) (hb:(Value.slice A (n+m) c).ownBlock=v.ownBlock∨(Value.slice A (n+m) c).ownBlock=some w.heap.size):
 Fam k w' base e (OY f i (.slice A (n+m) c,xs++news)):=by
 refine h.put hi (by rw [hf];exact hg) (by rw [←hn];exact ho) ?_
 rw [hf]
 rcases hb with e | e
 ·exact .inl e
 ·exact .inr ⟨_,Nat.le_refl _,e⟩
def L_ (v1 v2 v3 v4:Value) (x1 x2 x3 x4:List Value):Nat→Value×List Value:=fun i=>match i with
 | 0=>(v1,x1)
 | 1=>(v2,x2)
 | 2=>(v3,x3)
 | _=>(v4,x4)
theorem kT {i:Nat} (h:i<4):i=0∨i=1∨i=2∨i=3:=by omega
theorem FL {v:Value} {n:Nat} {xs:List Value} (h:w.ownsRow base e 1 v n xs) (hn:0<n): ∃b c,v= .slice (some ⟨b,0,none⟩) n c∧base≤b∧b<w.heap.size∧n≤c:=by
 rcases h.2 with⟨_,h0⟩ | ⟨g,cap,cur,hv,hb,hg,hle,_⟩
 ·omega
 ·exact⟨g,cap,hv,hb,(Array.getElem?_eq_some_iff.1 hg).1,hle⟩
theorem SF {A:Option Addr} {n c m size:Nat} {xs:List Value} (h:w.ownsRow base e size (.slice A n c) n xs) (hm:m≤n):w.ownsRow base e size (.slice A m c) m (xs.take (m*size)):=by
 have hl:=h.1
 have hms:m*size≤n*size:=Nat.mul_le_mul_right _ hm
 refine⟨by rw [List.length_take];omega,?_⟩
 rcases h.2 with⟨hv,h0⟩ | ⟨g,cap,cur,hv,hb,hg,hle,hcm,hcs,htake⟩
 ·injection hv with h1 h2 h3
  subst h1 h3
  exact .inl ⟨by rw [show m=0 from by omega],by omega⟩
 ·injection hv with h1 h2 h3
  subst h1 h3
  exact .inr ⟨g,c,cur,rfl,hb,hg,by omega,hcm,hcs,by rw [←htake,List.take_take,Nat.min_eq_left hms]⟩
end
theorem MB {w:World} {base:Nat} {e:TypeId} {A:Option Addr} {n c:Nat} {xs:List Int} (h:w.ownsRow base e 1 (.slice A n c) n (xs.map (Value.int .i64))) (hb: ∀x∈xs,Rd.Gd x):
 (Rd.i64.sl false).R w base w.heap.size [.slice A n c] xs:=by
 have hl:n=xs.length:=by have:=h.1;simpa using this.symm
 refine Rd.own false (r:=Rd.i64) h hl fun k x hk=> ?_
 show(((xs.map (Value.int .i64)).drop (k*1)).take 1)= [Value.int .i64 x]∧Rd.Gd x
 have hlt:=(List.getElem?_eq_some_iff.1 hk)
 refine⟨?_,hb x (List.mem_of_getElem? hk)⟩
 rw [Nat.mul_one,←List.map_drop,List.drop_eq_getElem_cons hlt.1,hlt.2]
 rfl
theorem Dt:(prog.info? 5).map (fun i=>(i.zero,i.size,i.bytes))=some (some (.int .u8 0),1,1):=by kernel_rfl
theorem Ea (w:World) {ops:Array Oper} {rest:List Oper} {o:Oper} {a:Act} {Q:Exit→Act→World→Prop} (hgd:o.guard=none) (s x:Operand)
 (ho:o.op= .call {callee:= .builtin .append,args:= #[s,x],argTypes:= #[40,40]}) (base:Nat)
 (A:Option Addr) (n c:Nat) (xs:List Value) (hs:a.eval s= .slice A n c) (hown:w.ownsRow base 5 1 (.slice A n c) n xs)
 (B:Nat) (A2:Option Addr) (m c2:Nat) (ys:List Value) (hx:a.eval x= .slice A2 m c2) (hm:m=ys.length) (hr:Row w B A2 ys) (h1: ∀u∈ys,u.oneCell'=true)
 (h47:n+m≤140737488351232) (hbase:base≤w.heap.size)
 (h: ∀A' c' w',w'.ownsRow base 5 1 (.slice A' (n+m) c') (n+m) (xs++ys)→w.grownBy w' (Value.slice A n c).ownBlock→Below base w w'→wpList prog ops Q rest (a.put o.dst (.slice A' (n+m) c')) w'):wpList prog ops Q (o::rest) a w:=by
 obtain⟨i0,hi,hz,hs',hb⟩:=info_parts Dt
 exact D_ w hgd s x 40 ho base 5 i0 (.int .u8 0) 1 underlying40 hi hz hs' hb rfl _ n xs hs hown B A2 m c2 ys hx hm hr h1 (by unfold maxLen;omega) (by omega) hbase
  fun A' c' w' h2 h3 _=>h A' c' w' h2 h3 (own_below hown h3 hbase)
theorem Ru (A A2:Option Addr) (n c m c2 B base:Nat) (w:World) (xs ys:List Value) (hown:w.ownsRow base 5 1 (.slice A n c) n xs) (hm:m=ys.length) (hr:Row w B A2 ys) (h1: ∀u∈ys,u.oneCell'=true)
 (h47:n+m≤140737488351232) (hbase:base≤w.heap.size):
 Calls prog 124 #[.slice A n c,.slice A2 m c2] w fun e w'=> ∃A' c',e= .returned (.slice A' (n+m) c')∧w'.ownsRow base 5 1 (.slice A' (n+m) c') (n+m) (xs++ys)∧w.grownBy w' (Value.slice A n c).ownBlock:=by
 obtain⟨i0,hi,hz,hs,hb⟩:=info_parts Dt
 have Hm:=AA hm;clear hm
 go_enter func124,ntmps124
 go_wp2_with (at_builtin;refine D_ _ rfl _ _ 40 rfl base 5 i0 (.int .u8 0) 1 underlying40 hi hz hs hb rfl _ n xs rfl hown B A2 m c2 ys rfl Hm.out hr h1 (by unfold maxLen;omega) (by omega) hbase ?_;intro A' c' w' h2 h3 _)
 go_ret
 exact⟨A',c',rfl,h2,h3⟩
def vP (v0:Nat) (w:World) (L V:Value) (wr:World):Prop:=
 ∃(v:Nat) (xs:List UInt8) (A:Option Addr) (c:Nat),L= .slice A xs.length c∧V= .int .u64 v∧v<18446744073709551616∧xs++enc v=enc v0∧
  wr.ownsRow w.heap.size 5 1 (.slice A xs.length c) xs.length (xs.map bv)∧Below w.heap.size w wr
theorem F7 (v0:Nat) (hv0:v0<18446744073709551616) (w:World):
 Calls prog 102 #[.int .u64 v0] w fun e w'=> ∃A c,e= .returned (.slice A (enc v0).length c)∧w'.ownsRow w.heap.size 5 1 (.slice A (enc v0).length c) (enc v0).length ((enc v0).map bv)∧Below w.heap.size w w':=by
 have hl10:=AY v0 hv0
 go_enter func102,ntmps102
 go_wp2_with fail
 go_loopw [3,0] (fun L V wr=>vP v0 w L V wr) (fun _ V _=>(intOf V).toNat)
 case atStart=>exact⟨v0,[],none,0,rfl,rfl,hv0,rfl,World.ownsRow_nil _ _ _ _,Below.refl _ _⟩
 case round=>
  obtain⟨v,xs,A,c,rfl,rfl,hv,hR,hown,hbel⟩:=hrel
  have HR:=AA hR;clear hR
  have Y_:=AA hown;clear hown
  have CP:=AA hbel;clear hbel
  have hxs:xs.length≤10:=by have:=congrArg List.length HR.out;rw [List.length_append] at this;omega
  by_cases hlt:v<128
  ·have hge: ¬(128:Int)≤v:=by omega
   have xY:Hid (xs.map bv++ [.int .u8 (v:Int)]=(enc v0).map bv):=AA (by rw [←HR.out,FB v hlt,List.map_append];simp [F4 v (by omega)])
   have Hlen:Hid (xs.length+1=(enc v0).length):=AA (by rw [←HR.out,FB v hlt,List.length_append];rfl)
   go_wp2_with fail
   have hsz:w.heap.size≤(wr.alloc (.cells #[.int .u8 (v:Int)] 5)).heap.size:=by have:=CP.out.size;simp;omega
   refine(Ru A _ xs.length c 1 1 (wr.heap.size+1) w.heap.size _ (xs.map bv) [.int .u8 (v:Int)] (Y_.out.alloc _) rfl (row_one _ _ _) (by simp [Value.oneCell']) (by omega) hsz).mono ?_
   rintro e w1 ⟨A',c',rfl,h2,h3⟩
   have H2:=AA h2;clear h2
   have H3:Hid (Below w.heap.size w w1):=AA (((CP.out.alloc CP.out.size _)).trans (own_below (Y_.out.alloc _) h3 hsz))
   clear h3 hsz
   go_wp2_with fail
   go_ret
   rw [←Hlen.out,←xY.out]
   exact⟨A',c',rfl,H2.out,H3.out⟩
  ·have hge:(128:Int)≤v:=by omega
   have hx:bits .or .u8 ((v:Int)%256) 128=((v%128+128:Nat):Int):=by
    rw [show(v:Int)%256=((v%256:Nat):Int)from by omega,ABp _ (by omega)]
    omega
   have Hx:=AA hx;clear hx
   have jV:Hid ((xs++ [UInt8.ofNat (v%128+128)])++enc (v/128)=enc v0):=AA (by rw [←HR.out,MW v hlt,List.append_assoc];rfl)
   go_wp2_with fail
   rw [Hx.out]
   have hsz:w.heap.size≤(wr.alloc (.cells #[.int .u8 ((v%128+128:Nat):Int)] 5)).heap.size:=by have:=CP.out.size;simp;omega
   refine(Ru A _ xs.length c 1 1 (wr.heap.size+1) w.heap.size _ (xs.map bv) [.int .u8 ((v%128+128:Nat):Int)] (Y_.out.alloc _) rfl (row_one _ _ _) (by simp [Value.oneCell']) (by omega) hsz).mono ?_
   rintro e w1 ⟨A',c',rfl,h2,h3⟩
   have H2:=AA h2;clear h2
   have H3:Hid (Below w.heap.size w w1):=AA (((CP.out.alloc CP.out.size _)).trans (own_below (Y_.out.alloc _) h3 hsz))
   clear h3 hsz
   go_wp2_with fail
   refine⟨⟨v/128,xs++ [UInt8.ofNat (v%128+128)],A',c',by simp,by go_num,by omega,jV.out,?_,H3.out⟩,?_⟩
   ·have:=H2.out
    rw [←F4 _ (by omega),show [bv (UInt8.ofNat (v%128+128))]= [UInt8.ofNat (v%128+128)].map bv from rfl,←List.map_append] at this
    simpa using this
   ·simp [intOf];omega
theorem Uf (v:Int) (h0: -9223372036854775808≤v) (h1:v<9223372036854775808) (w:World):
 Calls prog 157 #[.int .i64 v] w fun e w'=> ∃A c,e= .returned (.slice A (enc (folded v)).length c)∧w'.ownsRow w.heap.size 5 1 (.slice A (enc (folded v)).length c) (enc (folded v)).length ((enc (folded v)).map bv)∧Below w.heap.size w w':=by
 go_enter func157,ntmps157
 go_wp2_with fail
 rw [dU v h0 h1]
 refine(F7 (folded v) (Gq v h0 h1) w).mono ?_
 rintro e w1 ⟨A,c,rfl,h2,h3⟩
 have H2:=AA h2;clear h2
 have H3:=AA h3;clear h3
 go_wp2_with fail
 go_ret
 exact⟨A,c,rfl,H2.out,H3.out⟩
theorem dw (w:World) (e:TypeId) (s:ByteArray):Row (Lib.bytesWorld w e s) (w.heap.size+1) (some ⟨w.heap.size,0,none⟩) (s.data.toList.map bv):=by
 intro _
 refine⟨w.heap.size,0,rfl,Nat.lt_succ_self _,fun j u hu=> ?_⟩
 have hj:j<s.size:=by have:=(List.getElem?_eq_some_iff.1 hu).1;simpa using this
 rw [Nat.zero_add,Lib.bytesWorld_cell w e s j hj,←hu,List.getElem?_map]
 have hj':j<s.data.toList.length:=by simpa using hj
 rw [List.getElem?_eq_getElem hj',List.getD,List.getElem?_eq_getElem hj']
 rfl
theorem XW (w:World) (e:TypeId) (s:ByteArray):Below w.heap.size w (Lib.bytesWorld w e s):=
 ⟨rfl,rfl,rfl,by rw [Lib.bytesWorld_size];omega,fun k hk=>Lib.bytesWorld_at_old w e s k hk⟩
theorem CX {w w':World} {base:Nat} {e:TypeId} {v:Value} {n:Nat} {xs:List Value} (h:w.ownsRow base e 1 v n xs) (hb:Below w.heap.size w w'):w'.ownsRow base e 1 v n xs:=
 h.kept (row:=some w.heap.size) ⟨hb.os,hb.tape,hb.output,hb.size,fun k hk _=>hb.block k hk⟩ (by
  cases hv:v.ownBlock with
  | none=>exact .inl rfl
  | some k=>right;intro e;injection e with e;have:=(h.lt k hv).2;omega)
theorem dx (s:ByteArray) (h47:s.size≤70368744177664) (w:World):
 Calls prog 184 #[.string s] w fun e w'=> ∃A c,e= .returned (.slice A ((enc s.size).length+s.size) c)∧w'.ownsRow w.heap.size 5 1 (.slice A ((enc s.size).length+s.size) c) ((enc s.size).length+s.size) ((enc s.size++s.data.toList).map bv)∧Below w.heap.size w w':=by
 have hl:=AY s.size (by omega)
 go_enter func184,ntmps184
 go_wp2_with fail
 refine(F7 s.size (by omega) w).mono ?_
 rintro e w1 ⟨A,c,rfl,h2,h3⟩
 have hcv:=Lib.run_convert_string_bytes (P:=prog) w1 9 40 5 s underlying9 underlying40 underlying5
 have H2:=AA h2;clear h2
 have H3:=AA h3;clear h3
 have HT:=AA (dw w1 5 s)
 have HB:=AA (XW w1 5 s)
 generalize hw2:Lib.bytesWorld w1 5 s=w2 at*
 clear hw2
 have hsz:w.heap.size≤w2.heap.size:=by have:=HB.out.size;have:=H3.out.size;omega
 go_wp2_with fail
 refine(Ru A _ (enc s.size).length c s.size _ (w1.heap.size+1) w.heap.size w2 ((enc s.size).map bv) (s.data.toList.map bv) (CX H2.out HB.out) (by simp) HT.out (Eh _) (by omega) hsz).mono ?_
 rintro e w3 ⟨A',c',rfl,h4,h5⟩
 have H4:=AA h4;clear h4
 have H5:Hid (Below w.heap.size w w3):=AA ((H3.out.trans (HB.out.mono (by have:=H3.out.size;omega))).trans (own_below (CX H2.out HB.out) h5 hsz))
 clear h5 hsz hcv
 go_wp2_with fail
 go_ret
 rw [List.map_append]
 exact⟨A',c',rfl,H4.out,H5.out⟩
theorem ZA (w:World) {ops:Array Oper} {rest:List Oper} {o:Oper} {a:Act} {Q:Exit→Act→World→Prop} (hgd:o.guard=none) (s x:Operand)
 (ho:o.op= .call {callee:= .builtin .append,args:= #[s,x],argTypes:= #[40,9]}) (base:Nat)
 (A:Option Addr) (n c:Nat) (xs:List Value) (hs:a.eval s= .slice A n c) (hown:w.ownsRow base 5 1 (.slice A n c) n xs)
 (t:ByteArray) (hx:a.eval x= .string t) (h47:n+t.size≤140737488351232) (hbase:base≤w.heap.size)
 (h: ∀A' c' w',w'.ownsRow base 5 1 (.slice A' (n+t.size) c') (n+t.size) (xs++t.data.toList.map bv)→Below base w w'→wpList prog ops Q rest (a.put o.dst (.slice A' (n+t.size) c')) w'):wpList prog ops Q (o::rest) a w:=by
 obtain⟨i0,hi,hz,hs',hb⟩:=info_parts Dt
 refine Lib.wpList_append_own_string (w:=w) hgd s x 40 9 ho base 5 i0 underlying40 underlying9 hi hz hs' hb _ n xs hs hown t hx (by unfold maxLen;omega) (by omega) hbase ?_
 intro v' w' h2 h3 _
 obtain⟨A',c',rfl⟩:=CZ h2
 exact h A' c' w' h2 (own_below hown h3 hbase)
theorem KC (v0:Nat) (hv0:v0<18446744073709551616) (w:World):
 Calls prog 76 #[.int .u64 v0] w fun e w'=> ∃A c,e= .returned (.slice A (enc v0).length c)∧w'.ownsRow w.heap.size 5 1 (.slice A (enc v0).length c) (enc v0).length ((enc v0).map bv)∧Below w.heap.size w w':=by
 have hl10:=AY v0 hv0
 go_enter func76,ntmps76
 go_wp2_with fail
 go_loopw [3,0] (fun L V wr=>vP v0 w L V wr) (fun _ V _=>(intOf V).toNat)
 case atStart=>exact⟨v0,[],none,0,rfl,rfl,hv0,rfl,World.ownsRow_nil _ _ _ _,Below.refl _ _⟩
 case round=>
  obtain⟨v,xs,A,c,rfl,rfl,hv,hR,hown,hbel⟩:=hrel
  have HR:=AA hR;clear hR
  have Y_:=AA hown;clear hown
  have CP:=AA hbel;clear hbel
  have hxs:xs.length≤10:=by have:=congrArg List.length HR.out;rw [List.length_append] at this;omega
  by_cases hlt:v<128
  ·have hge: ¬(128:Int)≤v:=by omega
   have hm256:(v:Int)%256=v:=by omega
   have xY:Hid (xs.map bv++ [.int .u8 (v:Int)]=(enc v0).map bv):=AA (by rw [←HR.out,FB v hlt,List.map_append];simp [F4 v (by omega)])
   have Hlen:Hid (xs.length+1=(enc v0).length):=AA (by rw [←HR.out,FB v hlt,List.length_append];rfl)
   go_wp2_with (at_builtin;refine Ea _ rfl (.tmp 15) (.tmp 18) rfl w.heap.size A xs.length c (xs.map bv) rfl (Y_.out.alloc _) (wr.heap.size+1) _ 1 1 [.int .u8 (v:Int)] rfl rfl (by exact row_one _ _ _) (by simp [Value.oneCell']) (by omega) (by exact Nat.le_trans CP.out.size (by simp)) ?_;intro A' c' w1 h2 _ h3;have H2:=AA h2;have H3:=AA h3;clear h2 h3)
   go_ret
   rw [←Hlen.out,←xY.out]
   exact⟨A',c',rfl,H2.out,((CP.out.alloc CP.out.size _)).trans H3.out⟩
  ·have hge:(128:Int)≤v:=by omega
   have hm0:0≤(v:Int)%128:=by omega
   have hm1:(v:Int)%128<128:=by omega
   have hm2:(v:Int)%128+128<256:=by omega
   have Yi:((v:Int)%128+128)%256=(v:Int)%128+128:=by omega
   have jV:Hid ((xs++ [UInt8.ofNat (v%128+128)])++enc (v/128)=enc v0):=AA (by rw [←HR.out,MW v hlt,List.append_assoc];rfl)
   go_wp2_with (at_builtin;refine Ea _ rfl (.tmp 6) (.tmp 11) rfl w.heap.size A xs.length c (xs.map bv) rfl (Y_.out.alloc _) (wr.heap.size+1) _ 1 1 _ rfl rfl (by exact row_one _ _ _) (by simp [Value.oneCell']) (by omega) (by exact Nat.le_trans CP.out.size (by simp)) ?_;intro A' c' w1 h2 _ h3;have H2:=AA h2;have H3:=AA h3;clear h2 h3)
   refine⟨⟨v/128,xs++ [UInt8.ofNat (v%128+128)],A',c',by simp,by go_num,by omega,jV.out,?_,(CP.out.alloc CP.out.size _).trans H3.out⟩,?_⟩
   ·have h4:=H2.out
    rw [show((v:Int)%128+128)=((v%128+128:Nat):Int)from by omega,←F4 _ (by omega),show [bv (UInt8.ofNat (v%128+128))]= [UInt8.ofNat (v%128+128)].map bv from rfl,←List.map_append] at h4
    simpa using h4
   ·simp [intOf];omega
theorem ZC (v:Int) (h0: -9223372036854775808≤v) (h1:v<9223372036854775808) (w:World):
 Calls prog 178 #[.int .i64 v] w fun e w'=>e= .returned (.int .u64 (folded v))∧w'=w:=by
 go_enter func178,ntmps178
 by_cases hv:v<0
 ·have e1: -(v+1)%18446744073709551616= -(v+1):=by omega
  have e2:2* -(v+1)%18446744073709551616=2* -(v+1):=by omega
  have e3:(2* -(v+1)+1)%18446744073709551616=2* -(v+1)+1:=by omega
  have Hf:Hid (((folded v:Nat):Int)=2* -(v+1)+1):=AA (by unfold folded;rw [if_pos hv];omega)
  go_wp2_with fail
  go_ret
  rw [Hf.out]
  exact⟨rfl,rfl⟩
 ·have e1:v%18446744073709551616=v:=by omega
  have e2:2*v%18446744073709551616=2*v:=by omega
  have Hf:Hid (((folded v:Nat):Int)=2*v):=AA (by unfold folded;rw [if_neg hv];omega)
  go_wp2_with fail
  go_ret
  rw [Hf.out]
  exact⟨rfl,rfl⟩
theorem XY (v:Int) (h0: -9223372036854775808≤v) (h1:v<9223372036854775808) (w:World):
 Calls prog 142 #[.int .i64 v] w fun e w'=> ∃A c,e= .returned (.slice A (enc (folded v)).length c)∧w'.ownsRow w.heap.size 5 1 (.slice A (enc (folded v)).length c) (enc (folded v)).length ((enc (folded v)).map bv)∧Below w.heap.size w w':=by
 go_enter func142,ntmps142
 go_wp2_with fail
 refine(ZC v h0 h1 w).mono ?_
 rintro e w1 ⟨rfl,rfl⟩
 go_wp2_with fail
 refine(KC (folded v) (Gq v h0 h1) w1).mono ?_
 rintro e w1 ⟨A,c,rfl,h2,h3⟩
 have H2:=AA h2;clear h2
 have H3:=AA h3;clear h3
 go_wp2_with fail
 go_ret
 exact⟨A,c,rfl,H2.out,H3.out⟩
theorem Lp (s:ByteArray) (h47:s.size≤70368744177664) (w:World):
 Calls prog 141 #[.string s] w fun e w'=> ∃A c,e= .returned (.slice A ((enc s.size).length+s.size) c)∧w'.ownsRow w.heap.size 5 1 (.slice A ((enc s.size).length+s.size) c) ((enc s.size).length+s.size) ((enc s.size++s.data.toList).map bv)∧Below w.heap.size w w':=by
 have hl:=AY s.size (by omega)
 go_enter func141,ntmps141
 go_wp2_with fail
 refine(KC s.size (by omega) w).mono ?_
 rintro e w1 ⟨A,c,rfl,h2,h3⟩
 have H2:=AA h2;clear h2
 have H3:=AA h3;clear h3
 go_wp2_with (at_builtin;refine ZA _ rfl (.tmp 8) (.tmp 9) rfl w.heap.size A (enc s.size).length c ((enc s.size).map bv) rfl H2.out s rfl (by omega) H3.out.size ?_;intro A' c' w2 h4 h5;have H4:=AA h4;have H5:=AA h5;clear h4 h5)
 go_ret
 rw [List.map_append]
 exact⟨A',c',rfl,H4.out,H3.out.trans H5.out⟩
def Y4 (s:ByteArray):Bool:=Mx 256 s.data.toList
def sv (s:ByteArray):Go.Value:= .string s
def ends (s t:ByteArray):Bool:=decide (t.size≤s.size)&&((s.extract (s.size-t.size) s.size).toList==t.toList)
theorem Kk (s t:ByteArray) (h:ends s t=true):t.size≤s.size:=by
 unfold ends at h
 simp at h
 exact h.1

theorem Dj {α:Type} {r:Rd α} {sp:Bool} {W:World} {lo hi:Nat} {A:Option Addr} {n c:Nat} {xs:List α} (h:(r.sl sp).R W lo hi [.slice A n c] xs) {k:Nat} {x:α} (hk:xs[k]?=some x):
 ∃b o,A=some ⟨b,o,none⟩∧lo≤b∧b<hi∧ ∃cs,(∀(j:Nat) u,cs[j]?=some u→W.cell? ⟨b,o+k*r.z+j,none⟩=some u)∧r.R W lo hi cs x:=by
 obtain⟨A',c',he,_,h⟩:=h
 injection he with he _
 injection he with h1 h2 h3
 subst h1 h2
 have hlt:=(List.getElem?_eq_some_iff.1 hk).1
 obtain⟨b,o,e,hlo,hhi,hx⟩:=h (by omega)
 obtain⟨cs,hc,hr⟩:=hx k x hk
 exact⟨b,o,e,hlo,hhi,cs,hc,hr⟩
theorem Dp {α:Type} {r:Rd α} {sp:Bool} {W:World} {lo hi:Nat} {A:Option Addr} {n c:Nat} {xs:List α} (h:(r.sl sp).R W lo hi [.slice A n c] xs):n=xs.length:=by
 obtain⟨A',c',he,_⟩:=h
 injection he with he _
 injection he with h1 h2 h3
theorem Fp {α:Type} {r:Rd α} {W:World} {lo hi:Nat} {A:Option Addr} {c:Nat}:(r.sl false).R W lo hi [.slice A 0 c] []:=⟨A,c,rfl,⟨fun h=>(by cases h),Nat.zero_le _⟩,fun h=>absurd h (by simp)⟩
theorem AJ {α:Type} {r:Rd α} {sp:Bool} {W:World} {lo hi:Nat} {v:Value} {xs:List α} (h:(r.sl sp).R W lo hi [v] xs): ∃A c,v= .slice A xs.length c:=by
 obtain⟨A,c,he,_⟩:=h
 injection he with he _
 exact⟨A,c,he⟩
theorem Dc {α:Type} {r:Rd α} {sp:Bool} {W:World} {lo hi:Nat} {cs:List Value} {xs:List α} (h:(r.sl sp).R W lo hi cs xs): ∃v,cs= [v]∧(r.sl sp).R W lo hi [v] xs:=by
 have h0:=h
 obtain⟨A,c,he,_⟩:=h0
 exact⟨_,he,he▸h⟩
structure CW where
 p:ByteArray
 r:ByteArray
def Qk:Rd CW:=(Rd.str.pair (Rd.str.pair Rd.unit)).via (fun x=>(x.p,x.r,()))
theorem RU {W:World} {lo hi:Nat} {cs:List Value} {x:CW}:Qk.R W lo hi cs x↔cs= [Value.string x.p,Value.string x.r]∧Rd.PD x.p∧Rd.PD x.r:=by
 constructor
 ·rintro⟨c_p,r_p,rfl,xM,⟨c_r,r_r,rfl,xO,rfl⟩⟩
  obtain⟨rfl,xM⟩:=xM
  obtain⟨rfl,xO⟩:=xO
  exact⟨rfl,xM,xO⟩
 ·rintro⟨rfl,xM,xO⟩
  exact⟨[Value.string x.p],[Value.string x.r],rfl,⟨rfl,xM⟩,⟨[Value.string x.r],[],rfl,⟨rfl,xO⟩,rfl⟩⟩
theorem DN {sp:Bool} {W:World} {lo hi:Nat} {A:Option Addr} {n c:Nat} {xs:List CW} (h:(Qk.sl sp).R W lo hi [.slice A n c] xs) {k:Nat} {x:CW} (hk:xs[k]?=some x):
 ∃(b o:Nat),A=some ⟨b,o,none⟩∧lo≤b∧b<hi∧W.cell? ⟨b,o+k*2,none⟩=some (.string x.p)∧W.cell? ⟨b,o+k*2+1,none⟩=some (.string x.r)∧Rd.PD x.p∧Rd.PD x.r:=by
 obtain⟨b,o,e,h1,h2,cs,hc,hr⟩:=Dj h hk
 obtain⟨rfl,xM,xO⟩:=RU.1 hr
 exact⟨b,o,e,h1,h2,hc 0 _ rfl,hc 1 _ rfl,xM,xO⟩
structure Ei where
 l:UInt8
 m:Bool
 v:Nat
def LZ:Rd Ei:=(Rd.u8.pair (Rd.bool.pair (Rd.u64.pair Rd.unit))).via (fun x=>(x.l,x.m,x.v,()))
theorem UM {W:World} {lo hi:Nat} {cs:List Value} {x:Ei}:LZ.R W lo hi cs x↔cs= [bv x.l,Value.bool x.m,uv x.v]∧Rd.Yv x.v:=by
 constructor
 ·rintro⟨GH,r_l,rfl,La,⟨c_m,r_m,rfl,h_m,⟨c_v,r_v,rfl,xP,rfl⟩⟩⟩
  obtain⟨rfl,_⟩:=La
  obtain⟨rfl,_⟩:=h_m
  obtain⟨rfl,xP⟩:=xP
  exact⟨rfl,xP⟩
 ·rintro⟨rfl,xP⟩
  exact⟨[bv x.l],[Value.bool x.m,uv x.v],rfl,⟨rfl,trivial⟩,⟨[Value.bool x.m],[uv x.v],rfl,⟨rfl,trivial⟩,⟨[uv x.v],[],rfl,⟨rfl,xP⟩,rfl⟩⟩⟩
theorem Hw {sp:Bool} {W:World} {lo hi:Nat} {A:Option Addr} {n c:Nat} {xs:List Ei} (h:(LZ.sl sp).R W lo hi [.slice A n c] xs) {k:Nat} {x:Ei} (hk:xs[k]?=some x):
 ∃(b o:Nat),A=some ⟨b,o,none⟩∧lo≤b∧b<hi∧W.cell? ⟨b,o+k*3,none⟩=some (.int .u8 (x.l.toNat:Int))∧W.cell? ⟨b,o+k*3+1,none⟩=some (.bool x.m)∧W.cell? ⟨b,o+k*3+2,none⟩=some (.int .u64 (x.v:Int))∧Rd.Yv x.v:=by
 obtain⟨b,o,e,h1,h2,cs,hc,hr⟩:=Dj h hk
 obtain⟨rfl,xP⟩:=UM.1 hr
 exact⟨b,o,e,h1,h2,hc 0 _ rfl,hc 1 _ rfl,hc 2 _ rfl,xP⟩
structure Ad where
 op:UInt8
 a:Int
 l:List Int
def Ga:Rd Ad:=(Rd.u8.pair (Rd.i64.pair ((Rd.i64.sl false).pair Rd.unit))).via (fun x=>(x.op,x.a,x.l,()))
theorem Dz {W:World} {lo hi:Nat} {cs:List Value} {x:Ad}:Ga.R W lo hi cs x↔ ∃Yx:Value,cs= [bv x.op,Value.int .i64 x.a,Yx]∧Rd.Gd x.a∧(Rd.i64.sl false).R W lo hi [Yx] x.l:=by
 constructor
 ·rintro⟨c_op,r_op,rfl,h_op,⟨c_a,r_a,rfl,Ql,⟨GH,r_l,rfl,La,rfl⟩⟩⟩
  obtain⟨rfl,_⟩:=h_op
  obtain⟨rfl,Ql⟩:=Ql
  obtain⟨Yx,rfl,La⟩:=Dc La
  exact⟨Yx,rfl,Ql,La⟩
 ·rintro⟨Yx,rfl,Ql,La⟩
  exact⟨[bv x.op],[Value.int .i64 x.a,Yx],rfl,⟨rfl,trivial⟩,⟨[Value.int .i64 x.a],[Yx],rfl,⟨rfl,Ql⟩,⟨[Yx],[],rfl,La,rfl⟩⟩⟩
theorem EP {sp:Bool} {W:World} {lo hi:Nat} {A:Option Addr} {n c:Nat} {xs:List Ad} (h:(Ga.sl sp).R W lo hi [.slice A n c] xs) {k:Nat} {x:Ad} (hk:xs[k]?=some x):
 ∃(b o:Nat) (Gb:Option Addr) (GH:Nat),A=some ⟨b,o,none⟩∧lo≤b∧b<hi∧W.cell? ⟨b,o+k*3,none⟩=some (.int .u8 (x.op.toNat:Int))∧W.cell? ⟨b,o+k*3+1,none⟩=some (.int .i64 x.a)∧W.cell? ⟨b,o+k*3+2,none⟩=some (.slice Gb x.l.length GH)∧Rd.Gd x.a∧(Rd.i64.sl false).R W lo hi [.slice Gb x.l.length GH] x.l:=by
 obtain⟨b,o,e,h1,h2,cs,hc,hr⟩:=Dj h hk
 obtain⟨Yx,rfl,Ql,La⟩:=Dz.1 hr
 obtain⟨Gb,GH,rfl⟩:=AJ La
 exact⟨b,o,Gb,GH,e,h1,h2,hc 0 _ rfl,hc 1 _ rfl,hc 2 _ rfl,Ql,La⟩
structure Bt where
 t:Int
 loc:ByteArray
 code:List Ad
def XA:Rd Bt:=(Rd.i64.pair (Rd.str.pair ((Ga.sl false).pair Rd.unit))).via (fun x=>(x.t,x.loc,x.code,()))
theorem MR {W:World} {lo hi:Nat} {cs:List Value} {x:Bt}:XA.R W lo hi cs x↔ ∃Jh:Value,cs= [Value.int .i64 x.t,Value.string x.loc,Jh]∧Rd.Gd x.t∧Rd.PD x.loc∧(Ga.sl false).R W lo hi [Jh] x.code:=by
 constructor
 ·rintro⟨c_t,r_t,rfl,dP,⟨IX,ABl,rfl,DU,⟨Gm,r_code,rfl,Ef,rfl⟩⟩⟩
  obtain⟨rfl,dP⟩:=dP
  obtain⟨rfl,DU⟩:=DU
  obtain⟨Jh,rfl,Ef⟩:=Dc Ef
  exact⟨Jh,rfl,dP,DU,Ef⟩
 ·rintro⟨Jh,rfl,dP,DU,Ef⟩
  exact⟨[Value.int .i64 x.t],[Value.string x.loc,Jh],rfl,⟨rfl,dP⟩,⟨[Value.string x.loc],[Jh],rfl,⟨rfl,DU⟩,⟨[Jh],[],rfl,Ef,rfl⟩⟩⟩
theorem FN {sp:Bool} {W:World} {lo hi:Nat} {A:Option Addr} {n c:Nat} {xs:List Bt} (h:(XA.sl sp).R W lo hi [.slice A n c] xs) {k:Nat} {x:Bt} (hk:xs[k]?=some x):
 ∃(b o:Nat) (IL:Option Addr) (Gm:Nat),A=some ⟨b,o,none⟩∧lo≤b∧b<hi∧W.cell? ⟨b,o+k*3,none⟩=some (.int .i64 x.t)∧W.cell? ⟨b,o+k*3+1,none⟩=some (.string x.loc)∧W.cell? ⟨b,o+k*3+2,none⟩=some (.slice IL x.code.length Gm)∧Rd.Gd x.t∧Rd.PD x.loc∧(Ga.sl false).R W lo hi [.slice IL x.code.length Gm] x.code:=by
 obtain⟨b,o,e,h1,h2,cs,hc,hr⟩:=Dj h hk
 obtain⟨Jh,rfl,dP,DU,Ef⟩:=MR.1 hr
 obtain⟨IL,Gm,rfl⟩:=AJ Ef
 exact⟨b,o,IL,Gm,e,h1,h2,hc 0 _ rfl,hc 1 _ rfl,hc 2 _ rfl,dP,DU,Ef⟩
structure Gn where
 at_:Int
 b:List UInt8
def M0:Rd Gn:=(Rd.i64.pair ((Rd.u8.sl false).pair Rd.unit)).via (fun x=>(x.at_,x.b,()))
theorem Lb {W:World} {lo hi:Nat} {cs:List Value} {x:Gn}:M0.R W lo hi cs x↔ ∃o_:Value,cs= [Value.int .i64 x.at_,o_]∧Rd.Gd x.at_∧(Rd.u8.sl false).R W lo hi [o_] x.b:=by
 constructor
 ·rintro⟨c_at_,r_at_,rfl,Ju,⟨QH,r_b,rfl,Yy,rfl⟩⟩
  obtain⟨rfl,Ju⟩:=Ju
  obtain⟨o_,rfl,Yy⟩:=Dc Yy
  exact⟨o_,rfl,Ju,Yy⟩
 ·rintro⟨o_,rfl,Ju,Yy⟩
  exact⟨[Value.int .i64 x.at_],[o_],rfl,⟨rfl,Ju⟩,⟨[o_],[],rfl,Yy,rfl⟩⟩
theorem JO {sp:Bool} {W:World} {lo hi:Nat} {A:Option Addr} {n c:Nat} {xs:List Gn} (h:(M0.sl sp).R W lo hi [.slice A n c] xs) {k:Nat} {x:Gn} (hk:xs[k]?=some x):
 ∃(b o:Nat) (Qw:Option Addr) (QH:Nat),A=some ⟨b,o,none⟩∧lo≤b∧b<hi∧W.cell? ⟨b,o+k*2,none⟩=some (.int .i64 x.at_)∧W.cell? ⟨b,o+k*2+1,none⟩=some (.slice Qw x.b.length QH)∧Rd.Gd x.at_∧(Rd.u8.sl false).R W lo hi [.slice Qw x.b.length QH] x.b:=by
 obtain⟨b,o,e,h1,h2,cs,hc,hr⟩:=Dj h hk
 obtain⟨o_,rfl,Ju,Yy⟩:=Lb.1 hr
 obtain⟨Qw,QH,rfl⟩:=AJ Yy
 exact⟨b,o,Qw,QH,e,h1,h2,hc 0 _ rfl,hc 1 _ rfl,Ju,Yy⟩
structure LC where
 n:ByteArray
 f:Int
def TU:Rd LC:=(Rd.str.pair (Rd.i64.pair Rd.unit)).via (fun x=>(x.n,x.f,()))
theorem XB {W:World} {lo hi:Nat} {cs:List Value} {x:LC}:TU.R W lo hi cs x↔cs= [Value.string x.n,Value.int .i64 x.f]∧Rd.PD x.n∧Rd.Gd x.f:=by
 constructor
 ·rintro⟨c_n,r_n,rfl,h_n,⟨c_f,r_f,rfl,UN,rfl⟩⟩
  obtain⟨rfl,h_n⟩:=h_n
  obtain⟨rfl,UN⟩:=UN
  exact⟨rfl,h_n,UN⟩
 ·rintro⟨rfl,h_n,UN⟩
  exact⟨[Value.string x.n],[Value.int .i64 x.f],rfl,⟨rfl,h_n⟩,⟨[Value.int .i64 x.f],[],rfl,⟨rfl,UN⟩,rfl⟩⟩
theorem MS {sp:Bool} {W:World} {lo hi:Nat} {A:Option Addr} {n c:Nat} {xs:List LC} (h:(TU.sl sp).R W lo hi [.slice A n c] xs) {k:Nat} {x:LC} (hk:xs[k]?=some x):
 ∃(b o:Nat),A=some ⟨b,o,none⟩∧lo≤b∧b<hi∧W.cell? ⟨b,o+k*2,none⟩=some (.string x.n)∧W.cell? ⟨b,o+k*2+1,none⟩=some (.int .i64 x.f)∧Rd.PD x.n∧Rd.Gd x.f:=by
 obtain⟨b,o,e,h1,h2,cs,hc,hr⟩:=Dj h hk
 obtain⟨rfl,h_n,UN⟩:=XB.1 hr
 exact⟨b,o,e,h1,h2,hc 0 _ rfl,hc 1 _ rfl,h_n,UN⟩
structure AP where
 types:List CW
 hosts:List Int
 globs:List Ei
 first:Int
 most:Int
 fns:List Bt
 dat:List Gn
 Aw:List LC
def Db:Rd AP:=((Qk.sl false).pair ((Rd.i64.sl false).pair ((LZ.sl false).pair (Rd.i64.pair (Rd.i64.pair ((XA.sl false).pair ((M0.sl false).pair ((TU.sl false).pair Rd.unit)))))))).via (fun x=>(x.types,x.hosts,x.globs,x.first,x.most,x.fns,x.dat,x.Aw,()))
theorem Av {W:World} {lo hi:Nat} {cs:List Value} {x:AP}:Db.R W lo hi cs x↔ ∃JQ Ib Df Jv JR Fq:Value,cs= [JQ,Ib,Df,Value.int .i64 x.first,Value.int .i64 x.most,Jv,JR,Fq]∧(Qk.sl false).R W lo hi [JQ] x.types∧(Rd.i64.sl false).R W lo hi [Ib] x.hosts∧(LZ.sl false).R W lo hi [Df] x.globs∧Rd.Gd x.first∧Rd.Gd x.most∧(XA.sl false).R W lo hi [Jv] x.fns∧(M0.sl false).R W lo hi [JR] x.dat∧(TU.sl false).R W lo hi [Fq] x.Aw:=by
 constructor
 ·rintro⟨MU,r_types,rfl,E9,⟨MV,r_hosts,rfl,E_,⟨G5,pE,rfl,Cj,⟨c_first,r_first,rfl,G6,⟨c_most,r_most,rfl,Ji,⟨UO,r_fns,rfl,Jw,⟨UQ,r_dat,rfl,Jy,⟨PN,r_exps,rfl,Gp,rfl⟩⟩⟩⟩⟩⟩⟩⟩
  obtain⟨JQ,rfl,E9⟩:=Dc E9
  obtain⟨Ib,rfl,E_⟩:=Dc E_
  obtain⟨Df,rfl,Cj⟩:=Dc Cj
  obtain⟨rfl,G6⟩:=G6
  obtain⟨rfl,Ji⟩:=Ji
  obtain⟨Jv,rfl,Jw⟩:=Dc Jw
  obtain⟨JR,rfl,Jy⟩:=Dc Jy
  obtain⟨Fq,rfl,Gp⟩:=Dc Gp
  exact⟨JQ,Ib,Df,Jv,JR,Fq,rfl,E9,E_,Cj,G6,Ji,Jw,Jy,Gp⟩
 ·rintro⟨JQ,Ib,Df,Jv,JR,Fq,rfl,E9,E_,Cj,G6,Ji,Jw,Jy,Gp⟩
  exact⟨[JQ],[Ib,Df,Value.int .i64 x.first,Value.int .i64 x.most,Jv,JR,Fq],rfl,E9,⟨[Ib],[Df,Value.int .i64 x.first,Value.int .i64 x.most,Jv,JR,Fq],rfl,E_,⟨[Df],[Value.int .i64 x.first,Value.int .i64 x.most,Jv,JR,Fq],rfl,Cj,⟨[Value.int .i64 x.first],[Value.int .i64 x.most,Jv,JR,Fq],rfl,⟨rfl,G6⟩,⟨[Value.int .i64 x.most],[Jv,JR,Fq],rfl,⟨rfl,Ji⟩,⟨[Jv],[JR,Fq],rfl,Jw,⟨[JR],[Fq],rfl,Jy,⟨[Fq],[],rfl,Gp,rfl⟩⟩⟩⟩⟩⟩⟩⟩
structure Js where
 f:Int
 pc:Int
 loc:List Nat
 st:List Nat
def UR:Rd Js:=(Rd.i64.pair (Rd.i64.pair ((Rd.u64.sl false).pair ((Rd.u64.sl false).pair Rd.unit)))).via (fun x=>(x.f,x.pc,x.loc,x.st,()))
theorem Ic {W:World} {lo hi:Nat} {cs:List Value} {x:Js}:UR.R W lo hi cs x↔ ∃M9 RV:Value,cs= [Value.int .i64 x.f,Value.int .i64 x.pc,M9,RV]∧Rd.Gd x.f∧Rd.Gd x.pc∧(Rd.u64.sl false).R W lo hi [M9] x.loc∧(Rd.u64.sl false).R W lo hi [RV] x.st:=by
 constructor
 ·rintro⟨c_f,r_f,rfl,UN,⟨c_pc,r_pc,rfl,Qm,⟨IX,ABl,rfl,DU,⟨NK,r_st,rfl,Jz,rfl⟩⟩⟩⟩
  obtain⟨rfl,UN⟩:=UN
  obtain⟨rfl,Qm⟩:=Qm
  obtain⟨M9,rfl,DU⟩:=Dc DU
  obtain⟨RV,rfl,Jz⟩:=Dc Jz
  exact⟨M9,RV,rfl,UN,Qm,DU,Jz⟩
 ·rintro⟨M9,RV,rfl,UN,Qm,DU,Jz⟩
  exact⟨[Value.int .i64 x.f],[Value.int .i64 x.pc,M9,RV],rfl,⟨rfl,UN⟩,⟨[Value.int .i64 x.pc],[M9,RV],rfl,⟨rfl,Qm⟩,⟨[M9],[RV],rfl,DU,⟨[RV],[],rfl,Jz,rfl⟩⟩⟩⟩
theorem NM {sp:Bool} {W:World} {lo hi:Nat} {A:Option Addr} {n c:Nat} {xs:List Js} (h:(UR.sl sp).R W lo hi [.slice A n c] xs) {k:Nat} {x:Js} (hk:xs[k]?=some x):
 ∃(b o:Nat) (JU:Option Addr) (IX:Nat) (OD:Option Addr) (NK:Nat),A=some ⟨b,o,none⟩∧lo≤b∧b<hi∧W.cell? ⟨b,o+k*4,none⟩=some (.int .i64 x.f)∧W.cell? ⟨b,o+k*4+1,none⟩=some (.int .i64 x.pc)∧W.cell? ⟨b,o+k*4+2,none⟩=some (.slice JU x.loc.length IX)∧W.cell? ⟨b,o+k*4+3,none⟩=some (.slice OD x.st.length NK)∧Rd.Gd x.f∧Rd.Gd x.pc∧(Rd.u64.sl false).R W lo hi [.slice JU x.loc.length IX] x.loc∧(Rd.u64.sl false).R W lo hi [.slice OD x.st.length NK] x.st:=by
 obtain⟨b,o,e,h1,h2,cs,hc,hr⟩:=Dj h hk
 obtain⟨M9,RV,rfl,UN,Qm,DU,Jz⟩:=Ic.1 hr
 obtain⟨JU,IX,rfl⟩:=AJ DU
 obtain⟨OD,NK,rfl⟩:=AJ Jz
 exact⟨b,o,JU,IX,OD,NK,e,h1,h2,hc 0 _ rfl,hc 1 _ rfl,hc 2 _ rfl,hc 3 _ rfl,UN,Qm,DU,Jz⟩
structure FU where
 frames:List Js
 globs:List Nat
 pages:List (List UInt8)
 CU:Int
 end_:Int
 res:List Nat
 trap:Int
 used:Int
def K8:Rd FU:=((UR.sl false).pair ((Rd.u64.sl false).pair (((Rd.u8.sl false).sl false).pair (Rd.i64.pair (Rd.i8.pair ((Rd.u64.sl false).pair (Rd.i8.pair (Rd.i64.pair Rd.unit)))))))).via (fun x=>(x.frames,x.globs,x.pages,x.CU,x.end_,x.res,x.trap,x.used,()))
theorem DR {W:World} {lo hi:Nat} {cs:List Value} {x:FU}:K8.R W lo hi cs x↔ ∃I4 Df Ie K9:Value,cs= [I4,Df,Ie,Value.int .i64 x.CU,Value.int .i8 x.end_,K9,Value.int .i8 x.trap,Value.int .i64 x.used]∧(UR.sl false).R W lo hi [I4] x.frames∧(Rd.u64.sl false).R W lo hi [Df] x.globs∧((Rd.u8.sl false).sl false).R W lo hi [Ie] x.pages∧Rd.Gd x.CU∧Rd.B8 x.end_∧(Rd.u64.sl false).R W lo hi [K9] x.res∧Rd.B8 x.trap∧Rd.Gd x.used:=by
 constructor
 ·rintro⟨RX,ABm,rfl,GI,⟨G5,pE,rfl,Cj,⟨VK,r_pages,rfl,Ig,⟨c_reps,r_reps,rfl,NP,⟨c_end_,r_end_,rfl,NQ,⟨jF,r_res,rfl,OE,⟨c_trap,r_trap,rfl,NS,⟨c_used,r_used,rfl,NT,rfl⟩⟩⟩⟩⟩⟩⟩⟩
  obtain⟨I4,rfl,GI⟩:=Dc GI
  obtain⟨Df,rfl,Cj⟩:=Dc Cj
  obtain⟨Ie,rfl,Ig⟩:=Dc Ig
  obtain⟨rfl,NP⟩:=NP
  obtain⟨rfl,NQ⟩:=NQ
  obtain⟨K9,rfl,OE⟩:=Dc OE
  obtain⟨rfl,NS⟩:=NS
  obtain⟨rfl,NT⟩:=NT
  exact⟨I4,Df,Ie,K9,rfl,GI,Cj,Ig,NP,NQ,OE,NS,NT⟩
 ·rintro⟨I4,Df,Ie,K9,rfl,GI,Cj,Ig,NP,NQ,OE,NS,NT⟩
  exact⟨[I4],[Df,Ie,Value.int .i64 x.CU,Value.int .i8 x.end_,K9,Value.int .i8 x.trap,Value.int .i64 x.used],rfl,GI,⟨[Df],[Ie,Value.int .i64 x.CU,Value.int .i8 x.end_,K9,Value.int .i8 x.trap,Value.int .i64 x.used],rfl,Cj,⟨[Ie],[Value.int .i64 x.CU,Value.int .i8 x.end_,K9,Value.int .i8 x.trap,Value.int .i64 x.used],rfl,Ig,⟨[Value.int .i64 x.CU],[Value.int .i8 x.end_,K9,Value.int .i8 x.trap,Value.int .i64 x.used],rfl,⟨rfl,NP⟩,⟨[Value.int .i8 x.end_],[K9,Value.int .i8 x.trap,Value.int .i64 x.used],rfl,⟨rfl,NQ⟩,⟨[K9],[Value.int .i8 x.trap,Value.int .i64 x.used],rfl,OE,⟨[Value.int .i8 x.trap],[Value.int .i64 x.used],rfl,⟨rfl,NS⟩,⟨[Value.int .i64 x.used],[],rfl,⟨rfl,NT⟩,rfl⟩⟩⟩⟩⟩⟩⟩⟩
structure D5 where
 shapes:List ByteArray
 ends:List Int
 AB:List Int
 floors:List Int
 high:Int
def NU:Rd D5:=((Rd.str.sl false).pair ((Rd.i64.sl false).pair ((Rd.i64.sl false).pair ((Rd.i64.sl false).pair (Rd.i64.pair Rd.unit))))).via (fun x=>(x.shapes,x.ends,x.AB,x.floors,x.high,()))
theorem Lc {W:World} {lo hi:Nat} {cs:List Value} {x:D5}:NU.R W lo hi cs x↔ ∃I5 Ld Ih FX:Value,cs= [I5,Ld,Ih,FX,Value.int .i64 x.high]∧(Rd.str.sl false).R W lo hi [I5] x.shapes∧(Rd.i64.sl false).R W lo hi [Ld] x.ends∧(Rd.i64.sl false).R W lo hi [Ih] x.AB∧(Rd.i64.sl false).R W lo hi [FX] x.floors∧Rd.Gd x.high:=by
 constructor
 ·rintro⟨Le,ABn,rfl,H_,⟨RY,r_ends,rfl,Lf,⟨OG,r_elses,rfl,JV,⟨Lg,ABo,rfl,IB,⟨c_high,r_high,rfl,NV,rfl⟩⟩⟩⟩⟩
  obtain⟨I5,rfl,H_⟩:=Dc H_
  obtain⟨Ld,rfl,Lf⟩:=Dc Lf
  obtain⟨Ih,rfl,JV⟩:=Dc JV
  obtain⟨FX,rfl,IB⟩:=Dc IB
  obtain⟨rfl,NV⟩:=NV
  exact⟨I5,Ld,Ih,FX,rfl,H_,Lf,JV,IB,NV⟩
 ·rintro⟨I5,Ld,Ih,FX,rfl,H_,Lf,JV,IB,NV⟩
  exact⟨[I5],[Ld,Ih,FX,Value.int .i64 x.high],rfl,H_,⟨[Ld],[Ih,FX,Value.int .i64 x.high],rfl,Lf,⟨[Ih],[FX,Value.int .i64 x.high],rfl,JV,⟨[FX],[Value.int .i64 x.high],rfl,IB,⟨[Value.int .i64 x.high],[],rfl,⟨rfl,NV⟩,rfl⟩⟩⟩⟩⟩
theorem aR {sp:Bool} {W:World} {lo hi:Nat} {A:Option Addr} {n c:Nat} {xs:List D5} (h:(NU.sl sp).R W lo hi [.slice A n c] xs) {k:Nat} {x:D5} (hk:xs[k]?=some x):
 ∃(b o:Nat) (OH:Option Addr) (Le:Nat) (VL:Option Addr) (RY:Nat) (Qx:Option Addr) (OG:Nat) (OI:Option Addr) (Lg:Nat),A=some ⟨b,o,none⟩∧lo≤b∧b<hi∧W.cell? ⟨b,o+k*5,none⟩=some (.slice OH x.shapes.length Le)∧W.cell? ⟨b,o+k*5+1,none⟩=some (.slice VL x.ends.length RY)∧W.cell? ⟨b,o+k*5+2,none⟩=some (.slice Qx x.AB.length OG)∧W.cell? ⟨b,o+k*5+3,none⟩=some (.slice OI x.floors.length Lg)∧W.cell? ⟨b,o+k*5+4,none⟩=some (.int .i64 x.high)∧(Rd.str.sl false).R W lo hi [.slice OH x.shapes.length Le] x.shapes∧(Rd.i64.sl false).R W lo hi [.slice VL x.ends.length RY] x.ends∧(Rd.i64.sl false).R W lo hi [.slice Qx x.AB.length OG] x.AB∧(Rd.i64.sl false).R W lo hi [.slice OI x.floors.length Lg] x.floors∧Rd.Gd x.high:=by
 obtain⟨b,o,e,h1,h2,cs,hc,hr⟩:=Dj h hk
 obtain⟨I5,Ld,Ih,FX,rfl,H_,Lf,JV,IB,NV⟩:=Lc.1 hr
 obtain⟨OH,Le,rfl⟩:=AJ H_
 obtain⟨VL,RY,rfl⟩:=AJ Lf
 obtain⟨Qx,OG,rfl⟩:=AJ JV
 obtain⟨OI,Lg,rfl⟩:=AJ IB
 exact⟨b,o,OH,Le,VL,RY,Qx,OG,OI,Lg,e,h1,h2,hc 0 _ rfl,hc 1 _ rfl,hc 2 _ rfl,hc 3 _ rfl,hc 4 _ rfl,H_,Lf,JV,IB,NV⟩
structure Fu {α:Type} (r:Rd α) (e:TypeId) (base:Nat) (W:World) (A:Option Addr) (n c:Nat) (cells:List Value) (xs:List α):Prop where
 own:W.ownsRow base e r.z (.slice A n c) n cells
 len:n=xs.length
 els: ∀(k:Nat) x,xs[k]?=some x→ ∃lo hi,base≤lo∧hi≤W.heap.size∧(∀g,(Value.slice A n c).ownBlock=some g→g<lo∨hi≤g)∧r.R W lo hi ((cells.drop (k*r.z)).take r.z) x
section
variable {α:Type} {r:Rd α} {e:TypeId} {base:Nat} {W W':World} {A:Option Addr} {n c:Nat} {cells:List Value} {xs:List α}
theorem Fu.nil (r:Rd α) (e:TypeId) (base:Nat) (W:World):Fu r e base W none 0 0 [] []:=
 ⟨⟨by simp,.inl ⟨rfl,rfl⟩⟩,rfl,fun k x h=>by simp at h⟩
theorem Fu.below (h:Fu r e base W A n c cells xs) (hb:Below W.heap.size W W'):Fu r e base W' A n c cells xs:=by
 refine⟨FD h.own hb,h.len,fun k x hk=> ?_⟩
 obtain⟨lo,hi,h1,h2,h3,h4⟩:=h.els k x hk
 exact⟨lo,hi,h1,Nat.le_trans h2 hb.size,h3,r.below h4 hb h2⟩
theorem Fu.reads (h:Fu r e base W A n c cells xs):(r.sl false).R W base W.heap.size [.slice A n c] xs:=by
 refine Rd.own false h.own h.len fun k x hk=> ?_
 obtain⟨lo,hi,h1,h2,_,h4⟩:=h.els k x hk
 exact r.more h1 h2 h4
theorem Fu.snoc (h:Fu r e base W A n c cells xs) (hbase:base≤W.heap.size) {A':Option Addr} {c' lo hi:Nat} {cs:List Value} {x:α} (hr:r.R W lo hi cs x) (hlo:base≤lo) (hhi:hi≤W.heap.size) (hap: ∀g,(Value.slice A n c).ownBlock=some g→g<lo∨hi≤g)
 (ho:W'.ownsRow base e r.z (.slice A' (n+1) c') (n+1) (cells++cs)) (hg:W.grownBy W' (Value.slice A n c).ownBlock) (hat:(Value.slice A' (n+1) c').ownBlock=(Value.slice A n c).ownBlock∨(Value.slice A' (n+1) c').ownBlock=some W.heap.size):
 Fu r e base W' A' (n+1) c' (cells++cs) (xs++ [x]):=by
 have hl:cells.length=n*r.z:=h.own.1
 have hcs:cs.length=r.z:=r.len hr
 have hnew: ∀ {lo hi:Nat},hi≤W.heap.size→(∀g,(Value.slice A n c).ownBlock=some g→g<lo∨hi≤g)→ ∀g,(Value.slice A' (n+1) c').ownBlock=some g→g<lo∨hi≤g:=fun hh ha g hg'=>by
  rcases hat with h1 | h1
  ·exact ha g (h1▸hg')
  ·rw [h1] at hg';injection hg' with hg';right;omega
 refine⟨ho,by rw [List.length_append,←h.len];rfl,fun k y hk=> ?_⟩
 rw [List.getElem?_append] at hk
 split at hk
 ·rename_i hlt
  obtain⟨l1,h1,g1,g2,g3,g4⟩:=h.els k y hk
  refine⟨l1,h1,g1,Nat.le_trans g2 hg.size,hnew g2 g3,?_⟩
  have hkn:k*r.z+r.z≤cells.length:=by
   rw [hl,←Nat.succ_mul]
   exact Nat.mul_le_mul_right _ (by rw [h.len];exact hlt)
  rw [List.drop_append_of_le_length (by omega),List.take_append_of_le_length (by rw [List.length_drop];omega)]
  exact r.grown g4 hg g2 g3
 ·rename_i hge
  have hk0:k=xs.length:=by
   have:=(List.getElem?_eq_some_iff.1 hk).1
   simp at this;omega
  subst hk0
  rw [Nat.sub_self] at hk
  simp at hk
  subst hk
  refine⟨lo,hi,hlo,Nat.le_trans hhi hg.size,hnew hhi hap,?_⟩
  rw [←h.len,←hl,List.drop_left' rfl,←hcs,List.take_length]
  exact r.grown hr hg hhi hap
end
structure Flat {α:Type} (r:Rd α) (f:α→List Value) (ok:α→Prop):Prop where
 iff: ∀ {W:World} {lo hi:Nat} {cs:List Value} {x:α},r.R W lo hi cs x↔cs=f x∧ok x
 one: ∀x,∀u∈f x,u.oneCell'=true
 len: ∀x,(f x).length=r.z
 pos:0<r.z
theorem Kg:Flat Rd.u8 (fun x=> [bv x]) (fun _=>True):=⟨Iff.rfl,fun x u h=>by rw [List.mem_singleton] at h;subst h;rfl,fun _=>rfl,by decide⟩
theorem Li:Flat Rd.i64 (fun x=> [Value.int .i64 x]) Rd.Gd:=⟨Iff.rfl,fun x u h=>by rw [List.mem_singleton] at h;subst h;rfl,fun _=>rfl,by decide⟩
theorem XD:Flat Rd.u64 (fun x=> [uv x]) Rd.Yv:=⟨Iff.rfl,fun x u h=>by rw [List.mem_singleton] at h;subst h;rfl,fun _=>rfl,by decide⟩
def OJ (x:CW):List Value:= [.string x.p,.string x.r]
theorem I7:Flat Qk OJ (fun x=>Rd.PD x.p∧Rd.PD x.r):=⟨RU,fun x u h=>by unfold OJ at h;simp at h;rcases h with rfl | rfl<;>rfl,fun _=>rfl,by decide⟩
def vL (x:Ei):List Value:= [bv x.l,.bool x.m,uv x.v]
theorem J2:Flat LZ vL (fun x=>Rd.Yv x.v):=⟨UM,fun x u h=>by unfold vL at h;simp at h;rcases h with rfl | rfl | rfl<;>rfl,fun _=>rfl,by decide⟩
def ABq (x:LC):List Value:= [.string x.n,.int .i64 x.f]
theorem Lj:Flat TU ABq (fun x=>Rd.PD x.n∧Rd.Gd x.f):=⟨XB,fun x u h=>by unfold ABq at h;simp at h;rcases h with rfl | rfl<;>rfl,fun _=>rfl,by decide⟩
theorem Es {α:Type} {f:α→List Value} {z:Nat} (hl: ∀x,(f x).length=z): ∀l:List α,(l.flatMap f).length=l.length*z
 | []=>by simp
 | x::l=>by rw [List.flatMap_cons,List.length_append,hl,Es hl l,List.length_cons,Nat.succ_mul,Nat.add_comm]
theorem Kh {α:Type} {f:α→List Value} {z:Nat} (hl: ∀x,(f x).length=z): ∀(l:List α) (k:Nat) (x:α),l[k]?=some x→((l.flatMap f).drop (k*z)).take z=f x
 | [],k,x,h=>by simp at h
 | y::l,0,x,h=>by
  simp at h
  subst h
  rw [Nat.zero_mul,List.drop_zero,List.flatMap_cons,←hl y,List.take_left' rfl]
 | y::l,k+1,x,h=>by
  rw [List.getElem?_cons_succ] at h
  rw [List.flatMap_cons,Nat.succ_mul,Nat.add_comm,←hl y,←List.drop_drop,List.drop_left' rfl,hl y]
  exact Kh hl l k x h
section
variable {α:Type} {r:Rd α} {f:α→List Value} {ok:α→Prop} {W:World} {lo hi:Nat} {A:Option Addr} {n c:Nat} {l:List α}
theorem Flat.oks (hf:Flat r f ok) (h:(r.sl false).R W lo hi [.slice A n c] l): ∀x∈l,ok x:=fun x hx=>by
 obtain⟨k,hk,rfl⟩:=List.getElem_of_mem hx
 obtain⟨b,o,_,_,_,cs,_,hr⟩:=Dj h (List.getElem?_eq_getElem hk)
 exact(hf.iff.1 hr).2
theorem Flat.row (hf:Flat r f ok) (h:(r.sl false).R W lo hi [.slice A n c] l):Row W hi A (l.flatMap f):=fun hn=>by
 have hlen:=Es hf.len l
 have h0:0<l.length:=by
  rcases Nat.eq_zero_or_pos l.length with h0 | h0
  ·rw [h0,Nat.zero_mul] at hlen;omega
  ·exact h0
 obtain⟨A',c',he,_,h⟩:=h
 injection he with he _
 injection he with h1 h2 h3
 subst h1 h2
 obtain⟨b,o,e,_,hhi,hx⟩:=h h0
 refine⟨b,o,e,hhi,fun j u hu=> ?_⟩
 have hj:j<l.length*r.z:=by have:=(List.getElem?_eq_some_iff.1 hu).1;rwa [hlen] at this
 have hk:j/r.z<l.length:=(Nat.div_lt_iff_lt_mul hf.pos).2 hj
 obtain⟨cs,hc,hr⟩:=hx (j/r.z) _ (List.getElem?_eq_getElem hk)
 obtain⟨rfl,_⟩:=hf.iff.1 hr
 have ht:=Kh hf.len l (j/r.z) _ (List.getElem?_eq_getElem hk)
 have hm:j%r.z<r.z:=Nat.mod_lt _ hf.pos
 have hd:j/r.z*r.z+j%r.z=j:=by rw [Nat.mul_comm];exact Nat.div_add_mod j r.z
 have:=hc (j%r.z) u (by
  rw [←ht,List.getElem?_take,if_pos hm,List.getElem?_drop,hd]
  exact hu)
 rw [Nat.add_assoc,hd] at this
 exact this
theorem Flat.reads (hf:Flat r f ok) {base:Nat} {e:TypeId} (h:W.ownsRow base e r.z (.slice A n c) n (l.flatMap f)) (hn:n=l.length) (hok: ∀x∈l,ok x):(r.sl false).R W base W.heap.size [.slice A n c] l:=
 Rd.own false h hn fun k x hk=>hf.iff.2 ⟨Kh hf.len l k x hk,hok x (List.mem_of_getElem? hk)⟩
theorem Flat.cells (hf:Flat r f ok) (l:List α): ∀u∈l.flatMap f,u.oneCell'=true:=fun u hu=>by
 obtain⟨x,_,hx⟩:=List.mem_flatMap.1 hu
 exact hf.one x u hx
end
theorem Rd.set {α:Type} {r:Rd α} {W:World} {lo hi:Nat} {cs:List Value} {x:α} (h:r.R W lo hi cs x) {p:Addr} (u:Value) (hp:p.block<lo∨hi≤p.block):r.R (W.setCell p u) lo hi cs x:=
 r.keep (fun q h1 h2=>by
  have hb:=Below.heap_setCell W p u q.block (by omega)
  simp only [World.cell?,hb]) h
def IC {α:Type} (r:Rd α) (l:List α) (w:World) (e:Ending) (w':World):Prop:= ∃A' c',e= .returned (.slice A' l.length c')∧(r.sl false).R w' w.heap.size w'.heap.size [.slice A' l.length c'] l∧Below w.heap.size w w'
theorem info_parts' {P:Program} {t:TypeId} {s b:Nat} (h:(P.info? t).map (fun i=>(i.size,i.bytes,i.zero.map fun z=>z.cells.size))=some (s,b,some s)): ∃i z,P.info? t=some i∧i.zero=some z∧i.size=s∧i.bytes=b∧z.cells.size=s:=by
 cases hi:P.info? t with
 | none=>rw [hi] at h;cases h
 | some i=>
  rw [hi] at h
  simp only [Option.map_some,Option.some.injEq,Prod.mk.injEq] at h
  obtain⟨h1,h2,h3⟩:=h
  cases hz:i.zero with
  | none=>rw [hz] at h3;cases h3
  | some z=>
   rw [hz] at h3
   exact⟨i,z,rfl,hz,h1,h2,by simpa using h3⟩
theorem XE:(prog.info? 5).map (fun i=>(i.size,i.bytes,i.zero.map fun z=>z.cells.size))=some (1,1,some 1):=by kernel_rfl
theorem XF (A:Option Addr) (n c hi:Nat) (l:List UInt8) (w:World) (h:(Rd.u8.sl false).R w 0 hi [.slice A n c] l) (hhi:hi≤w.heap.size) (h47:n*1≤140737488351232):
 Calls prog 17 #[.slice A n c] w (IC Rd.u8 l w):=by
 have hn:=Dp h
 have VN:=AA (Kg.row h)
 have pG:=AA (Kg.oks h)
 have Hl:=AA (Es Kg.len l)
 have Hc:=AA (Kg.cells l)
 have Hn:=AA hn;clear hn h
 obtain⟨i0,z0,hi0,hz,hs',hb,hzz⟩:=info_parts' XE
 have Hi:=AA hi0;have Hz:=AA hz;have Hs:=AA hs';have Hb:=AA hb;have M5:=AA hzz;clear hi0 hz hs' hb hzz
 go_enter func17,ntmps17
 go_wp2_with (at_builtin;refine BL _ rfl (.tmp 4) (.tmp 5) 40 rfl w.heap.size 5 i0 z0 1 1 underlying40 Hi.out Hz.out Hs.out Hb.out M5.out (by omega) (.slice none 0 0) 0 [] rfl ⟨rfl,.inl ⟨rfl,rfl⟩⟩ hi A n c (l.flatMap _) rfl (by rw [Hl.out,Hn.out];rfl) VN.out Hc.out (by unfold maxLen;omega) (by omega) (Nat.le_refl _) ?_;intro A3 c3 w2 h2 h3 h4;rw [Nat.zero_add] at h2;have H2:=AA h2;have H3:=AA h3;clear h2 h3 h4)
 go_ret
 have hb2:Below w.heap.size w w2:=BG (v:= .slice none 0 0) (xs:= []) (n:=0) (base:=w.heap.size) (e:=5) (size:=1) ⟨rfl,.inl ⟨rfl,rfl⟩⟩ H3.out (Nat.le_refl _)
 refine⟨A3,c3,by rw [←Hn.out];rfl,?_,hb2⟩
 rw [←Hn.out]
 exact Kg.reads H2.out Hn.out pG.out
theorem Y0:(prog.info? 3).map (fun i=>(i.size,i.bytes,i.zero.map fun z=>z.cells.size))=some (1,8,some 1):=by kernel_rfl
theorem aU (A:Option Addr) (n c hi:Nat) (l:List Int) (w:World) (h:(Rd.i64.sl false).R w 0 hi [.slice A n c] l) (hhi:hi≤w.heap.size) (h47:n*8≤140737488351232):
 Calls prog 26 #[.slice A n c] w (IC Rd.i64 l w):=by
 have hn:=Dp h
 have VN:=AA (Li.row h)
 have pG:=AA (Li.oks h)
 have Hl:=AA (Es Li.len l)
 have Hc:=AA (Li.cells l)
 have Hn:=AA hn;clear hn h
 obtain⟨i0,z0,hi0,hz,hs',hb,hzz⟩:=info_parts' Y0
 have Hi:=AA hi0;have Hz:=AA hz;have Hs:=AA hs';have Hb:=AA hb;have M5:=AA hzz;clear hi0 hz hs' hb hzz
 go_enter func26,ntmps26
 go_wp2_with (at_builtin;refine BL _ rfl (.tmp 4) (.tmp 5) 23 rfl w.heap.size 3 i0 z0 1 8 underlying23 Hi.out Hz.out Hs.out Hb.out M5.out (by omega) (.slice none 0 0) 0 [] rfl ⟨rfl,.inl ⟨rfl,rfl⟩⟩ hi A n c (l.flatMap _) rfl (by rw [Hl.out,Hn.out];rfl) VN.out Hc.out (by unfold maxLen;omega) (by omega) (Nat.le_refl _) ?_;intro A3 c3 w2 h2 h3 h4;rw [Nat.zero_add] at h2;have H2:=AA h2;have H3:=AA h3;clear h2 h3 h4)
 go_ret
 have hb2:Below w.heap.size w w2:=BG (v:= .slice none 0 0) (xs:= []) (n:=0) (base:=w.heap.size) (e:=3) (size:=1) ⟨rfl,.inl ⟨rfl,rfl⟩⟩ H3.out (Nat.le_refl _)
 refine⟨A3,c3,by rw [←Hn.out];rfl,?_,hb2⟩
 rw [←Hn.out]
 exact Li.reads H2.out Hn.out pG.out
theorem QI:(prog.info? 87).map (fun i=>(i.size,i.bytes,i.zero.map fun z=>z.cells.size))=some (1,8,some 1):=by kernel_rfl
theorem Ra:(prog.info? 93).map (fun i=>(i.size,i.bytes,i.zero.map fun z=>z.cells.size))=some (2,32,some 2):=by kernel_rfl
theorem pI (A:Option Addr) (n c hi:Nat) (l:List CW) (w:World) (h:(Qk.sl false).R w 0 hi [.slice A n c] l) (hhi:hi≤w.heap.size) (h47:n*32≤140737488351232):
 Calls prog 25 #[.slice A n c] w (IC Qk l w):=by
 have hn:=Dp h
 have VN:=AA (I7.row h)
 have pG:=AA (I7.oks h)
 have Hl:=AA (Es I7.len l)
 have Hc:=AA (I7.cells l)
 have Hn:=AA hn;clear hn h
 obtain⟨i0,z0,hi0,hz,hs',hb,hzz⟩:=info_parts' Ra
 have Hi:=AA hi0;have Hz:=AA hz;have Hs:=AA hs';have Hb:=AA hb;have M5:=AA hzz;clear hi0 hz hs' hb hzz
 go_enter func25,ntmps25
 go_wp2_with (at_builtin;refine BL _ rfl (.tmp 4) (.tmp 5) 22 rfl w.heap.size 93 i0 z0 2 32 underlying22 Hi.out Hz.out Hs.out Hb.out M5.out (by omega) (.slice none 0 0) 0 [] rfl ⟨rfl,.inl ⟨rfl,rfl⟩⟩ hi A n c (l.flatMap _) rfl (by rw [Hl.out,Hn.out];rfl) VN.out Hc.out (by unfold maxLen;omega) (by omega) (Nat.le_refl _) ?_;intro A3 c3 w2 h2 h3 h4;rw [Nat.zero_add] at h2;have H2:=AA h2;have H3:=AA h3;clear h2 h3 h4)
 go_ret
 have hb2:Below w.heap.size w w2:=BG (v:= .slice none 0 0) (xs:= []) (n:=0) (base:=w.heap.size) (e:=93) (size:=2) ⟨rfl,.inl ⟨rfl,rfl⟩⟩ H3.out (Nat.le_refl _)
 refine⟨A3,c3,by rw [←Hn.out];rfl,?_,hb2⟩
 rw [←Hn.out]
 exact I7.reads H2.out Hn.out pG.out
theorem TV:(prog.info? 139).map (fun i=>(i.size,i.bytes,i.zero.map fun z=>z.cells.size))=some (3,16,some 3):=by kernel_rfl
theorem Y1 (A:Option Addr) (n c hi:Nat) (l:List Ei) (w:World) (h:(LZ.sl false).R w 0 hi [.slice A n c] l) (hhi:hi≤w.heap.size) (h47:n*16≤140737488351232):
 Calls prog 27 #[.slice A n c] w (IC LZ l w):=by
 have hn:=Dp h
 have VN:=AA (J2.row h)
 have pG:=AA (J2.oks h)
 have Hl:=AA (Es J2.len l)
 have Hc:=AA (J2.cells l)
 have Hn:=AA hn;clear hn h
 obtain⟨i0,z0,hi0,hz,hs',hb,hzz⟩:=info_parts' TV
 have Hi:=AA hi0;have Hz:=AA hz;have Hs:=AA hs';have Hb:=AA hb;have M5:=AA hzz;clear hi0 hz hs' hb hzz
 go_enter func27,ntmps27
 go_wp2_with (at_builtin;refine BL _ rfl (.tmp 4) (.tmp 5) 24 rfl w.heap.size 139 i0 z0 3 16 underlying24 Hi.out Hz.out Hs.out Hb.out M5.out (by omega) (.slice none 0 0) 0 [] rfl ⟨rfl,.inl ⟨rfl,rfl⟩⟩ hi A n c (l.flatMap _) rfl (by rw [Hl.out,Hn.out];rfl) VN.out Hc.out (by unfold maxLen;omega) (by omega) (Nat.le_refl _) ?_;intro A3 c3 w2 h2 h3 h4;rw [Nat.zero_add] at h2;have H2:=AA h2;have H3:=AA h3;clear h2 h3 h4)
 go_ret
 have hb2:Below w.heap.size w w2:=BG (v:= .slice none 0 0) (xs:= []) (n:=0) (base:=w.heap.size) (e:=139) (size:=3) ⟨rfl,.inl ⟨rfl,rfl⟩⟩ H3.out (Nat.le_refl _)
 refine⟨A3,c3,by rw [←Hn.out];rfl,?_,hb2⟩
 rw [←Hn.out]
 exact J2.reads H2.out Hn.out pG.out
theorem TW:(prog.info? 101).map (fun i=>(i.size,i.bytes,i.zero.map fun z=>z.cells.size))=some (2,24,some 2):=by kernel_rfl
theorem Y2 (A:Option Addr) (n c hi:Nat) (l:List LC) (w:World) (h:(TU.sl false).R w 0 hi [.slice A n c] l) (hhi:hi≤w.heap.size) (h47:n*24≤140737488351232):
 Calls prog 30 #[.slice A n c] w (IC TU l w):=by
 have hn:=Dp h
 have VN:=AA (Lj.row h)
 have pG:=AA (Lj.oks h)
 have Hl:=AA (Es Lj.len l)
 have Hc:=AA (Lj.cells l)
 have Hn:=AA hn;clear hn h
 obtain⟨i0,z0,hi0,hz,hs',hb,hzz⟩:=info_parts' TW
 have Hi:=AA hi0;have Hz:=AA hz;have Hs:=AA hs';have Hb:=AA hb;have M5:=AA hzz;clear hi0 hz hs' hb hzz
 go_enter func30,ntmps30
 go_wp2_with (at_builtin;refine BL _ rfl (.tmp 4) (.tmp 5) 27 rfl w.heap.size 101 i0 z0 2 24 underlying27 Hi.out Hz.out Hs.out Hb.out M5.out (by omega) (.slice none 0 0) 0 [] rfl ⟨rfl,.inl ⟨rfl,rfl⟩⟩ hi A n c (l.flatMap _) rfl (by rw [Hl.out,Hn.out];rfl) VN.out Hc.out (by unfold maxLen;omega) (by omega) (Nat.le_refl _) ?_;intro A3 c3 w2 h2 h3 h4;rw [Nat.zero_add] at h2;have H2:=AA h2;have H3:=AA h3;clear h2 h3 h4)
 go_ret
 have hb2:Below w.heap.size w w2:=BG (v:= .slice none 0 0) (xs:= []) (n:=0) (base:=w.heap.size) (e:=101) (size:=2) ⟨rfl,.inl ⟨rfl,rfl⟩⟩ H3.out (Nat.le_refl _)
 refine⟨A3,c3,by rw [←Hn.out];rfl,?_,hb2⟩
 rw [←Hn.out]
 exact Lj.reads H2.out Hn.out pG.out
end Go.Proofs.YtlagonfamllgjaaGreatDoor
