/- Part 4 of the proof: WireB WireC Keep AppB FamO TypesA EachL EachA TypesB EqI -/
import Derived.ArgAppend
import Derived.Test.YtejbcledkhioeaaGreatDoorQ02
namespace Go.Proofs.YtejbcledkhioeaaGreatDoor
set_option linter.unusedVariables false
set_option linter.unusedSimpArgs false
set_option maxRecDepth 100000
set_option maxHeartbeats 4000000
open Go.RowKit Tryz

theorem Xv (A:Option Addr) (n cap B:Nat) (p most:Int) (great:Nat) (w:World) (l:List UInt8) (hn:n=l.length) (h47:n≤140737488351232) (hr:Row w B A (l.map bv)) (hm:most<9223372036854775808):
 Calls prog 196 #[.slice A n cap,.int .i64 p,.int .i64 most,.int .i64 great] w fun e w'=>w=w'∧e= .returned (.tuple #[.int .i64 (cnt l p most great).1,.int .i64 (cnt l p most great).2.1,.int .i64 (cnt l p most great).2.2]):=by
 have HC:=Lib.hid (KH A n cap B p w l hn h47 hr)
 obtain⟨f1,f2,f3,f4,f5⟩:=IG l p
 clear hn hr f4
 unfold cnt
 generalize Ef l p=r at*
 obtain⟨v,nx,e⟩:=r
 simp only at HC f1 f2 f3 f5⊢
 have F3:=Lib.hid f3;clear f3
 by_cases he1:e=1
 ·subst he1
  rw [if_pos (.inl rfl)]
  go_enter func196,ntmps196
  go_wp2_with (go_at_call 150;refine HC.out.mono ?_;rintro e w' ⟨rfl,rfl⟩)
  go_ret3
  exact⟨rfl,Rx rfl rfl rfl⟩
 ·have e1:((e:Int)==1)=false:=by simp;omega
  by_cases hm0:most<0
  ·rw [if_pos (.inr hm0)]
   go_enter func196,ntmps196
   go_wp2_with (go_at_call 150;refine HC.out.mono ?_;rintro e w' ⟨rfl,rfl⟩)
   go_ret3
   exact⟨rfl,Rx rfl rfl rfl⟩
  ·rw [if_neg (by omega)]
   by_cases he:e=0
   ·subst he
    rw [if_neg (by omega)]
    by_cases hg:most<v
    ·rw [if_pos hg]
     go_enter func196,ntmps196
     go_wp2_with (go_at_call 150;refine HC.out.mono ?_;rintro e w' ⟨rfl,rfl⟩)
     go_ret3
     exact⟨rfl,Rx rfl rfl rfl⟩
    ·rw [if_neg hg]
     go_enter func196,ntmps196
     go_wp2_with (go_at_call 150;refine HC.out.mono ?_;rintro e w' ⟨rfl,rfl⟩)
     go_ret3
     exact⟨rfl,Rx rfl rfl rfl⟩
   ·have e0:((e:Int) !=0)=true:=by simp;omega
    rw [if_pos he]
    go_enter func196,ntmps196
    go_wp2_with (go_at_call 150;refine HC.out.mono ?_;rintro e w' ⟨rfl,rfl⟩)
    go_ret3
    exact⟨rfl,Rx rfl rfl rfl⟩
theorem QI (A:Option Addr) (n cap B:Nat) (p:Int) (w:World) (l:List UInt8) (hn:n=l.length) (h47:n≤140737488351232) (hr:Row w B A (l.map bv)):
 Calls prog 106 #[.slice A n cap,.int .i64 p] w fun e w'=>w=w'∧e= .returned (.tuple #[.int .i64 (unfolded (Ef l p).1),.int .i64 (Ef l p).2.1,.int .i64 (Ef l p).2.2]):=by
 have HC:=Lib.hid (KH A n cap B p w l hn h47 hr)
 obtain⟨f1,f2,f3,f4,f5⟩:=IG l p
 clear hn hr f4 f3
 generalize Ef l p=r at*
 obtain⟨v,nx,e⟩:=r
 simp only at HC f1 f2 f5⊢
 go_enter func106,ntmps106
 go_wp2_with (go_at_call 150;refine HC.out.mono ?_;rintro e w' ⟨rfl,rfl⟩)
 go_ret3
 exact⟨rfl,Rx (YZ v f1) rfl rfl⟩
structure Keep (K:Nat→Prop) (w w':World):Prop where
 os:w'.os=w.os
 tape:w'.tape=w.tape
 output:w'.output=w.output
 size:w.heap.size≤w'.heap.size
 block: ∀k,k<w.heap.size→K k→w'.heap[k]?=w.heap[k]?
section
variable {K K':Nat→Prop} {w w' w'':World}
theorem Keep.refl (K:Nat→Prop) (w:World):Keep K w w:=⟨rfl,rfl,rfl,Nat.le_refl _,fun _ _ _=>rfl⟩
theorem Keep.trans (h:Keep K w w') (h':Keep K w' w''):Keep K w w'':=
 ⟨h'.os.trans h.os,h'.tape.trans h.tape,h'.output.trans h.output,Nat.le_trans h.size h'.size,fun k hk hK=>(h'.block k (Nat.lt_of_lt_of_le hk h.size) hK).trans (h.block k hk hK)⟩
theorem Keep.mono (h:Keep K w w') (hk: ∀k,K' k→K k):Keep K' w w':=⟨h.os,h.tape,h.output,h.size,fun k h1 h2=>h.block k h1 (hk k h2)⟩
theorem Keep.of_below {B:Nat} (h:Below B w w') (hk: ∀k,K k→k<w.heap.size→k<B):Keep K w w':=⟨h.os,h.tape,h.output,h.size,fun k h1 h2=>h.block k (hk k h2 h1)⟩
theorem Keep.Aq (h:Below w.heap.size w w'):Keep K w w':=Keep.of_below h (fun _ _ h=>h)
theorem Keep.below {B:Nat} (h:Keep K w w') (hB:B≤w.heap.size) (hk: ∀k,k<B→K k):Below B w w':=⟨h.os,h.tape,h.output,h.size,fun k h1=>h.block k (by omega) (hk k h1)⟩
theorem Keep.alloc (h:Keep K w w') (o:Obj):Keep K w (w'.alloc o):=h.trans (Keep.Aq ((Below.refl _ _).alloc (Nat.le_refl _) o))
theorem Keep.drewN (h:Keep K w w') (n:Nat):Keep K w (w'.drewN n):=⟨h.os,h.tape,h.output,h.size,h.block⟩
theorem Keep.drew (h:Keep K w w'):Keep K w w'.drew:=⟨h.os,h.tape,h.output,h.size,h.block⟩
theorem Keep.setCell (h:Keep K w w') {p:Addr} (hp: ¬K p.block) (u:Value):Keep K w (w'.setCell p u):=
 h.trans ⟨rfl,rfl,rfl,by simp [World.setCell],fun k _ hK=>Below.heap_setCell _ _ _ _ (fun e=>hp (e▸hK))⟩
theorem Keep.grown (h:Keep K w w') {row:Option Nat} (hg:w'.grownBy w'' row) (hr: ∀k,row=some k→ ¬K k):Keep K w w'':=
 h.trans ⟨hg.os,hg.tape,hg.output,hg.size,fun k h1 h2=>hg.block k h1 (fun e=>hr k e.symm h2)⟩
theorem Keep.all (h:Keep K w w') (hb:Below w'.heap.size w' w''):Keep K w w'':=h.trans (Keep.Aq hb)
theorem AL.keep {g:Nat} {t:TypeId} {xs:List Value} (hb:AL w g t xs) (h:Keep K w w') (hg:K g):AL w' g t xs:=(h.block g hb.lt hg).trans hb
theorem BD {base size:Nat} {e:TypeId} {v:Value} {n:Nat} {xs:List Value} (ho:w.ownsRow base e size v n xs) (h:Keep K w w') (hg: ∀k,v.ownBlock=some k→K k):w'.ownsRow base e size v n xs:=by
 obtain⟨h1,h2⟩:=ho
 refine⟨h1,?_⟩
 rcases h2 with h2 | ⟨g,cap,cur,rfl,hb,hh,hr⟩
 ·exact .inl h2
 ·have hlt:g<w.heap.size:=(Array.getElem?_eq_some_iff.1 hh).1
  exact .inr ⟨g,cap,cur,rfl,hb,(h.block g hlt (hg g rfl)).trans hh,hr⟩
theorem Rd.GX {α:Type} {r:Rd α} {lo hi:Nat} {cs:List Value} {x:α} (hr:r.R w lo hi cs x) (h:Keep K w w') (hhi:hi≤w.heap.size) (hk: ∀k,lo≤k→k<hi→K k):r.R w' lo hi cs x:=
 r.keep (fun p h1 h2=>by
  have hb:=h.block p.block (by omega) (hk _ h1 h2)
  simp [World.cell?,hb]) hr
theorem IU {base size:Nat} {e:TypeId} {v:Value} {n:Nat} {xs:List Value} (ho:w.ownsRow base e size v n xs) {p:Addr} (hp:v.ownBlock≠some p.block) (u:Value):(w.setCell p u).ownsRow base e size v n xs:=
 BD (K:=fun k=>k≠p.block) ho ((Keep.refl _ _).setCell (by simp) u) (fun k hk e=>hp (by rw [hk,e]))
end
def Ls (w:World) (base:Nat) (e:TypeId) (v:Value) (n:Nat) (xs:List Value):Prop:=
 w.ownsRow base e 1 v n xs∨ ∃g fz,v= .slice (some ⟨g,0,none⟩) n n∧base≤g∧w.heap[g]?=some (.cells xs.toArray e fz)∧xs.length=n
section
variable {w w':World} {base:Nat} {e:TypeId} {v:Value} {n:Nat} {xs:List Value} {K:Nat→Prop}
theorem Ls.lt (h:Ls w base e v n xs): ∀k,v.ownBlock=some k→base≤k∧k<w.heap.size:=by
 rcases h with h | ⟨g,fz,rfl,hb,hg,hl⟩
 ·exact h.lt
 ·intro k hk
  injection hk with hk
  have hk:g=k:=hk
  subst hk
  exact⟨hb,(Array.getElem?_eq_some_iff.1 hg).1⟩
theorem Ls.GX (h:Ls w base e v n xs) (hk:Keep K w w') (hg: ∀k,v.ownBlock=some k→K k):Ls w' base e v n xs:=by
 rcases h with h | ⟨g,fz,rfl,hb,hh,hl⟩
 ·exact .inl (BD h hk hg)
 ·exact .inr ⟨g,fz,rfl,hb,(hk.block g (Array.getElem?_eq_some_iff.1 hh).1 (hg g rfl)).trans hh,hl⟩
theorem Ls.wF (h:Ls w base e v n xs) (hb:Below w.heap.size w w'):Ls w' base e v n xs:=
 h.GX (K:=fun _=>True) (Keep.Aq hb) fun _ _=>trivial
theorem Ls.nW (h:Ls w base e v n xs) {p:Addr} (hp:v.ownBlock≠some p.block) (u:Value):Ls (w.setCell p u) base e v n xs:=
 h.GX (K:=fun k=>k≠p.block) ((Keep.refl _ _).setCell (by simp) u) (fun k hk e=>hp (by rw [hk,e]))
theorem Ls.alloc (h:Ls w base e v n xs) (o:Obj):Ls (w.alloc o) base e v n xs:=
 h.wF ((Below.refl _ _).alloc (Nat.le_refl _) _)
end
theorem ZO {P:Program} (w:World) (base:Nat) (t ty e:TypeId) (i:TypeInfo) (z:Value) (bytes:Nat) (ht:P.underlying t=some (.slice e)) (hi:P.info? e=some i) (hz:i.zero=some z)
 (hsize:i.size=1) (hby:i.bytes=bytes) (hzs:z.cells.size=1)
 (v:Value) (n:Nat) (xs:List Value) (hown:Ls w base e v n xs)
 (B:Nat) (A:Option Addr) (m c:Nat) (news:List Value) (hm0:0<m) (hm:news.length=m*1) (hr:Row w B A news) (h1: ∀u∈news,u.oneCell'=true)
 (h63:n+m≤maxLen) (hbytes:(n+m)*bytes≤140737488355328) (hbase:base≤w.heap.size):
 ∃v' w',(Builtin.append_ #[t,t] ty #[v,.slice A m c]).run P w= .ok v' w'∧w'.ownsRow base e 1 v' (n+m) (xs++news)∧w.grownBy w' v.ownBlock∧
  (v'.ownBlock=v.ownBlock∨v'.ownBlock=some w.heap.size):=by
 rcases hown with hown | ⟨g,fz,rfl,hb,hh,hl⟩
 ·exact UU w base t ty e i z 1 bytes ht hi hz hsize hby hzs (by omega) v n xs hown B A m c news hm hr h1 h63 hbytes hbase
 ·obtain⟨b,o,rfl,_,hc⟩:=hr (by omega)
  obtain⟨v',w',hrun,r1,r2⟩:=run_append_arg_grows (P:=P) w t ty e i z 1 bytes ht hi hz hsize hby hzs (by omega) ⟨g,0,none⟩ n n xs (by omega) (fun j u hj=>by
   rw [Addr.add_lit,Nat.zero_add]
   simp only [World.cell?,hh]
   simp [hj]) ⟨b,o,none⟩ m c news hm (fun j u hj=>by rw [Addr.add_lit];exact hc j u hj) (by omega) h63 hbytes
  refine⟨v',w',hrun,r1.mono hbase,⟨r2.os,r2.tape,r2.output,r2.size,fun k h1 _=>r2.block k h1 (by simp)⟩,.inr ?_⟩
  have hr2:=run_append_grow (P:=P) w t ty e i z ht hi hz ⟨g,0,none⟩ n n xs (by rw [hsize];omega) (fun j u hj=>by
   rw [Addr.add_lit,Nat.zero_add]
   simp only [World.cell?,hh]
   simp [hj]) ⟨b,o,none⟩ m c news (by rw [hsize];exact hm) (fun j u hj=>by rw [Addr.add_lit];exact hc j u hj) (by omega) (by unfold maxLen at h63;omega) (by rw [hby];exact growslice_fits (by omega) hbytes)
  rw [hr2] at hrun
  injection hrun with e1 e2
  rw [←e1]
  rfl
theorem ZP {P:Program} (w:World) {ops:Array Oper} {rest:List Oper} {o:Oper} {a:Act} {Q:Exit→Act→World→Prop} (hgd:o.guard=none) (s x:Operand) (t:TypeId)
 (ho:o.op= .call {callee:= .builtin .append,args:= #[s,x],argTypes:= #[t,t]})
 (base:Nat) (e:TypeId) (i:TypeInfo) (z:Value) (bytes:Nat) (ht:P.underlying t=some (.slice e)) (hi:P.info? e=some i) (hz:i.zero=some z)
 (hsize:i.size=1) (hby:i.bytes=bytes) (hzs:z.cells.size=1)
 (v:Value) (n:Nat) (xs:List Value) (hs:a.eval s=v) (hown:Ls w base e v n xs)
 (B:Nat) (A:Option Addr) (m c:Nat) (news:List Value) (hm0:0<m) (hx:a.eval x= .slice A m c) (hm:news.length=m*1) (hr:Row w B A news) (h1: ∀u∈news,u.oneCell'=true)
 (h63:n+m≤maxLen) (hbytes:(n+m)*bytes≤140737488355328) (hbase:base≤w.heap.size)
 (h: ∀A' c' w',w'.ownsRow base e 1 (.slice A' (n+m) c') (n+m) (xs++news)→w.grownBy w' v.ownBlock→((Value.slice A' (n+m) c').ownBlock=v.ownBlock∨(Value.slice A' (n+m) c').ownBlock=some w.heap.size)→wpList P ops Q rest (a.put o.dst (.slice A' (n+m) c')) w'):wpList P ops Q (o::rest) a w:=by
 refine wpList_plain hgd fun _ hK=> ?_
 obtain⟨v',w',hrun,h2,h3,h4⟩:=ZO (P:=P) w base t o.type e i z bytes ht hi hz hsize hby hzs v n xs hown B A m c news hm0 hm hr h1 h63 hbytes hbase
 obtain⟨A',c',rfl⟩:=LZ h2
 unfold Oper.wp execOp
 simp only [ho,resolve,invoke,builtin,Sem.run_bind,Sem.run_pure,Result.andThen_ok,List.map_toArray,List.map_cons,List.map_nil,hs,hx,hrun]
 exact hK _ _ (h A' c' w' h2 h3 h4)
theorem PU {P:Program} {ops:Array Oper} {o:Oper} {a:Act} {w:World} {K:Act→World→Prop} {Q:Exit→Act→World→Prop} {E:Prop}
 (hg:o.guard=none) (s x:Operand) (t:TypeId) (hop:o.op=Op.call {callee:=Callee.builtin Builtin.append,args:= #[s,x],argTypes:= #[t,t]})
 (base:Nat) (e:TypeId) (i:TypeInfo) (z:Value) (bytes:Nat) (ht:P.underlying t=some (.slice e)) (hi:P.info? e=some i) (hz:i.zero=some z)
 (hsize:i.size=1) (hby:i.bytes=bytes) (hzs:z.cells.size=1)
 (v:Value) (n:Nat) (xs:List Value) (hs:a.eval s=v) (hown:Ls w base e v n xs)
 (B:Nat) (A:Option Addr) (m c:Nat) (news:List Value) (hm0:0<m) (hx:a.eval x= .slice A m c) (hm:news.length=m*1) (hr:Row w B A news) (h1: ∀u∈news,u.oneCell'=true)
 (h63:n+m≤maxLen) (hbytes:(n+m)*bytes≤140737488355328) (hbase:base≤w.heap.size)
 (h: ∀A' c' w',w'.ownsRow base e 1 (.slice A' (n+m) c') (n+m) (xs++news)→w.grownBy w' v.ownBlock→((Value.slice A' (n+m) c').ownBlock=v.ownBlock∨(Value.slice A' (n+m) c').ownBlock=some w.heap.size)→K (a.put o.dst (.slice A' (n+m) c')) w'):
 if Region.wanted o (yielded ops a.tmps)=true then Oper.wp P o a w K Q else E:=by
 have hw:Region.wanted o (yielded ops a.tmps)=true:=by simp [Region.wanted,hg]
 rw [if_pos hw]
 obtain⟨v',w',hrun,h2,h3,h4⟩:=ZO (P:=P) w base t o.type e i z bytes ht hi hz hsize hby hzs v n xs hown B A m c news hm0 hm hr h1 h63 hbytes hbase
 obtain⟨A',c',rfl⟩:=LZ h2
 unfold Oper.wp
 simp [execOp,hop,resolve,invoke,builtin,hs,hx,hrun,Result.andThen]
 exact h A' c' w' h2 h3 h4
structure Fam (k:Nat) (w:World) (base:Nat) (e:TypeId) (f:Nat→Value×List Value):Prop where
 own: ∀i,i<k→w.ownsRow base e 1 (f i).1 (f i).2.length (f i).2
 apart: ∀i j,i<k→j<k→i≠j→ ∀b,(f i).1.ownBlock=some b→(f j).1.ownBlock≠some b
def sw (f:Nat→Value×List Value) (i:Nat) (x:Value×List Value):Nat→Value×List Value:=fun j=>if j=i then x else f j
section
variable {k:Nat} {w w':World} {base:Nat} {e:TypeId} {f g:Nat→Value×List Value}
theorem Fam.congr (h:Fam k w base e f) (hg: ∀i,i<k→g i=f i):Fam k w base e g:=
 ⟨fun i hi=>by rw [hg i hi];exact h.own i hi,fun i j hi hj hn=>by rw [hg i hi,hg j hj];exact h.apart i j hi hj hn⟩
theorem Fam.below (h:Fam k w base e f) (hb:Below w.heap.size w w'):Fam k w' base e f:=
 ⟨fun i hi=>BI (h.own i hi) hb,h.apart⟩
theorem Fam.put (h:Fam k w base e f) {i:Nat} (hi:i<k) {v:Value} {xs:List Value} (hg:w.grownBy w' (f i).1.ownBlock) (ho:w'.ownsRow base e 1 v xs.length xs)
 (hb:v.ownBlock=(f i).1.ownBlock∨ ∃n,w.heap.size≤n∧v.ownBlock=some n):Fam k w' base e (sw f i (v,xs)):=by
 constructor
 ·intro j hj
  unfold sw
  split
  ·exact ho
  ·rename_i hn
   refine(h.own j hj).kept hg ?_
   cases hv:(f j).1.ownBlock with
   | none=>exact .inl rfl
   | some b=>exact .inr fun e=>h.apart j i hj hi hn b hv e.symm
 ·intro a b ha hb' hn c hc hd
  unfold sw at hc hd
  split at hc
  ·rename_i ea
   rw [if_neg (by omega)] at hd
   rcases hb with e | ⟨n,hn2,e⟩
   ·rw [e] at hc;exact h.apart i b hi hb' (by omega) c hc hd
   ·rw [e] at hc
    injection hc with hc
    have:=((h.own b hb').lt c hd).2
    omega
  ·split at hd
   ·rcases hb with e | ⟨n,hn2,e⟩
    ·rw [e] at hd;exact h.apart a i ha hi (by omega) c hc hd
    ·rw [e] at hd
     injection hd with hd
     have:=((h.own a ha).lt c hc).2
     omega
   ·exact h.apart a b ha hb' hn c hc hd
theorem Fam.set (h:Fam k w base e f) {i:Nat} (hi:i<k) {b n c:Nat} (hv:(f i).1= .slice (some ⟨b,0,none⟩) n c) (hn:n=(f i).2.length) (p:Nat) (u:Value):
 Fam k (w.setCell ⟨b,p,none⟩ u) base e (sw f i ((f i).1,(f i).2.set p u)):=by
 subst hn
 have ho:=h.own i hi
 rw [hv] at ho
 have hs:=ho.stored p u
 refine h.put hi (v:=(f i).1) (xs:=(f i).2.set p u) ?_ ?_ (.inl rfl)
 ·rw [hv];exact hs.2
 ·rw [List.length_set,hv];exact hs.1
theorem Fam.o (h:Fam k w base e f) (i:Nat) (hi:i<k) {v:Value} {xs:List Value} {n:Nat} (hf:f i=(v,xs)) (hn:n=xs.length):w.ownsRow base e 1 v n xs:=by
 have:=h.own i hi
 rw [hf] at this
 rw [hn];exact this
theorem iV {v:Value} {n:Nat} {xs:List Value} (h:w.ownsRow base e 1 v n xs) (hn:0<n): ∃b c,v= .slice (some ⟨b,0,none⟩) n c∧base≤b∧b<w.heap.size∧n≤c:=by
 rcases h.2 with⟨_,h0⟩ | ⟨g,cap,cur,hv,hb,hg,hle,_⟩
 ·omega
 ·exact⟨g,cap,hv,hb,(Array.getElem?_eq_some_iff.1 hg).1,hle⟩
end
theorem U5 {w:World} {base:Nat} {e:TypeId} {A:Option Addr} {n c:Nat} {xs:List Int} (h:w.ownsRow base e 1 (.slice A n c) n (xs.map (Value.int .i64))) (hb: ∀x∈xs,Rd.ER x):
 (Rd.i64.sl false).R w base w.heap.size [.slice A n c] xs:=by
 have hl:n=xs.length:=by have:=h.1;simpa using this.symm
 refine Rd.own false (r:=Rd.i64) h hl fun k x hk=> ?_
 show(((xs.map (Value.int .i64)).drop (k*1)).take 1)= [Value.int .i64 x]∧Rd.ER x
 have hlt:=(List.getElem?_eq_some_iff.1 hk)
 refine⟨?_,hb x (List.mem_of_getElem? hk)⟩
 rw [Nat.mul_one,←List.map_drop,List.drop_eq_getElem_cons hlt.1,hlt.2]
 rfl
theorem Nj (c:Nat) (hc:c<256) (w:World):Calls prog 105 #[.int .u8 c] w fun e w'=>w=w'∧e= .returned (.bool (Qg c)):=by
 by_cases h1:c=119
 ·subst h1
  go_enter func105,ntmps105
  go_wp2
  go_ret
  exact⟨rfl,rfl⟩
 ·have h1':((c:Int)==119)=false:=by simp;omega
  by_cases h2:c=108
  ·subst h2
   go_enter func105,ntmps105
   go_wp2
   go_ret
   exact⟨rfl,rfl⟩
  ·have h2':((c:Int)==108)=false:=by simp;omega
   have HF:=AA (show Qg c=false by simp [Qg,h1,h2])
   clear h1 h2
   go_enter func105,ntmps105
   go_wp2
   go_ret
   exact⟨rfl,by rw [HF.out];rfl⟩
def Uc (s:ByteArray) (gd:Nat→UInt8→Bool) (w:World) (wr:World):Prop:=
 ∃k:Nat,Eu wr w.heap.size s k∧Below w.heap.size w wr∧OD gd k (s.data.toList.drop k)=OD gd 0 s.data.toList
theorem XG (s:ByteArray) (h47:s.size≤140737488351232) (caps:List Value) (w:World) (gd:Nat→UInt8→Bool)
 (hg: ∀(i:Nat) (W:World),i<s.size→Tw (s.data.toList[i]?.getD 0)=true→Below w.heap.size w W→Calls prog 165 (Value.int .i64 i::Value.int .u8 ((s.data.toList[i]?.getD 0).toNat:Int)::caps).toArray W fun e w'=>W=w'∧e= .returned (.bool (gd i (s.data.toList[i]?.getD 0)))):
 Calls prog 164 #[.string s,.func (.func 165) #[] caps.toArray] w fun e w'=>Below w.heap.size w w'∧e= .returned (.bool (OD gd 0 s.data.toList)):=by
 have Hg:=AA hg;clear hg
 go_enter func164,ntmps164
 go_wp2_with fail
 go_loopw [] (fun wr=>Uc s gd w wr) (fun wr=>s.size-UM wr w.heap.size)
 case atStart=>exact⟨0,Eu.new w s 0,Z_ w s 0,rfl⟩
 case round=>
  obtain⟨k,hit,hbel,hR⟩:=hrel
  have Hit:=AA hit;clear hit
  have JR:=AA hbel;clear hbel
  have HR:=AA hR;clear hR
  by_cases hlt:k<s.size
  ·have hdrop:=drop_at s.data.toList k (by simpa using hlt)
   have Hd:=AA hdrop;clear hdrop
   have hnx:=fun ty=>rE (P:=prog) Hit.out hlt ty
   by_cases hlow:(s.data.toList[k]?.getD 0).toNat<128
   ·rw [aA s k hlt hlow] at hnx
    have Hg2:=AA (Hg.out k)
    have hu8:(s.data.toList[k]?.getD 0).toNat<256:=by omega
    have HE:Hid (Tw (s.data.toList[k]?.getD 0)=Qg (s.data.toList[k]?.getD 0).toNat):=AA rfl
    generalize s.data.toList[k]?.getD 0=c8 at*
    generalize c8.toNat=c at*
    have HL:=AA (Nj c (by omega) (setIter wr w.heap.size s (k+1)))
    have WH:Hid (Below w.heap.size w (setIter wr w.heap.size s (k+1))):=AA (JR.out.trans (P_ _ (Nat.le_refl _)))
    have AAk:=AA (Hit.out.set (k+1))
    have HR2:Hid ((Qg c&&(gd k c8&&OD gd (k+1) (s.data.toList.drop (k+1))))=OD gd 0 s.data.toList):=AA (by rw [←HR.out,Hd.out,←HE.out];rfl)
    have HG:Hid (Qg c=true→_):=AA (fun h=>Hg2.out (setIter wr w.heap.size s (k+1)) hlt (by rw [HE.out,h]) WH.out)
    clear Hg2 HE Hd HR
    cases hb:Qg c with
    | false=>
     rw [hb] at HL HR2
     clear HG hb
     go_wp2_with (go_at_call 105;refine HL.out.mono ?_;rintro e w' ⟨rfl,rfl⟩)
     go_ret
     exact⟨WH.out,by rw [←HR2.out];rfl⟩
    | true=>
     have HG2:=AA (HG.out hb)
     rw [hb] at HL HR2
     clear HG hb
     cases hgd:gd k c8 with
     | false=>
      rw [hgd] at HG2 HR2
      clear hgd
      go_wp2_with (first | (go_at_call 105;refine HL.out.mono ?_;rintro e w' ⟨rfl,rfl⟩) | (go_at_call 165;refine HG2.out.mono ?_;rintro e w' ⟨rfl,rfl⟩))
      go_ret
      exact⟨WH.out,by rw [←HR2.out];rfl⟩
     | true=>
      rw [hgd] at HG2 HR2
      clear hgd
      go_wp2_with (first | (go_at_call 105;refine HL.out.mono ?_;rintro e w' ⟨rfl,rfl⟩) | (go_at_call 165;refine HG2.out.mono ?_;rintro e w' ⟨rfl,rfl⟩))
      exact⟨⟨k+1,AAk.out,WH.out,HR2.out⟩,by rw [Hit.out.pos,AAk.out.pos];omega⟩
   ·have hhi:=gP s k hlt hlow
    have HF:Hid (OD gd 0 s.data.toList=false):=AA (by
     rw [←HR.out,Hd.out]
     have h0:Tw (s.data.toList[k]?.getD 0)=false:=xM _ hlow
     rw [UN,h0]
     rfl)
    have hle:=decode_le s k
    generalize Utf8.decode s k=d at*
    obtain⟨r,wd⟩:=d
    simp only at hhi hle hnx
    have WH:Hid (Below w.heap.size w (setIter wr w.heap.size s (k+wd))):=AA (JR.out.trans (P_ _ (Nat.le_refl _)))
    clear Hd hlow
    go_wp2_with fail
    go_ret
    exact⟨WH.out,by rw [HF.out];rfl⟩
  ·have hnx:=fun ty=>kZ (P:=prog) Hit.out hlt ty
   have HT:Hid (OD gd 0 s.data.toList=true):=AA (by rw [←HR.out,List.drop_of_length_le (by simp;omega)];rfl)
   go_wp2_with fail
   go_ret
   exact⟨JR.out,by rw [HT.out];rfl⟩

theorem Yg (i c:Int) (w:World):Calls prog 165 #[.int .i64 i,.int .u8 c] w fun e w'=>w=w'∧e= .returned (.bool true):=by
 go_enter func165,ntmps165
 go_wp2
 go_ret
 exact⟨rfl,rfl⟩
theorem Mj (s:ByteArray) (m:Nat) (h47:s.size≤140737488351232) (hm:m≤1000) (w:World):
 Calls prog 128 #[.string s,.int .i64 m] w fun e w'=>Below w.heap.size w w'∧e= .returned (.bool (KV m s.data.toList)):=by
 have hsz:s.data.toList.length=s.size:=by simp
 by_cases h:s.size≤m
 ·have HC:=AA (XG s h47 [] w (fun _ _=>true) (fun i W _ _ _=>Yg _ _ W))
  have HR:Hid (KV m s.data.toList=OD (fun _ _=>true) 0 s.data.toList):=AA (by unfold KV;rw [UO,hsz];simp [h])
  clear hsz
  go_enter func128,ntmps128
  go_wp2_with fail
  refine HC.out.mono ?_
  rintro e w1 ⟨h1,rfl⟩
  go_wp2_with fail
  go_ret
  exact⟨h1,by rw [HR.out];rfl⟩
 ·have HR:Hid (KV m s.data.toList=false):=AA (by unfold KV;rw [hsz];simp [h])
  clear hsz
  go_enter func128,ntmps128
  go_wp2_with fail
  go_ret
  exact⟨Below.refl _ _,by rw [HR.out];rfl⟩
theorem TA (s:ByteArray) (h47:s.size≤140737488351232) (w:World):
 Calls prog 156 #[.string s] w fun e w'=>Below w.heap.size w w'∧e= .returned (.bool (KV 256 s.data.toList)):=by
 have HC:=AA (Mj s 256 h47 (by omega) w)
 generalize KV 256 s.data.toList=b at*
 go_enter func156,ntmps156
 go_wp2_with fail
 refine HC.out.mono ?_
 rintro e w1 ⟨h1,rfl⟩
 go_wp2_with fail
 go_ret
 exact⟨h1,rfl⟩
theorem aH (v c:Nat) (hc:c<256) (w:World):Calls prog 158 #[.int .u64 v,.int .u8 c] w fun e w'=>w=w'∧e= .returned (.bool (Je v c)):=by
 by_cases h1:c=108
 ·subst h1
  go_enter func158,ntmps158
  go_wp2
  go_ret
  exact⟨rfl,rfl⟩
 ·have h1':((c:Int)==108)=false:=by simp;omega
  by_cases h2:c=119
  ·subst h2
   by_cases hv:v<4294967296
   ·have hq:((v:Int)/4294967296==0)=true:=by simp;omega
    have HF:=AA (show Je v 119=true by simp [Je,hv])
    clear h1 h1'
    go_enter func158,ntmps158
    go_wp2
    go_ret
    exact⟨rfl,by rw [HF.out];rfl⟩
   ·have hq:((v:Int)/4294967296==0)=false:=by simp;omega
    have HF:=AA (show Je v 119=false by simp [Je,hv])
    clear h1 h1'
    go_enter func158,ntmps158
    go_wp2
    go_ret
    exact⟨rfl,by rw [HF.out];rfl⟩
  ·have h2':((c:Int)==119)=false:=by simp;omega
   have HF:=AA (show Je v c=false by simp [Je,h1,h2])
   clear h1 h2
   go_enter func158,ntmps158
   go_wp2
   go_ret
   exact⟨rfl,by rw [HF.out];rfl⟩
def yL (l l':List Int) (w:World) (n:Nat) (i:Value) (wr:World):Prop:=
 ∃k m:Nat,k≤n∧i= .int .i64 k∧wr=w.drewN m∧l.take k=l'.take k
theorem sS (A A':Option Addr) (n n' c c' B B':Nat) (w:World) (l l':List Int) (hn:n=l.length) (hn':n'=l'.length) (h47:n≤140737488351232) (hr:Row w B A (WB l)) (hr':Row w B' A' (WB l')):
 Calls prog 45 #[.slice A n c,.slice A' n' c'] w fun e w'=>(∃k,w'=w.drewN k)∧e= .returned (.bool (decide (l=l'))):=by
 by_cases hnn:n=n'
 ·subst hnn
  have Hr:=AA hr;clear hr
  have Hn:=AA hn;clear hn
  have Hr':=AA hr';clear hr'
  have TY:=AA hn';clear hn'
  go_enter func45,ntmps45
  go_wp2
  go_loopw [5] (fun i wr=>yL l l' w n i wr) (fun i _=>n-(intOf i).toNat)
  case atStart=>exact⟨0,0,by omega,rfl,rfl,rfl⟩
  case round=>
   obtain⟨k,m,hk,rfl,rfl,hR⟩:=hrel
   have HR:=AA hR;clear hR
   by_cases hlt:k<n
   ·obtain⟨b,o,rfl,_,hcell⟩:=UW Hr.out (k:=k) (by rw [←Hn.out];exact hlt)
    obtain⟨b',o',rfl,_,hcell'⟩:=UW Hr'.out (k:=k) (by rw [←TY.out];exact hlt)
    have hi:(0:Int)≤k:=by omega
    have hlk:l[k]?=some (l[k]?.getD 0):=by rw [List.getElem?_eq_getElem (by rw [←Hn.out];exact hlt)];rfl
    have nJ:l'[k]?=some (l'[k]?.getD 0):=by rw [List.getElem?_eq_getElem (by rw [←TY.out];exact hlt)];rfl
    have yK:=AA hlk;clear hlk
    have aZ:=AA nJ;clear nJ
    by_cases hq:l[k]?.getD 0=l'[k]?.getD 0
    ·have HT:Hid (l.take (k+1)=l'.take (k+1)):=by
      have h1:=yK.out
      rw [hq,←aZ.out] at h1
      refine AA ?_
      rw [List.take_add_one,List.take_add_one,HR.out,h1]
     rw [hq] at hcell
     clear hq yK aZ
     generalize l'[k]?.getD 0=x at*
     have hne:(x !=x)=false:=by simp
     go_wp2
     go_quiet (fail)
     go_wp2
     exact⟨⟨k+1,m+nq,by omega,by go_num,rfl,HT.out⟩,by simp [intOf];omega⟩
    ·have hF:Hid (decide (l=l')=false):=by
      refine AA (decide_eq_false fun h=>hq ?_)
      rw [h]
     have hq':l[k]?.getD 0≠l'[k]?.getD 0:=hq
     clear hq yK aZ
     generalize l'[k]?.getD 0=x at*
     generalize l[k]?.getD 0=y at*
     have hne:(y !=x)=true:=by simp;omega
     clear hq'
     go_wp2
     go_quiet (fail)
     go_wp2
     go_ret
     exact⟨⟨m+nq,World.drewN_drewN _ _ _⟩,by rw [hF.out];rfl⟩
   ·obtain rfl:k=n:=by omega
    have hT:Hid (decide (l=l')=true):=by
     have:=HR.out
     rw [List.take_of_length_le (by rw [Hn.out];exact Nat.le_refl _),List.take_of_length_le (by rw [TY.out];exact Nat.le_refl _)] at this
     exact AA (decide_eq_true this)
    go_wp2
    go_ret
    exact⟨⟨_,rfl⟩,by rw [hT.out];rfl⟩
 ·have hF:Hid (decide (l=l')=false):=AA (decide_eq_false fun h=>hnn (by rw [hn,hn',h]))
  have hne:((n:Int) !=n')=true:=by simp;omega
  clear hr hr' hn hn'
  go_enter func45,ntmps45
  go_wp2
  go_ret
  exact⟨⟨0,rfl⟩,by rw [hF.out];rfl⟩
end Go.Proofs.YtejbcledkhioeaaGreatDoor
