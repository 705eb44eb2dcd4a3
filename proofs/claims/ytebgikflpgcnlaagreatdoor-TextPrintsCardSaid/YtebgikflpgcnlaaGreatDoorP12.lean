/- Part 12 of the proof: AppB ModA ModB ModC ModD ModE ModF ModG -/
import Derived.ArgAppend
import Derived.Defers
import Derived.Recover
import Derived.Deep.DrawnRows
import Derived.Deep.RegionHeldLaw
import Derived.Deep.RegionHeld3
import Derived.RegionDies
import Derived.Test.YtebgikflpgcnlaaGreatDoorP08
import Derived.Test.YtebgikflpgcnlaaGreatDoorP11
namespace Go.Proofs.YtebgikflpgcnlaaGreatDoor
set_option linter.unusedVariables false
set_option linter.unusedSimpArgs false
set_option maxRecDepth 100000
set_option maxHeartbeats 4000000
open Go.RowKit Tryz
def O9 (w:World) (base:Nat) (e:TypeId) (v:Value) (n:Nat) (xs:List Value):Prop:=
 w.ownsRow base e 1 v n xs∨ ∃g fz,v= .slice (some ⟨g,0,none⟩) n n∧base≤g∧w.heap[g]?=some (.cells xs.toArray e fz)∧xs.length=n
section
variable {w w':World} {base:Nat} {e:TypeId} {v:Value} {n:Nat} {xs:List Value} {K:Nat→Prop}
theorem O9.lt (h:O9 w base e v n xs): ∀k,v.ownBlock=some k→base≤k∧k<w.heap.size:=by
 rcases h with h | ⟨g,fz,rfl,hb,hg,hl⟩
 ·exact h.lt
 ·intro k hk
  injection hk with hk
  have hk:g=k:=hk
  subst hk
  exact⟨hb,(Array.getElem?_eq_some_iff.1 hg).1⟩
theorem O9.Iz (h:O9 w base e v n xs) (hk:Keep K w w') (hg: ∀k,v.ownBlock=some k→K k):O9 w' base e v n xs:=by
 rcases h with h | ⟨g,fz,rfl,hb,hh,hl⟩
 ·exact .inl (Me h hk hg)
 ·exact .inr ⟨g,fz,rfl,hb,(hk.block g (Array.getElem?_eq_some_iff.1 hh).1 (hg g rfl)).trans hh,hl⟩
theorem O9.uH (h:O9 w base e v n xs) (hb:Below w.heap.size w w'):O9 w' base e v n xs:=
 h.Iz (K:=fun _=>True) (Keep.Am hb) fun _ _=>trivial
theorem O9.uI (h:O9 w base e v n xs) {p:Addr} (hp:v.ownBlock≠some p.block) (u:Value):O9 (w.setCell p u) base e v n xs:=
 h.Iz (K:=fun k=>k≠p.block) ((Keep.refl _ _).setCell (by simp) u) (fun k hk e=>hp (by rw [hk,e]))
theorem O9.alloc (h:O9 w base e v n xs) (o:Obj):O9 (w.alloc o) base e v n xs:=
 h.uH ((Below.refl _ _).alloc (Nat.le_refl _) _)
end
theorem dQ {P:Program} (w:World) (base:Nat) (t ty e:TypeId) (i:TypeInfo) (z:Value) (bytes:Nat) (ht:P.underlying t=some (.slice e)) (hi:P.info? e=some i) (hz:i.zero=some z)
 (hsize:i.size=1) (hby:i.bytes=bytes) (hzs:z.cells.size=1)
 (v:Value) (n:Nat) (xs:List Value) (hown:O9 w base e v n xs)
 (B:Nat) (A:Option Addr) (m c:Nat) (news:List Value) (hm0:0<m) (hm:news.length=m*1) (hr:Row w B A news) (h1: ∀u∈news,u.oneCell'=true)
 (h63:n+m≤maxLen) (hbytes:(n+m)*bytes≤140737488355328) (hbase:base≤w.heap.size):
 ∃v' w',(Builtin.append_ #[t,t] ty #[v,.slice A m c]).run P w= .ok v' w'∧w'.ownsRow base e 1 v' (n+m) (xs++news)∧w.grownBy w' v.ownBlock∧
  (v'.ownBlock=v.ownBlock∨v'.ownBlock=some w.heap.size):=by
 rcases hown with hown | ⟨g,fz,rfl,hb,hh,hl⟩
 ·exact Wm w base t ty e i z 1 bytes ht hi hz hsize hby hzs (by omega) v n xs hown B A m c news hm hr h1 h63 hbytes hbase
 ·obtain⟨b,o,rfl,_,hc⟩:=hr (by omega)
  obtain⟨v',w',hrun,r1,r2⟩:=run_append_arg_grows (P:=P) w t ty e i z 1 bytes ht hi hz hsize hby hzs (by omega) ⟨g,0,none⟩ n n xs (by omega) (fun j u hj=>by
   rw [Addr.add_lit,Nat.zero_add]
   simp only [World.cell?,hh]
   simp [hj]) ⟨b,o,none⟩ m c news hm (fun j u hj=>by rw [Addr.add_lit];exact hc j u hj) (by omega) h63 hbytes
  refine⟨v',w',hrun,r1.mono hbase,⟨r2.os,r2.tape,r2.output,r2.size,fun k h1 _=>r2.block k h1 (by simp)⟩,.inr ?_⟩
  have hr2:=run_append_grow (P:=P) w t ty e i z ht hi hz ⟨g,0,none⟩ n n xs (by rw [hsize];omega) (fun j u hj=>by
   rw [Addr.add_lit,Nat.zero_add]
   simp only [World.cell?,hh]
   simp [hj]) ⟨b,o,none⟩ m c news (by rw [hsize];exact hm) (fun j u hj=>by rw [Addr.add_lit];exact hc j u hj) (by omega) (by unfold maxLen at h63;omega) (by rw [hby];exact growslice_fits (by omega) hbytes)
  rw [hr2] at hrun
  injection hrun with e1 e2
  rw [←e1]
  rfl
theorem VJ {P:Program} (w:World) {ops:Array Oper} {rest:List Oper} {o:Oper} {a:Act} {Q:Exit→Act→World→Prop} (hgd:o.guard=none) (s x:Operand) (t:TypeId)
 (ho:o.op= .call {callee:= .builtin .append,args:= #[s,x],argTypes:= #[t,t]})
 (base:Nat) (e:TypeId) (i:TypeInfo) (z:Value) (bytes:Nat) (ht:P.underlying t=some (.slice e)) (hi:P.info? e=some i) (hz:i.zero=some z)
 (hsize:i.size=1) (hby:i.bytes=bytes) (hzs:z.cells.size=1)
 (v:Value) (n:Nat) (xs:List Value) (hs:a.eval s=v) (hown:O9 w base e v n xs)
 (B:Nat) (A:Option Addr) (m c:Nat) (news:List Value) (hm0:0<m) (hx:a.eval x= .slice A m c) (hm:news.length=m*1) (hr:Row w B A news) (h1: ∀u∈news,u.oneCell'=true)
 (h63:n+m≤maxLen) (hbytes:(n+m)*bytes≤140737488355328) (hbase:base≤w.heap.size)
 (h: ∀A' c' w',w'.ownsRow base e 1 (.slice A' (n+m) c') (n+m) (xs++news)→w.grownBy w' v.ownBlock→((Value.slice A' (n+m) c').ownBlock=v.ownBlock∨(Value.slice A' (n+m) c').ownBlock=some w.heap.size)→wpList P ops Q rest (a.put o.dst (.slice A' (n+m) c')) w'):wpList P ops Q (o::rest) a w:=by
 refine wpList_plain hgd fun _ hK=> ?_
 obtain⟨v',w',hrun,h2,h3,h4⟩:=dQ (P:=P) w base t o.type e i z bytes ht hi hz hsize hby hzs v n xs hown B A m c news hm0 hm hr h1 h63 hbytes hbase
 obtain⟨A',c',rfl⟩:=Nu h2
 unfold Oper.wp execOp
 simp only [ho,resolve,invoke,builtin,Sem.run_bind,Sem.run_pure,Result.andThen_ok,List.map_toArray,List.map_cons,List.map_nil,hs,hx,hrun]
 exact hK _ _ (h A' c' w' h2 h3 h4)
theorem RJ {P:Program} {ops:Array Oper} {o:Oper} {a:Act} {w:World} {K:Act→World→Prop} {Q:Exit→Act→World→Prop} {E:Prop}
 (hg:o.guard=none) (s x:Operand) (t:TypeId) (hop:o.op=Op.call {callee:=Callee.builtin Builtin.append,args:= #[s,x],argTypes:= #[t,t]})
 (base:Nat) (e:TypeId) (i:TypeInfo) (z:Value) (bytes:Nat) (ht:P.underlying t=some (.slice e)) (hi:P.info? e=some i) (hz:i.zero=some z)
 (hsize:i.size=1) (hby:i.bytes=bytes) (hzs:z.cells.size=1)
 (v:Value) (n:Nat) (xs:List Value) (hs:a.eval s=v) (hown:O9 w base e v n xs)
 (B:Nat) (A:Option Addr) (m c:Nat) (news:List Value) (hm0:0<m) (hx:a.eval x= .slice A m c) (hm:news.length=m*1) (hr:Row w B A news) (h1: ∀u∈news,u.oneCell'=true)
 (h63:n+m≤maxLen) (hbytes:(n+m)*bytes≤140737488355328) (hbase:base≤w.heap.size)
 (h: ∀A' c' w',w'.ownsRow base e 1 (.slice A' (n+m) c') (n+m) (xs++news)→w.grownBy w' v.ownBlock→((Value.slice A' (n+m) c').ownBlock=v.ownBlock∨(Value.slice A' (n+m) c').ownBlock=some w.heap.size)→K (a.put o.dst (.slice A' (n+m) c')) w'):
 if Region.wanted o (yielded ops a.tmps)=true then Oper.wp P o a w K Q else E:=by
 have hw:Region.wanted o (yielded ops a.tmps)=true:=by simp [Region.wanted,hg]
 rw [if_pos hw]
 obtain⟨v',w',hrun,h2,h3,h4⟩:=dQ (P:=P) w base t o.type e i z bytes ht hi hz hsize hby hzs v n xs hown B A m c news hm0 hm hr h1 h63 hbytes hbase
 obtain⟨A',c',rfl⟩:=Nu h2
 unfold Oper.wp
 simp [execOp,hop,resolve,invoke,builtin,hs,hx,hrun,Result.andThen]
 exact h A' c' w' h2 h3 h4
def fault (e at_:Int):Value:= .iface 152 (.agg #[.int .i64 e,.int .i64 at_])
def thrown (e at_:Int):List PanicEntry:= [{v:=fault e at_,recovered:=false}]
def Ends (err at_:Int) (e:Ending):Prop:=(err=0∧e= .returned (.tuple #[]))∨(err≠0∧e= .panicked (thrown err at_))
theorem Et (e at_:Int) (w:World):Calls prog 68 #[.bool true,.int .i64 e,.int .i64 at_] w fun en w'=>w=w'∧en= .returned (.tuple #[]):=by
 go_enter func68,ntmps68
 go_wp2
 go_end0
 exact⟨rfl,rfl⟩
theorem EU (e at_:Int) (w:World):Calls prog 68 #[.bool false,.int .i64 e,.int .i64 at_] w fun en w'=>w=w'∧en= .panicked (thrown e at_):=by
 go_enter func68,ntmps68
 go_wp2
 exact⟨rfl,rfl,rfl⟩
theorem JJ (b:Bool) (e at_:Int) (he:e≠0) (w:World):Calls prog 68 #[.bool b,.int .i64 e,.int .i64 at_] w fun en w'=>w=w'∧Ends (Ae b e) at_ en:=by
 cases b with
 | true=>exact(Et e at_ w).mono fun en w' h=>⟨h.1,.inl ⟨rfl,h.2⟩⟩
 | false=>exact(EU e at_ w).mono fun en w' h=>⟨h.1,.inr ⟨he,h.2⟩⟩
theorem dP (pe pa:Addr) (w:World):
 CallsD prog 62 #[.pointer (some pe),.pointer (some pa)] .returning w fun e u' w'=>e= .returned (.tuple #[])∧u'= .returning∧w'=w:=by
 refine callsD_of_wpS func62 rfl fun c₀ cs hu=> ?_
 apply wpS_seq
 apply wpS_region
 simp [wpOpsS,go_sem,recoverD,hu,ntmps62,Exit.thenS,Array.replicate]
 have Hu:=AA hu;clear hu
 refine wpS_of_wp ?_
 go_wp2_with fail
 simp [bodyPostS,results,results62,←Hu.out]
theorem Zw (v:Value) (W:World):(Instr.typeAssert (.iface 152 v) 20 152 true).run prog W= .ok (.tuple #[v,.bool true]) W:=by kernel_rfl
theorem QJ (err at_:Int) (ge ga:Nat) (e0 a0:Int) (w:World) (he:AV w ge 33 [.int .i64 e0]) (ha:AV w ga 3 [.int .i64 a0]) (hne:ge≠ga):
 CallsD prog 62 #[.pointer (some ⟨ge,0,none⟩),.pointer (some ⟨ga,0,none⟩)] (.panicking (thrown err at_)) w fun e u' w'=>
  e= .returned (.tuple #[])∧u'= .panicking [{v:=fault err at_,recovered:=true}]∧Keep (fun k=>k≠ge∧k≠ga) w w'∧AV w' ge 33 [.int .i64 err]∧AV w' ga 3 [.int .i64 at_]:=by
 refine callsD_of_wpS func62 rfl fun c₀ cs hu=> ?_
 apply wpS_seq
 apply wpS_region
 simp [wpOpsS,go_sem,recoverD,hu,ntmps62,Exit.thenS,thrown,Array.replicate]
 have Hu:=AA hu;clear hu
 refine wpS_of_wp ?_
 have He:=AA he;have Ha:=AA ha
 have hge:=he.lt
 have hga:=ha.lt
 have hc1:=he.q 0 rfl
 have hc2:=ha.q 0 rfl
 have hf1:=he.frozen 0
 have hf2:=ha.frozen 0
 clear he ha
 unfold fault
 have has:=Zw (.agg #[.int .i64 err,.int .i64 at_])
 go_wp2_with fail
 go_region
 all_goals go_wp2_with fail
 have hk:Keep (fun k=>k≠ge∧k≠ga) w ((((w.setCell ⟨ge,0,none⟩ (.int .i64 err)).setCell ⟨ga,0,none⟩ (.int .i64 at_)).alloc (.cells #[.int .i64 err,.int .i64 at_] 152)).drew):=
  ((((Keep.refl _ w).setCell (p:=⟨ge,0,none⟩) (by simp) _).setCell (p:=⟨ga,0,none⟩) (by simp) _).alloc _).drew
 have hb1:AV ((((w.setCell ⟨ge,0,none⟩ (.int .i64 err)).setCell ⟨ga,0,none⟩ (.int .i64 at_)).alloc (.cells #[.int .i64 err,.int .i64 at_] 152)).drew) ge 33 [.int .i64 err]:=
  (((He.out.set 0 (.int .i64 err)).far (p:=⟨ga,0,none⟩) hne _).alloc _).drewN 1
 have hb2:AV ((((w.setCell ⟨ge,0,none⟩ (.int .i64 err)).setCell ⟨ga,0,none⟩ (.int .i64 at_)).alloc (.cells #[.int .i64 err,.int .i64 at_] 152)).drew) ga 3 [.int .i64 at_]:=
  (((Ha.out.far (p:=⟨ge,0,none⟩) (Ne.symm hne) _).set 0 (.int .i64 at_)).alloc _).drewN 1
 refine⟨rfl,_,rfl,.tuple #[],?_,rfl,rfl,hk,hb1,hb2⟩
 simp [results,results62]
theorem Oq (u:FrameMode) (ge gb:Nat) (e0:Int) (v:Value) (w:World) (he:AV w ge 33 [.int .i64 e0]) (hb:AV w gb 41 [v]):
 CallsD prog 65 #[.pointer (some ⟨ge,0,none⟩),.pointer (some ⟨gb,0,none⟩)] u w fun e u' w'=>
  u'=u∧(e= .returned (.tuple #[])∧Keep (fun k=>k≠gb) w w'∧AV w' gb 41 [if e0=0 then v else .slice none 0 0]):=by
 have He:=AA he;have Hb:=AA hb
 have hge:=he.lt
 have hgb:=hb.lt
 have hc1:=he.q 0 rfl
 have hc2:=hb.q 0 rfl
 have hf2:=hb.frozen 0
 clear he hb
 by_cases h0:e0=0
 ·subst h0
  go_enter_d func65,ntmps65
  go_wp2_with fail
  go_end0
  exact⟨rfl,Keep.refl _ _,Hb.out⟩
 ·have hne:(e0 !=0)=true:=by simpa using h0
  rw [if_neg h0]
  go_enter_d func65,ntmps65
  go_wp2_with fail
  go_end0
  exact⟨rfl,(Keep.refl _ _).setCell (by simp) _,Hb.out.set 0 _⟩
structure zF (W:World) (base g:Nat) (K:Nat→Prop) (mp:Value) (all:Int) (l:List UInt8) (A:Option Addr) (c:Nat):Prop where
 blk:AV W g 124 [mp,.int .i64 all,.slice A l.length c]
 own:O9 W base 5 (.slice A l.length c) l.length (l.map bv)
 low:base≤g
 kg: ¬K g
 apart: ∀k,(Value.slice A l.length c).ownBlock=some k→ ¬K k∧k≠g
 lt: ∀k,K k→k<W.heap.size
def Wr (W:World) (base g:Nat) (K:Nat→Prop) (mp:Value) (all:Int) (l:List UInt8):Prop:= ∃A c,zF W base g K mp all l A c
section
variable {W W':World} {base g:Nat} {K:Nat→Prop} {mp:Value} {all:Int} {l:List UInt8} {A:Option Addr} {c:Nat}
theorem zF.K7 (h:zF W base g K mp all l A c) (hb:Below W.heap.size W W'):zF W' base g K mp all l A c:=
 ⟨h.blk.below hb h.blk.lt,h.own.uH hb,h.low,h.kg,h.apart,fun k hk=>Nat.lt_of_lt_of_le (h.lt k hk) hb.size⟩
theorem Wr.K7 (h:Wr W base g K mp all l) (hb:Below W.heap.size W W'):Wr W' base g K mp all l:=let ⟨A,c,h⟩:=h;⟨A,c,h.K7 hb⟩
theorem zF.put (h:zF W base g K mp all l A c) {news:List UInt8} {A':Option Addr} {c' m:Nat} (hm:m=news.length) (hg:W.grownBy W' (Value.slice A l.length c).ownBlock)
 (ho:W'.ownsRow base 5 1 (.slice A' (l.length+m) c') (l.length+m) (l.map bv++news.map bv))
 (hb:(Value.slice A' (l.length+m) c').ownBlock=(Value.slice A l.length c).ownBlock∨(Value.slice A' (l.length+m) c').ownBlock=some W.heap.size):
 Keep K W (W'.setCell ⟨g,2,none⟩ (.slice A' (l.length+m) c'))∧Wr (W'.setCell ⟨g,2,none⟩ (.slice A' (l.length+m) c')) base g K mp all (l++news):=by
 subst hm
 have hgl:=h.blk.lt
 have hap: ∀k,(Value.slice A' (l.length+news.length) c').ownBlock=some k→ ¬K k∧k≠g:=fun k hk=>by
  rcases hb with e | e
  ·exact h.apart k (e▸hk)
  ·rw [e] at hk;injection hk with hk;subst hk
   exact⟨fun hK=>by have:=h.lt _ hK;omega,by omega⟩
 have hblk:AV W' g 124 [mp,.int .i64 all,.slice A l.length c]:=(hg.block g hgl (fun e=>(h.apart g e.symm).2 rfl)).trans h.blk
 refine⟨((Keep.refl K W).grown hg (fun k hk=>(h.apart k hk).1)).setCell h.kg _,A',c',⟨?_,?_,h.low,h.kg,?_,fun k hk=> ?_⟩⟩
 ·rw [List.length_append];exact hblk.set 2 _
 ·rw [List.length_append,List.map_append]
  exact .inl (OD ho (fun e=>(hap g e).2 rfl) _)
 ·rw [List.length_append];exact hap
 ·have h1:=h.lt k hk
  have h2:=hg.size
  simp [World.setCell];omega
end
def Qy (err:Int) (e:Ending) (P:Prop):Prop:=(err=0∧e= .returned (.tuple #[])∧P)∨(err≠0∧e= .panicked (thrown err 0))
theorem Uo (n:Nat) (hn:n<9223372036854775808) (base g:Nat) (K:Nat→Prop) (mp:Value) (all:Int) (l:List UInt8) (w:World) (h:Wr w base g K mp all l) (hl:l.length≤1099511627776) (hbase:base≤w.heap.size):
 Calls prog 119 #[.pointer (some ⟨g,0,none⟩),.int .i64 n] w fun e w'=>e= .returned (.tuple #[])∧Keep K w w'∧Wr w' base g K mp all (l++enc n):=by
 obtain⟨A,c,h⟩:=h
 have H:=AA h
 have hc0:=h.blk.q 2 rfl
 have hlt:=h.blk.lt
 have hf:=h.blk.frozen 2
 have henc:=Ag n (by omega)
 have hwr:IntKind.u64.wrap (n:Int)=(n:Int):=by rw [IntKind.wrap_u64];omega
 clear h
 obtain⟨i0,hi0,hz,hs',hby⟩:=info_parts G8
 go_enter func119,ntmps119
 go_wp2_with fail
 go_region_law
  (first
   | (go_simp;go_at_call 159;refine(Nv n (by omega) _).mono ?_;rintro e w1 ⟨A1,c1,rfl,h2,h3⟩;have hb1:Below w.heap.size w w1:=⟨h3.os,h3.tape,h3.output,h3.size,h3.block⟩;have HR:=AA (Row.own h2);have H1:=AA (H.out.K7 hb1);have HB1:=AA hb1;have uJ:Hid (Keep K w w1):=AA (Keep.Am hb1);have hc1:=H1.out.blk.q 2 rfl;have hf1:=H1.out.blk.frozen 2;clear h2 h3 hb1)
   | (refine RJ rfl (.tmp 8) (.tmp 11) 41 rfl base 5 i0 _ 1 underlying41 hi0 hz hs' hby rfl _ l.length (l.map bv) rfl (by exact H1.out.own) _ A1 (enc n).length c1 ((enc n).map bv) (Dv n) rfl (by rw [List.length_map,Nat.mul_one]) (by exact HR.out) (LC _) (by unfold maxLen;omega) (by omega) (Nat.le_trans hbase HB1.out.size) ?_;intro A4 c4 w4 h2 h3 h4;have HP:=AA (H1.out.put rfl h3 h2 h4);have Y1:=(EB h3 H1.out.blk (fun e=>(H1.out.apart g e).2 rfl)).frozen 2;have hc4:=(EB h3 H1.out.blk (fun e=>(H1.out.apart g e).2 rfl)).cell 2;clear h2 h3 h4))
 all_goals
  go_end0
  exact⟨rfl,uJ.out.trans HP.out.1,HP.out.2⟩
theorem zG (s:ByteArray) (h47:s.size≤70368744177664) (base g:Nat) (K:Nat→Prop) (mp:Value) (all:Int) (l:List UInt8) (w:World) (h:Wr w base g K mp all l) (hl:l.length≤1099511627776) (hbase:base≤w.heap.size):
 Calls prog 115 #[.pointer (some ⟨g,0,none⟩),.string s] w fun e w'=>e= .returned (.tuple #[])∧Keep K w w'∧Wr w' base g K mp all (l++JH s):=by
 obtain⟨A,c,h⟩:=h
 have H:=AA h
 have hc0:=h.blk.q 2 rfl
 have hlt:=h.blk.lt
 have hf:=h.blk.frozen 2
 have henc:(JH s).length=(enc s.size).length+s.size:=by unfold JH;rw [List.length_append];simp
 have henc2:=Ag s.size (by omega)
 clear h
 obtain⟨i0,hi0,hz,hs',hby⟩:=info_parts G8
 go_enter func115,ntmps115
 go_wp2_with fail
 go_region_law
  (first
   | (go_simp;go_at_call 157;refine(nY s h47 _).mono ?_;rintro e w1 ⟨A1,c1,rfl,h2,h3⟩;have hb1:Below w.heap.size w w1:=⟨h3.os,h3.tape,h3.output,h3.size,h3.block⟩;have HR:=AA (Row.own h2);have H1:=AA (H.out.K7 hb1);have HB1:=AA hb1;have uJ:Hid (Keep K w w1):=AA (Keep.Am hb1);have hc1:=H1.out.blk.q 2 rfl;have hf1:=H1.out.blk.frozen 2;clear h2 h3 hb1)
   | (refine RJ rfl (.tmp 8) (.tmp 10) 41 rfl base 5 i0 _ 1 underlying41 hi0 hz hs' hby rfl _ l.length (l.map bv) rfl (by exact H1.out.own) _ A1 ((enc s.size).length+s.size) c1 ((enc s.size++s.data.toList).map bv) (by have:=Dv s.size;omega) rfl (by rw [List.length_map,Nat.mul_one,List.length_append];simp) (by exact HR.out) (LC _) (by unfold maxLen;omega) (by omega) (Nat.le_trans hbase HB1.out.size) ?_;intro A4 c4 w4 h2 h3 h4;have HP:=AA (H1.out.put henc.symm h3 h2 h4);have Y1:=(EB h3 H1.out.blk (fun e=>(H1.out.apart g e).2 rfl)).frozen 2;have hc4:=(EB h3 H1.out.blk (fun e=>(H1.out.apart g e).2 rfl)).cell 2;clear h2 h3 h4))
 all_goals
  go_end0
  exact⟨rfl,uJ.out.trans HP.out.1,HP.out.2⟩
theorem uK (n most:Nat) (hn:n<9223372036854775808) (base g:Nat) (K:Nat→Prop) (mp:Value) (all:Int) (l:List UInt8) (w:World) (h:Wr w base g K mp all l) (hl:l.length≤1099511627776) (hbase:base≤w.heap.size):
 Calls prog 113 #[.pointer (some ⟨g,0,none⟩),.int .i64 n,.int .i64 most] w fun e w'=>Keep K w w'∧Qy (Ae (decide (n≤most)) 20) e (Wr w' base g K mp all (l++enc n)):=by
 have H:=AA h;clear h
 go_enter func113,ntmps113
 go_wp2_with fail
 refine(JJ _ 20 0 (by decide) _).mono ?_
 rintro e w1 ⟨rfl,⟨h0,rfl⟩ | ⟨h0,rfl⟩⟩
 ·have H0:=AA h0;clear h0
  go_wp2_with fail
  refine(Uo n hn base g K mp all l _ H.out hl hbase).mono ?_
  rintro e w1 ⟨rfl,hk,hw⟩
  have HK:=AA hk;have HW:=AA hw;clear hk hw
  go_wp2_with fail
  go_end0
  exact⟨HK.out,.inl ⟨H0.out,rfl,HW.out⟩⟩
 ·have H0:=AA h0;clear h0
  go_wp2_with fail
  exact⟨rfl,Keep.refl _ _,.inr ⟨H0.out,rfl⟩⟩
theorem uL (n:Int) (below:Nat) (hn:n<9223372036854775808) (base g:Nat) (K:Nat→Prop) (mp:Value) (all:Int) (l:List UInt8) (w:World) (h:Wr w base g K mp all l) (hl:l.length≤1099511627776) (hbase:base≤w.heap.size):
 Calls prog 116 #[.pointer (some ⟨g,0,none⟩),.int .i64 n,.int .i64 below] w fun e w'=>Keep K w w'∧Qy (Ae (decide (0≤n∧n<below)) 30) e (Wr w' base g K mp all (l++enc n.toNat)):=by
 have H:=AA h;clear h
 by_cases h0:n<0
 ·have hE:Hid (Ae (decide (0≤n∧n<below)) 30=30):=AA (ET (decide_eq_false (by omega)))
  have d:decide (0≤n)=false:=decide_eq_false (by omega)
  clear h0
  go_enter func116,ntmps116
  go_wp2_with fail
  refine(EU 30 0 _).mono ?_
  rintro e w1 ⟨rfl,rfl⟩
  go_wp2_with fail
  exact⟨rfl,Keep.refl _ _,.inr ⟨by rw [hE.out];decide,by rw [hE.out]⟩⟩
 obtain⟨k,rfl⟩:=Int.eq_ofNat_of_zero_le (show 0≤n by omega)
 have hE:Hid (Ae (decide (0≤(k:Int)∧(k:Int)<below)) 30=Ae (decide (k<below)) 30):=AA (by congr 1;exact decide_eq_decide.2 (by omega))
 have hk0:(0:Int)≤k:=by omega
 clear h0
 go_enter func116,ntmps116
 go_wp2_with fail
 refine(JJ _ 30 0 (by decide) _).mono ?_
 rintro e w1 ⟨rfl,⟨h0,rfl⟩ | ⟨h0,rfl⟩⟩
 ·have H0:=AA h0;clear h0
  go_wp2_with fail
  refine(Uo k (by omega) base g K mp all l _ H.out hl hbase).mono ?_
  rintro e w1 ⟨rfl,hk,hw⟩
  have HK:=AA hk;have HW:=AA hw;clear hk hw
  go_wp2_with fail
  go_end0
  exact⟨HK.out,.inl ⟨by rw [hE.out];exact H0.out,rfl,HW.out⟩⟩
 ·have H0:=AA h0;clear h0
  go_wp2_with fail
  exact⟨rfl,Keep.refl _ _,.inr ⟨by rw [hE.out];exact H0.out,by rw [hE.out]⟩⟩
theorem R9 (v:Value) (s:ByteArray) (most:Int) (h47:s.size≤140737488351232) (w:World):
 Calls prog 114 #[v,.string s,.int .i64 most,.int .i64 0] w fun e w'=>Below w.heap.size w w'∧Ends (Dh s most) 0 e:=by
 go_enter func114,ntmps114
 go_wp2_with fail
 refine(JJ _ 13 0 (by decide) _).mono ?_
 rintro e w1 ⟨rfl,⟨h0,rfl⟩ | ⟨h0,rfl⟩⟩
 ·have H0:=AA h0;clear h0
  go_wp2_with fail
  refine(aZ s h47 _).mono ?_
  rintro e w1 ⟨h1,rfl⟩
  have H1:=AA h1;clear h1
  rw [show JK 256 s.data.toList=Sk s from rfl]
  go_wp2_with fail
  refine(JJ _ 15 0 (by decide) _).mono ?_
  rintro e w2 ⟨rfl,⟨h0,rfl⟩ | ⟨h0,rfl⟩⟩
  ·have H2:=AA h0;clear h0
   go_wp2_with fail
   go_end0
   exact⟨H1.out,.inl ⟨by unfold Dh;rw [AY H0.out];exact H2.out,rfl⟩⟩
  ·have H2:=AA h0;clear h0
   go_wp2_with fail
   have he:Dh s most=Ae (Sk s) 15:=by unfold Dh;rw [AY H0.out]
   exact⟨rfl,H1.out,.inr ⟨by rw [he];exact H2.out,by rw [he]⟩⟩
 ·have H0:=AA h0;clear h0
  go_wp2_with fail
  have he:Dh s most=Ae (decide ((s.size:Int)≤most)) 13:=by unfold Dh;rw [Dk H0.out]
  exact⟨rfl,Below.refl _ _,.inr ⟨by rw [he];exact H0.out,by rw [he]⟩⟩
theorem uM (x:Ep) (w:World):
 Calls prog 117 #[.agg #[bv x.l,.bool x.m,uv x.v],.int .i64 0] w fun e w'=>Below w.heap.size w w'∧Ends (Ae (JL x.v x.l.toNat) 17) 0 e:=by
 unfold bv uv
 go_enter func117,ntmps117
 go_wp2_with fail
 generalize hw:w.alloc _=w1
 have H1:Hid (Below w.heap.size w w1):=by rw [←hw];exact AA ((Below.refl _ _).alloc (Nat.le_refl _) _)
 clear hw
 refine(gG x.v x.l.toNat (UInt8.toNat_lt x.l) w1).mono ?_
 rintro e w2 ⟨rfl,rfl⟩
 go_wp2_with fail
 refine(JJ _ 17 0 (by decide) _).mono ?_
 rintro e w2 ⟨rfl,⟨h0,rfl⟩ | ⟨h0,rfl⟩⟩
 ·have H2:=AA h0;clear h0
  go_wp2_with fail
  go_end0
  exact⟨H1.out,.inl ⟨H2.out,rfl⟩⟩
 ·have H2:=AA h0;clear h0
  go_wp2_with fail
  exact⟨rfl,H1.out,.inr ⟨H2.out,rfl⟩⟩
structure zH (W:World) (base gs:Nat) (first:Int) (ts:List Dl) (T:Option Addr) (d:Nat):Prop where
 blk:AV W gs 29 [.slice T ts.length d,.slice none 0 0,.slice none 0 0,.int .i64 first,.int .i64 0,.slice none 0 0,.slice none 0 0,.slice none 0 0]
 own:W.ownsRow base 51 2 (.slice T ts.length d) ts.length (ts.flatMap Sj)
 ok: ∀x∈ts,Rd.U6 x.p∧Rd.U6 x.r
theorem Y9 {x y:Dl}:PL x y=true↔x=y:=by
 unfold PL
 rw [Bool.and_eq_true,decide_eq_true_iff,decide_eq_true_iff]
 constructor
 ·rintro⟨h1,h2⟩;cases x;cases y;simp_all
 ·rintro rfl;exact⟨rfl,rfl⟩
theorem kK {ts:List Dl} {x:Dl} {n:Nat} (h: ∀j y,j<n→ts[j]?=some y→y≠x):(ts.take n).any (fun y=>PL y x)=false:=by
 rw [List.any_eq_false]
 intro y hy he
 obtain⟨j,hj⟩:=List.getElem?_of_mem hy
 rw [List.getElem?_take] at hj
 split at hj
 ·rename_i hlt;exact h j y hlt hj (Y9.1 he)
 ·cases hj
theorem kL {ts:List Dl} {x:Dl} {n k:Nat} (h:ts[k]?=some x) (hk:k<n):(ts.take n).any (fun y=>PL y x)=true:=by
 rw [List.any_eq_true]
 exact⟨x,List.mem_of_getElem? (i:=k) (by rw [List.getElem?_take,if_pos hk];exact h),Y9.2 rfl⟩
theorem iJ {W:World} {base:Nat} {e:TypeId} {size:Nat} {A:Option Addr} {n c:Nat} {xs:List Value} (h:W.ownsRow base e size (.slice A n c) n xs):n≤c:=by
 rcases h.2 with⟨hv,h0⟩ | ⟨g,cap,cur,hv,_,_,hc,_⟩
 ·injection hv with h1 h2 h3;subst h2;omega
 ·injection hv with h1 h2 h3;omega
theorem uN (base g gs:Nat) (first:Int) (ts:List Dl) (T:Option Addr) (d n:Nat) (x:Dl) (w:World) (hg:w.cell? ⟨g,0,none⟩=some (.pointer (some ⟨gs,0,none⟩))) (hs:zH w base gs first ts T d)
 (hn:ts.length=n+1) (hx:ts[n]?=some x) (h47:n≤1000000):
 Calls prog 102 #[.pointer (some ⟨g,0,none⟩),.int .i64 0] w fun e w'=>Below w.heap.size w w'∧Ends (Ae (!(ts.take n).any (fun y=>PL y x)) 16) 0 e:=by
 have hr:=aW.reads hs.own rfl hs.ok
 rw [hn] at hr
 have Hr:=AA hr
 obtain⟨b,o,rfl,_,Kg,hx0,hx1,tX,tY⟩:=Ii hr hx
 have hc0:w.cell? ⟨gs,0,none⟩=some (.slice (some ⟨b,o,none⟩) (n+1) d):=by have:=hs.blk.cell 0;rw [hn] at this;exact this
 have Hx:=AA hx
 have hcap:n+1≤d:=by have:=iJ hs.own;omega
 have hcap':n≤d:=by omega
 clear hs hr hn hx tX tY
 go_enter func102,ntmps102
 go_wp2_with fail
 go_loopw [20] (fun i wr=> ∃k:Nat,k≤n∧i= .int .i64 k∧Below w.heap.size w wr∧ ∀j y,j<k→ts[j]?=some y→y≠x) (fun i _=>n-(intOf i).toNat)
 case atStart=>exact⟨0,Nat.zero_le _,rfl,Below.refl _ _,fun j y hj=>absurd hj (by omega)⟩
 case round=>
  obtain⟨k,hk,rfl,hbel,hall⟩:=hrel
  have Zx:=AA hall;have Hb:=AA hbel;clear hall hbel
  by_cases hlt:k<n
  ·have hlen:=D5 Hr.out
   obtain⟨y,hy⟩: ∃y,ts[k]?=some y:=⟨_,List.getElem?_eq_getElem (by omega)⟩
   obtain⟨b',o',he,_,_,hy0,hy1,_,_⟩:=Ii Hr.out hy
   injection he with he
   injection he with he1 he2
   subst he1 he2
   have Hy:=AA hy
   have ha0:=(Hb.out.cell (p:=⟨b,o+k*2,none⟩) Kg).trans hy0
   have ha1:=(Hb.out.cell (p:=⟨b,o+k*2+1,none⟩) Kg).trans hy1
   have hb0:=(Hb.out.cell (p:=⟨b,o+n*2,none⟩) Kg).trans hx0
   have hb1:=(Hb.out.cell (p:=⟨b,o+n*2+1,none⟩) Kg).trans hx1
   have hk0:(0:Int)≤k:=by omega
   clear hy hy0 hy1 hlen
   go_wp2_with fail
   generalize hw:wr.alloc _=w1
   have H1:Hid (Below w.heap.size w w1):=by rw [←hw];exact AA (Hb.out.alloc Hb.out.size _)
   have Hn1:Hid (AV w1 wr.heap.size 51 [.string y.p,.string y.r]):=by rw [←hw];exact AA (AV.new wr 51 [.string y.p,.string y.r])
   have hd0:=(H1.out.cell (p:=⟨b,o+n*2,none⟩) Kg).trans hx0
   have hd1:=(H1.out.cell (p:=⟨b,o+n*2+1,none⟩) Kg).trans hx1
   have hn0:=Hn1.out.q 0 rfl
   have hn1:=Hn1.out.q 1 rfl
   clear hw ha0 ha1 hb0 hb1
   have hi0:(0:Int)≤n:=by omega
   have hi1:(n:Int)<(n:Int)+1:=by omega
   have hi2:(n:Int)<((n+1:Nat):Int):=by omega
   have hw1:IntKind.i64.wrap (n:Int)=(n:Int):=by rw [IntKind.wrap_i64];omega
   have hw2:IntKind.i64.wrap ((n:Int)+1-1)=(n:Int):=by rw [IntKind.wrap_i64];omega
   by_cases h0:y.p=x.p
   case neg=>
    have HN:Hid (∀j z,j<k+1→ts[j]?=some z→z≠x):=AA (fun j z hj hz=>by
     by_cases hjk:j<k
     ·exact Zx.out j z hjk hz
     ·obtain rfl:j=k:=by omega
      rw [Hy.out] at hz
      injection hz with hz
      subst hz
      exact fun e=>h0 (by rw [e]))
    have hne:=Qv h0
    clear h0
    go_region_held3 (fun w'=>w'.cell? ⟨wr.heap.size,0,none⟩=some (.string y.p)∧w'.cell? ⟨wr.heap.size,1,none⟩=some (.string y.r)∧w'.cell? ⟨b,o+n*2,none⟩=some (.string x.p)∧w'.cell? ⟨b,o+n*2+1,none⟩=some (.string x.r)) (first | exact⟨hn0,hn1,hd0,hd1⟩)
     (first | (go_at_call 68;refine(Et 16 0 _).mono ?_;rintro e w' ⟨rfl,rfl⟩))
    go_wp2_with fail
    exact⟨⟨k+1,by omega,by go_num,below_drewN H1.out 1,HN.out⟩,by simp [intOf];omega⟩
   rw [h0] at hn0
   by_cases h1:y.r=x.r
   case neg=>
    have h0:=h1
    have HN:Hid (∀j z,j<k+1→ts[j]?=some z→z≠x):=AA (fun j z hj hz=>by
     by_cases hjk:j<k
     ·exact Zx.out j z hjk hz
     ·obtain rfl:j=k:=by omega
      rw [Hy.out] at hz
      injection hz with hz
      subst hz
      exact fun e=>h0 (by rw [e]))
    have hne:=Qv h0
    clear h0
    go_region_held3 (fun w'=>w'.cell? ⟨wr.heap.size,0,none⟩=some (.string x.p)∧w'.cell? ⟨wr.heap.size,1,none⟩=some (.string y.r)∧w'.cell? ⟨b,o+n*2,none⟩=some (.string x.p)∧w'.cell? ⟨b,o+n*2+1,none⟩=some (.string x.r)) (first | exact⟨hn0,hn1,hd0,hd1⟩)
     (first | (go_at_call 68;refine(Et 16 0 _).mono ?_;rintro e w' ⟨rfl,rfl⟩))
    go_wp2_with fail
    exact⟨⟨k+1,by omega,by go_num,below_drewN H1.out 1,HN.out⟩,by simp [intOf];omega⟩
   rw [h1] at hn1
   have HX:Hid (y=x):=AA (by cases y;cases x;simp_all)
   have hE:Hid (Ae (!(ts.take n).any (fun z=>PL z x)) 16=16):=AA (ET (by rw [kL (by rw [Hy.out,HX.out]) hlt];rfl))
   clear h0 h1
   go_region_dies
   all_goals
    refine(EU 16 0 _).mono ?_
    rintro e w' ⟨rfl,rfl⟩
    exact⟨rfl,below_drewN H1.out 1,.inr ⟨by rw [hE.out];decide,by rw [hE.out]⟩⟩
  ·obtain rfl:k=n:=by omega
   have hE:Hid (Ae (!(ts.take k).any (fun z=>PL z x)) 16=0):=AA (D_ (by rw [kK Zx.out];rfl))
   go_wp2_with fail
   go_end0
   exact⟨Hb.out,.inl ⟨hE.out,rfl⟩⟩
theorem zI (base g gs:Nat) (first:Int) (ts:List Dl) (T:Option Addr) (d t:Nat) (x:Dl) (w:World) (hg:w.cell? ⟨g,0,none⟩=some (.pointer (some ⟨gs,0,none⟩))) (hs:zH w base gs first ts T d)
 (hx:ts[t]?=some x) (hp:x.p.size≤1000000):
 Calls prog 120 #[.pointer (some ⟨g,0,none⟩),.int .i64 t] w fun e w'=>w'=w∧e= .returned (.int .i64 (64-x.p.size)):=by
 have hr:=aW.reads hs.own rfl hs.ok
 obtain⟨b,o,rfl,_,Kg,hx0,hx1,tX,tY⟩:=Ii hr hx
 have hlt:=(List.getElem?_eq_some_iff.1 hx).1
 have hc0:=hs.blk.q 0 rfl
 have ht0:(0:Int)≤t:=by omega
 have ht1:(t:Int)<ts.length:=by omega
 clear hs hr hx tX tY
 go_enter func120,ntmps120
 go_wp2_with fail
 go_ret
 exact⟨rfl,rfl⟩
theorem zF.all' {W:World} {base g:Nat} {K:Nat→Prop} {mp:Value} {all:Int} {l:List UInt8} {A:Option Addr} {c:Nat} (h:zF W base g K mp all l A c) (all':Int):
 Keep K W (W.setCell ⟨g,1,none⟩ (.int .i64 all'))∧zF (W.setCell ⟨g,1,none⟩ (.int .i64 all')) base g K mp all' l A c:=
 ⟨(Keep.refl _ _).setCell h.kg _,h.blk.set 1 _,h.own.uI (fun e=>(h.apart g e).2 rfl) _,h.low,h.kg,h.apart,fun k hk=>by have:=h.lt k hk;simp [World.setCell];omega⟩
theorem QK {p q:Prop} [Decidable p] [Decidable q] (e:Int) (h:p↔q):Ae (decide p) e=Ae (decide q) e:=by
 congr 1
 exact decide_eq_decide.2 h
theorem zJ (n:Nat) (hn:n≤2147483647) (base g:Nat) (K:Nat→Prop) (mp:Value) (all:Nat) (ha:all≤2147483647) (l:List UInt8) (w:World) (h:Wr w base g K mp all l):
 Calls prog 121 #[.pointer (some ⟨g,0,none⟩),.int .i64 n,.int .i64 0] w fun e w'=>Keep K w w'∧Qy (EO (Ae (decide (n≤2048)) 20) (Ae (decide (all+n≤16384)) 20)) e (Wr w' base g K mp ((all+n:Nat):Int) l):=by
 obtain⟨A,c,h⟩:=h
 have H:=AA h
 have hc1:=h.blk.q 1 rfl
 have hf:=h.blk.frozen 1
 have hnn:IntKind.i64.wrap ((all:Int)+n)=(all:Int)+n:=by rw [IntKind.wrap_i64];omega
 have E1:Hid (Ae (decide ((n:Int)≤2048)) 20=Ae (decide (n≤2048)) 20):=AA (QK 20 (by omega))
 have E2:Hid (Ae (decide ((all:Int)+n≤16384)) 20=Ae (decide (all+n≤16384)) 20):=AA (QK 20 (by omega))
 clear h
 go_enter func121,ntmps121
 go_wp2_with fail
 refine(JJ _ 20 0 (by decide) _).mono ?_
 rintro e w1 ⟨rfl,⟨h0,rfl⟩ | ⟨h0,rfl⟩⟩
 ·rw [E1.out] at h0
  have H0:=AA h0;clear h0
  go_wp2_with fail
  have HP:=AA (H.out.all' ((all:Int)+n))
  generalize w.setCell _ _=w2 at*
  refine(JJ _ 20 0 (by decide) _).mono ?_
  rintro e w1 ⟨rfl,⟨h0,rfl⟩ | ⟨h0,rfl⟩⟩
  ·rw [E2.out] at h0
   have H1:=AA h0;clear h0
   go_wp2_with fail
   go_end0
   refine⟨HP.out.1,.inl ⟨by rw [AY H0.out];exact H1.out,rfl,A,c,?_⟩⟩
   rw [Int.natCast_add]
   exact HP.out.2
  ·rw [E2.out] at h0⊢
   have H1:=AA h0;clear h0
   go_wp2_with fail
   exact⟨rfl,HP.out.1,.inr ⟨by rw [AY H0.out];exact H1.out,by rw [AY H0.out]⟩⟩
 ·rw [E1.out] at h0⊢
  have H0:=AA h0;clear h0
  go_wp2_with fail
  exact⟨rfl,Keep.refl _ _,.inr ⟨by rw [Dk H0.out];exact H0.out,by rw [Dk H0.out]⟩⟩
theorem nZ (base g gs:Nat) (first x:Int) (ts:List Dl) (T:Option Addr) (d:Nat) (A:Option Addr) (k c lo hi:Nat) (l:List EZ) (w:World) (hg:w.cell? ⟨g,0,none⟩=some (.pointer (some ⟨gs,0,none⟩))) (hs:zH w base gs first ts T d)
 (hr:(Kz.sl false).R w lo hi [.slice A k c] l) (hf0:0≤first) (hf1:first≤64) (hx: -9223372036854775808≤x∧x<9223372036854775808) (hok: ∀y∈l,0≤y.at_∧y.at_≤262144∧y.b.length≤262144) (hk:k≤1000000):
 Calls prog 110 #[.pointer (some ⟨g,0,none⟩),.int .i64 x,.slice A k c,.int .i64 0] w fun e w'=>Below w.heap.size w w'∧
  Ends (EO (Ae (decide (0≤x∧x≤first*4096)) 17) (if k=0 then 0 else match l[k-1]? with | none=>0 | some y=>Ae (decide (y.at_+y.b.length<x)) 18)) 0 e:=by
 generalize dU:EO _ _=EE
 have HE:=AA dU
 clear dU
 have Hr:=AA hr
 have hc3:=hs.blk.q 3 rfl
 have hlen:=D5 hr
 clear hs hr
 have hw:IntKind.i64.wrap (first*4096)=first*4096:=by rw [IntKind.wrap_i64];omega
 by_cases hx0:x<0
 ·have hE:Hid (Ae (decide (0≤x∧x≤first*4096)) 17=17):=AA (ET (decide_eq_false (by omega)))
  have d0:decide (0≤x)=false:=decide_eq_false (by omega)
  clear hx0 hlen
  go_enter func110,ntmps110
  go_wp2_with fail
  refine(EU 17 0 _).mono ?_
  rintro e w1 ⟨rfl,rfl⟩
  go_wp2_with fail
  have hX:EE=17:=by rw [←HE.out,hE.out,Dk (by decide)]
  exact⟨rfl,Below.refl _ _,.inr ⟨by rw [hX];decide,by rw [hX]⟩⟩
 have hx00:0≤x:=by omega
 have hE:Hid (Ae (decide (0≤x∧x≤first*4096)) 17=Ae (decide (x≤first*4096)) 17):=AA (QK 17 (by omega))
 clear hx0
 go_enter func110,ntmps110
 go_wp2_with fail
 refine(JJ _ 17 0 (by decide) _).mono ?_
 rintro e w1 ⟨rfl,⟨h0,rfl⟩ | ⟨h0,rfl⟩⟩
 ·rw [←hE.out] at h0
  have H0:=AA h0;clear h0
  by_cases hk0:k=0
  ·subst hk0
   go_wp2_with fail
   go_end0
   exact⟨Below.refl _ _,.inl ⟨by have:=HE.out;rw [AY H0.out] at this;simpa using this.symm,rfl⟩⟩
  ·obtain⟨y,hy⟩: ∃y,l[k-1]?=some y:=⟨_,List.getElem?_eq_getElem (by omega)⟩
   obtain⟨b,o,Sb,Rl,rfl,_,_,AA5,AEF,Lp,hb⟩:=Jd Hr.out hy
   have hyb:=hok y (List.mem_of_getElem? hy)
   have hS:Hid ((if k=0 then(0:Int) else match l[k-1]? with | none=>0 | some y=>Ae (decide (y.at_+y.b.length<x)) 18)=Ae (decide (y.at_+y.b.length<x)) 18):=AA (by rw [if_neg hk0,hy])
   obtain⟨j,rfl⟩: ∃j,k=j+1:=⟨k-1,by omega⟩
   have hj:j+1-1=j:=rfl
   rw [hj] at AA5 AEF
   have hj0:(0:Int)≤j:=by omega
   have hj1:(j:Int)<(j:Int)+1:=by omega
   have hj2:(j:Int)<((j+1:Nat):Int):=by omega
   have hjw:IntKind.i64.wrap (j:Int)=(j:Int):=by rw [IntKind.wrap_i64];omega
   have hjw2:IntKind.i64.wrap ((j:Int)+1-1)=(j:Int):=by rw [IntKind.wrap_i64];omega
   have hsw:IntKind.i64.wrap (y.at_+(y.b.length:Int))=y.at_+y.b.length:=by rw [IntKind.wrap_i64];omega
   have hk1:decide (0<(j:Int)+1)=true:=decide_eq_true (by omega)
   clear hy hyb hk0 hlen hok
   go_wp2_with fail
   have HT:Hid (EE=Ae (decide (y.at_+y.b.length<x)) 18):=AA (by rw [←HE.out,AY H0.out,hS.out])
   by_cases hlt:y.at_+(y.b.length:Int)<x
   ·have dl:decide (y.at_+(y.b.length:Int)<x)=true:=decide_eq_true hlt
    have HZ:Hid (EE=0):=AA (by rw [HT.out,dl];rfl)
    clear hlt
    go_region_held3 (fun w'=>w'.cell? ⟨b,o+j*2,none⟩=some (.int .i64 y.at_)∧w'.cell? ⟨b,o+j*2+1,none⟩=some (.slice Sb y.b.length Rl)) (first | exact⟨AA5,AEF⟩)
     (first | (go_at_call 68;refine(Et 18 0 _).mono ?_;rintro e w' ⟨rfl,rfl⟩))
    go_wp2_with fail
    go_end0
    exact⟨below_drewN (Below.refl _ _) 1,.inl ⟨HZ.out,rfl⟩⟩
   ·have dl:decide (y.at_+(y.b.length:Int)<x)=false:=decide_eq_false hlt
    have HZ:Hid (EE=18):=AA (by rw [HT.out,dl];rfl)
    clear hlt
    go_region_dies
    all_goals
     refine(EU 18 0 _).mono ?_
     rintro e w' ⟨rfl,rfl⟩
     exact⟨rfl,below_drewN (Below.refl _ _) 1,.inr ⟨by rw [HZ.out];decide,by rw [HZ.out]⟩⟩
 ·rw [←hE.out] at h0⊢
  have H0:=AA h0;clear h0
  go_wp2_with fail
  have hX:=HE.out
  rw [Dk H0.out] at hX
  exact⟨rfl,Below.refl _ _,.inr ⟨by rw [←hX];exact H0.out,by rw [←hE.out,hX]⟩⟩
theorem zK (t:TypeId) (a b:ByteArray):binOp .gtr t (.string a) (.string b)=pure (.bool (!(Sl a b))):=by simp [binOp,Op.stringOp,Sl]
theorem zL (t:TypeId) (a b:ByteArray):binOp .leq t (.string a) (.string b)=pure (.bool (Sl a b)):=by simp [binOp,Op.stringOp,Sl]
theorem ni (s:ByteArray) (h47:s.size≤140737488351232) (A:Option Addr) (n c lo hi:Nat) (l:List LA) (w:World) (hr:(M_.sl false).R w lo hi [.slice A n c] l) (hn:n≤1000000):
 Calls prog 112 #[.string s,.slice A n c,.int .i64 0] w fun e w'=>Below w.heap.size w w'∧Ends (EO (Qo s) (Ws l n s)) 0 e:=by
 generalize dU:EO _ _=EE
 have HE:=AA dU
 clear dU
 unfold Qo at HE
 have Hr:=AA hr
 have hlen:=D5 hr
 clear hr
 subst hlen
 have E1:Hid (Ae (decide ((s.size:Int)≤32)) 13=Ae (decide (s.size≤32)) 13):=AA (QK 13 (by omega))
 have hsz:s.data.toList.length=s.size:=by simp
 have lQ:=AA hsz;clear hsz
 go_enter func112,ntmps112
 go_wp2_with fail
 refine(JJ _ 13 0 (by decide) _).mono ?_
 rintro e w1 ⟨rfl,⟨h0,rfl⟩ | ⟨h0,rfl⟩⟩
 case inr=>
  rw [E1.out] at h0⊢
  have H0:=AA h0;clear h0
  go_wp2_with fail
  have hX:=HE.out
  rw [I6,Dk H0.out] at hX
  exact⟨rfl,Below.refl _ _,.inr ⟨by rw [←hX];exact H0.out,by rw [←hX]⟩⟩
 rw [E1.out] at h0
 have H0:=AA h0;clear h0
 by_cases hz:s.size=0
 ·have hs:s=ByteArray.empty:=by apply ByteArray.ext;apply Array.eq_empty_of_size_eq_zero;exact hz
  have hX:Hid (EE=23):=AA (by
   have hX:=HE.out
   rw [I6,AY H0.out,I6,hz] at hX
   exact hX.symm)
  subst hs
  go_wp2_with fail
  refine(EU 23 0 _).mono ?_
  rintro e w1 ⟨rfl,rfl⟩
  go_wp2_with fail
  exact⟨rfl,Below.refl _ _,.inr ⟨by rw [hX.out];decide,by rw [hX.out]⟩⟩
 have hne:s.toList.isEmpty=false:=by rw [ByteArray.toList_eq];cases h:s.data.toList with | nil=>exact absurd (by rw [←lQ.out,h];rfl) hz | cons a b=>rfl
 have HZ:Hid (EE=EO (Ae (s.data.toList.all Tg) 23) (Ws l l.length s)):=AA (by
  have hX:=HE.out
  rw [I6,AY H0.out,I6,AY (D_ (decide_eq_true (by omega)))] at hX
  exact hX.symm)
 clear hz HE
 go_wp2_with fail
 refine(Et 23 0 _).mono ?_
 rintro e w1 ⟨rfl,rfl⟩
 clear hne
 go_upto_block 0 with fail
 go_cut [] (fun wx=>wx=w∧Ae (s.data.toList.all Tg) 23=0)
 case first=>
  go_wp2_with fail
  go_loopw [18] (fun i wr=> ∃k:Nat,k≤s.size∧i= .int .i64 k∧wr=w∧(s.data.toList.drop k).all Tg=s.data.toList.all Tg) (fun i _=>s.size-(intOf i).toNat)
  case atStart=>exact⟨0,Nat.zero_le _,rfl,rfl,rfl⟩
  case round=>
   obtain⟨k,hk,rfl,rfl,hR⟩:=hrel
   have HR2:=AA hR;clear hR
   by_cases hlt:k<s.size
   ·have Hd:=AA (drop_at s.data.toList k (by rw [lQ.out];exact hlt))
    have hb:=byte_at s k hlt
    have Hb:=AA hb;clear hb
    have hk0:(0:Int)≤k:=by omega
    have hu8:(s.data.toList[k]?.getD 0).toNat<256:=UInt8.toNat_lt _
    have HR3:Hid ((Tg (s.data.toList[k]?.getD 0)&&(s.data.toList.drop (k+1)).all Tg)=s.data.toList.all Tg):=AA (by rw [←HR2.out,Hd.out];rfl)
    have hbn:(s[k]'hlt).toNat=(s.data.toList[k]?.getD 0).toNat:=congrArg UInt8.toNat Hb.out
    clear Hd HR2
    have hbad: ¬((32:Int)<((s[k]'hlt).toNat:Int)∧((s[k]'hlt).toNat:Int)<127)→EE=23:=fun h=>by
     have:Tg (s.data.toList[k]?.getD 0)=false:=by unfold Tg;exact decide_eq_false (by omega)
     have h2:=HR3.out
     rw [this] at h2
     rw [HZ.out,←h2];rfl
    have hgood:(32:Int)<((s[k]'hlt).toNat:Int)→((s[k]'hlt).toNat:Int)<127→(s.data.toList.drop (k+1)).all Tg=s.data.toList.all Tg:=fun h1 h2=>by
     have:Tg (s.data.toList[k]?.getD 0)=true:=by unfold Tg;exact decide_eq_true (by omega)
     rw [←HR3.out,this,Bool.true_and]
    have AEG:=AA hbad;have AEH:=AA hgood
    clear hbad hgood hbn HR3 Hb hu8
    by_cases hlo:(32:Int)<((s[k]'hlt).toNat:Int)
    case neg=>
     have hX:=AEG.out (fun h=>hlo h.1)
     have HX:=AA hX;clear hX
     go_wp2_with fail
     refine(EU 23 0 _).mono ?_
     rintro e w1 ⟨rfl,rfl⟩
     exact⟨rfl,Below.refl _ _,.inr ⟨by rw [HX.out];decide,by rw [HX.out]⟩⟩
    by_cases hhi2:((s[k]'hlt).toNat:Int)<127
    case neg=>
     have hX:=AEG.out (fun h=>hhi2 h.2)
     have HX:=AA hX;clear hX
     go_wp2_with fail
     refine(EU 23 0 _).mono ?_
     rintro e w1 ⟨rfl,rfl⟩
     exact⟨rfl,Below.refl _ _,.inr ⟨by rw [HX.out];decide,by rw [HX.out]⟩⟩
    have HG:=AA (AEH.out hlo hhi2)
    go_wp2_with fail
    refine(Et 23 0 _).mono ?_
    rintro e w1 ⟨rfl,rfl⟩
    go_wp2_with fail
    refine⟨⟨k+1,by omega,by go_num,?_,HG.out⟩,by simp [intOf];omega⟩
    first | exact trivial | rfl
   ·have hge: ¬(k:Int)<s.size:=by omega
    have HT:Hid (s.data.toList.all Tg=true):=AA (by rw [←HR2.out,List.drop_of_length_le (by rw [lQ.out];omega)];rfl)
    go_wp2_with fail
    go_meet
    exact⟨rfl,by rw [HT.out];rfl⟩
 case rest=>
  obtain⟨rfl,h23⟩:=hcut
  have HY:Hid (EE=Ws l l.length s):=AA (by rw [HZ.out,AY h23])
  clear h23 HZ
  by_cases h0:l.length=0
  ·have hX:Hid (EE=0):=AA (by rw [HY.out];unfold Ws;rw [if_pos h0])
   rw [h0]
   go_wp2_with fail
   refine(Et 18 0 _).mono ?_
   rintro e w1 ⟨rfl,rfl⟩
   go_wp2_with fail
   go_end0
   exact⟨Below.refl _ _,.inl ⟨hX.out,rfl⟩⟩
  ·obtain⟨y,hy⟩: ∃y,l[l.length-1]?=some y:=⟨_,List.getElem?_eq_getElem (by omega)⟩
   obtain⟨b,o,rfl,_,_,hc0,_,_,_⟩:=LB Hr.out hy
   have hX:Hid (EE=Ae (!(Sl s y.n)) 18):=AA (by rw [HY.out];unfold Ws;rw [if_neg h0,hy])
   obtain⟨j,hj⟩: ∃j,l.length=j+1:=⟨l.length-1,by omega⟩
   clear hy HY Hr h0
   generalize l.length=n at*
   subst hj
   have hjj:j+1-1=j:=rfl
   rw [hjj] at hc0
   have hj0:(0:Int)≤j:=by omega
   have hj1:(j:Int)<(j:Int)+1:=by omega
   have hj3: ¬((j:Int)+1=0):=by omega
   have hgt:=zK 9 s y.n
   have hj4:((j:Int)+1==0)=false:=by rw [beq_eq_false_iff_ne];omega
   generalize Sl s y.n=bb at*
   go_wp2_with fail
   refine(JJ _ 18 0 (by decide) _).mono ?_
   rintro e w1 ⟨rfl,⟨h0,rfl⟩ | ⟨h0,rfl⟩⟩
   ·have H0:=AA h0;clear h0
    go_wp2_with fail
    go_end0
    exact⟨Below.refl _ _,.inl ⟨by rw [hX.out];exact H0.out,rfl⟩⟩
   ·have H0:=AA h0;clear h0
    go_wp2_with fail
    exact⟨rfl,Below.refl _ _,.inr ⟨by rw [hX.out];exact H0.out,by rw [hX.out]⟩⟩
def KT (K:Nat→Prop) (gs:Nat) (v:Value) (k:Nat):Prop:=K k∨k=gs∨v.ownBlock=some k
def Hd (W:World) (base g gs:Nat) (K:Nat→Prop) (first all:Int) (ts:List Dl) (l:List UInt8):Prop:=
 ∃T d,zH W base gs first ts T d∧Wr W base g (KT K gs (.slice T ts.length d)) (.pointer (some ⟨gs,0,none⟩)) all l∧base≤gs∧ ¬K gs∧(∀k,(Value.slice T ts.length d).ownBlock=some k→ ¬K k∧k≠gs)
theorem zH.keep {W W':World} {base gs:Nat} {K:Nat→Prop} {first:Int} {ts:List Dl} {T:Option Addr} {d:Nat} (h:zH W base gs first ts T d) (hk:Keep (KT K gs (.slice T ts.length d)) W W'):zH W' base gs first ts T d:=
 ⟨h.blk.keep hk (.inr (.inl rfl)),Me h.own hk fun k hb=> .inr (.inr hb),h.ok⟩
section
variable {W W':World} {base g gs:Nat} {K:Nat→Prop} {first all all':Int} {ts:List Dl} {l l':List UInt8}
theorem Hd.K7 (h:Hd W base g gs K first all ts l) (hb:Below W.heap.size W W'):Hd W' base g gs K first all ts l:=by
 obtain⟨T,d,h1,h2,h3,h4,h5⟩:=h
 exact⟨T,d,h1.keep (K:=K) (Keep.Am hb),h2.K7 hb,h3,h4,h5⟩
theorem Hd.uO (h:Hd W base g gs K first all ts l):W.cell? ⟨g,0,none⟩=some (.pointer (some ⟨gs,0,none⟩)):=by
 obtain⟨T,d,h1,⟨A,c,h2⟩,_⟩:=h
 exact h2.blk.cell 0
theorem Hd.lt (h:Hd W base g gs K first all ts l):g<W.heap.size∧gs<W.heap.size:=by
 obtain⟨T,d,h1,⟨A,c,h2⟩,_⟩:=h
 exact⟨h2.blk.lt,h1.blk.lt⟩
theorem Hd.kg (h:Hd W base g gs K first all ts l): ¬K g∧ ¬K gs∧(∀k,K k→k<W.heap.size):=by
 obtain⟨T,d,h1,⟨A,c,h2⟩,_,h4,_⟩:=h
 exact⟨fun e=>h2.kg (.inl e),h4,fun k hk=>h2.lt k (.inl hk)⟩
end
theorem Hd.less {W:World} {base g gs:Nat} {K K':Nat→Prop} {first all:Int} {ts:List Dl} {l:List UInt8} (h:Hd W base g gs K' first all ts l) (hk: ∀k,K k→K' k):Hd W base g gs K first all ts l:=by
 obtain⟨T,d,h1,⟨A,c,h2⟩,h3,h4,h5⟩:=h
 have hm: ∀k,KT K gs (.slice T ts.length d) k→KT K' gs (.slice T ts.length d) k:=fun k h=>h.imp (hk k) id
 exact⟨T,d,h1,⟨A,c,h2.blk,h2.own,h2.low,fun e=>h2.kg (hm _ e),fun k hb=>⟨fun e=>(h2.apart k hb).1 (hm _ e),(h2.apart k hb).2⟩,fun k e=>h2.lt k (hm _ e)⟩,h3,fun e=>h4 (hk _ e),fun k hb=>⟨fun e=>(h5 k hb).1 (hk _ e),(h5 k hb).2⟩⟩
theorem Hd.box {w W:World} {base g gs:Nat} {K:Nat→Prop} {first all:Int} {ts:List Dl} {l:List UInt8} (h:Hd w base g gs K first all ts l) (hb:Below w.heap.size w W) (hl:w.heap.size<W.heap.size):Hd W base g gs (fun k=>K k∨k=w.heap.size) first all ts l:=by
 have h0:=h
 obtain⟨T,d,h1,⟨A,c,h2⟩,h3,h4,h5⟩:=h0
 have hg:=h2.blk.lt
 have hgs:=h1.blk.lt
 have h1':=h1.keep (K:=K) (Keep.Am hb)
 have h2':=h2.K7 hb
 refine⟨T,d,h1',⟨A,c,h2'.blk,h2'.own,h2'.low,?_,?_,?_⟩,h3,?_,?_⟩
 ·rintro((e | e) | e | e)
  ·exact h2.kg (.inl e)
  ·omega
  ·exact h2.kg (.inr (.inl e))
  ·exact h2.kg (.inr (.inr e))
 ·intro k hk
  refine⟨?_,(h2.apart k hk).2⟩
  have:=(h2.own.lt k hk).2
  rintro((e | e) | e | e)
  ·exact(h2.apart k hk).1 (.inl e)
  ·omega
  ·exact(h2.apart k hk).1 (.inr (.inl e))
  ·exact(h2.apart k hk).1 (.inr (.inr e))
 ·rintro k ((e | e) | e | e)
  ·have:=h2.lt k (.inl e);omega
  ·omega
  ·have:=h2.lt k (.inr (.inl e));omega
  ·have:=h2.lt k (.inr (.inr e));omega
 ·rintro(e | e)
  ·exact h4 e
  ·omega
 ·intro k hk
  have:=(h1.own.lt k hk).2
  exact⟨fun e=>e.elim (h5 k hk).1 (fun e=>by omega),(h5 k hk).2⟩
theorem Hd.of {w w':World} {base g gs:Nat} {K:Nat→Prop} {first all':Int} {ts:List Dl} {l':List UInt8} {T:Option Addr} {d:Nat} (h1:zH w base gs first ts T d) (h3:base≤gs) (h4: ¬K gs) (h5: ∀k,(Value.slice T ts.length d).ownBlock=some k→ ¬K k∧k≠gs)
 (hk:Keep (KT K gs (.slice T ts.length d)) w w') (hw:Wr w' base g (KT K gs (.slice T ts.length d)) (.pointer (some ⟨gs,0,none⟩)) all' l'):Keep K w w'∧Hd w' base g gs K first all' ts l':=
 ⟨hk.mono fun k hk=> .inl hk,T,d,h1.keep hk,hw,h3,h4,h5⟩
section
variable {base g gs:Nat} {K:Nat→Prop} {first:Int} {ts:List Dl} {l:List UInt8} {w:World}
theorem RL (n:Nat) (hn:n<9223372036854775808) {all:Int} (h:Hd w base g gs K first all ts l) (hl:l.length≤1099511627776) (hbase:base≤w.heap.size):
 Calls prog 119 #[.pointer (some ⟨g,0,none⟩),.int .i64 n] w fun e w'=>e= .returned (.tuple #[])∧Keep K w w'∧Hd w' base g gs K first all ts (l++enc n):=by
 obtain⟨T,d,h1,h2,h3,h4,h5⟩:=h
 exact(Uo n hn base g _ _ all l w h2 hl hbase).mono fun e w' ⟨he,hk,hw⟩=>⟨he,Hd.of h1 h3 h4 h5 hk hw⟩
theorem TP (s:ByteArray) (h47:s.size≤70368744177664) {all:Int} (h:Hd w base g gs K first all ts l) (hl:l.length≤1099511627776) (hbase:base≤w.heap.size):
 Calls prog 115 #[.pointer (some ⟨g,0,none⟩),.string s] w fun e w'=>e= .returned (.tuple #[])∧Keep K w w'∧Hd w' base g gs K first all ts (l++JH s):=by
 obtain⟨T,d,h1,h2,h3,h4,h5⟩:=h
 exact(zG s h47 base g _ _ all l w h2 hl hbase).mono fun e w' ⟨he,hk,hw⟩=>⟨he,Hd.of h1 h3 h4 h5 hk hw⟩
theorem Qy.of {w w':World} {err:Int} {e:Ending} {K1 K:Nat→Prop} {P Q:Prop} (hk:Keep K1 w w') (hm: ∀k,K k→K1 k) (h:Qy err e P) (hp:P→Q):Keep K w w'∧Qy err e Q:=
 ⟨hk.mono hm,h.imp (fun h=>⟨h.1,h.2.1,hp h.2.2⟩) id⟩
theorem Ph (n most:Nat) (hn:n<9223372036854775808) {all:Int} (h:Hd w base g gs K first all ts l) (hl:l.length≤1099511627776) (hbase:base≤w.heap.size):
 Calls prog 113 #[.pointer (some ⟨g,0,none⟩),.int .i64 n,.int .i64 most] w fun e w'=>Keep K w w'∧Qy (Ae (decide (n≤most)) 20) e (Hd w' base g gs K first all ts (l++enc n)):=by
 obtain⟨T,d,h1,h2,h3,h4,h5⟩:=h
 exact(uK n most hn base g _ _ all l w h2 hl hbase).mono fun e w' ⟨hk,hw⟩=>hw.of hk (fun k hk=> .inl hk) fun hp=>(Hd.of h1 h3 h4 h5 hk hp).2
theorem Xd (n:Int) (below:Nat) (hn:n<9223372036854775808) {all:Int} (h:Hd w base g gs K first all ts l) (hl:l.length≤1099511627776) (hbase:base≤w.heap.size):
 Calls prog 116 #[.pointer (some ⟨g,0,none⟩),.int .i64 n,.int .i64 below] w fun e w'=>Keep K w w'∧Qy (Ae (decide (0≤n∧n<below)) 30) e (Hd w' base g gs K first all ts (l++enc n.toNat)):=by
 obtain⟨T,d,h1,h2,h3,h4,h5⟩:=h
 exact(uL n below hn base g _ _ all l w h2 hl hbase).mono fun e w' ⟨hk,hw⟩=>hw.of hk (fun k hk=> .inl hk) fun hp=>(Hd.of h1 h3 h4 h5 hk hp).2
theorem zM (n:Nat) (hn:n≤2147483647) {all:Nat} (ha:all≤2147483647) (h:Hd w base g gs K first all ts l):
 Calls prog 121 #[.pointer (some ⟨g,0,none⟩),.int .i64 n,.int .i64 0] w fun e w'=>Keep K w w'∧Qy (EO (Ae (decide (n≤2048)) 20) (Ae (decide (all+n≤16384)) 20)) e (Hd w' base g gs K first ((all+n:Nat):Int) ts l):=by
 obtain⟨T,d,h1,h2,h3,h4,h5⟩:=h
 exact(zJ n hn base g _ _ all ha l w h2).mono fun e w' ⟨hk,hw⟩=>hw.of hk (fun k hk=> .inl hk) fun hp=>(Hd.of h1 h3 h4 h5 hk hp).2
theorem uP (n:Nat) (x:Dl) {all:Int} (h:Hd w base g gs K first all ts l) (hn:ts.length=n+1) (hx:ts[n]?=some x) (h47:n≤1000000):
 Calls prog 102 #[.pointer (some ⟨g,0,none⟩),.int .i64 0] w fun e w'=>Below w.heap.size w w'∧Ends (Ae (!(ts.take n).any (fun y=>PL y x)) 16) 0 e:=by
 have hc:=h.uO
 obtain⟨T,d,h1,h2,h3,h4,h5⟩:=h
 exact uN base g gs first ts T d n x w hc h1 hn hx h47
theorem zN (t:Nat) (x:Dl) {all:Int} (h:Hd w base g gs K first all ts l) (hx:ts[t]?=some x) (hp:x.p.size≤1000000):
 Calls prog 120 #[.pointer (some ⟨g,0,none⟩),.int .i64 t] w fun e w'=>w'=w∧e= .returned (.int .i64 (64-x.p.size)):=by
 have hc:=h.uO
 obtain⟨T,d,h1,h2,h3,h4,h5⟩:=h
 exact zI base g gs first ts T d t x w hc h1 hx hp
theorem nk (x:Int) (A:Option Addr) (k c lo hi:Nat) (q:List EZ) {all:Int} (h:Hd w base g gs K first all ts l)
 (hr:(Kz.sl false).R w lo hi [.slice A k c] q) (hf0:0≤first) (hf1:first≤64) (hx: -9223372036854775808≤x∧x<9223372036854775808) (hok: ∀y∈q,0≤y.at_∧y.at_≤262144∧y.b.length≤262144) (hk:k≤1000000):
 Calls prog 110 #[.pointer (some ⟨g,0,none⟩),.int .i64 x,.slice A k c,.int .i64 0] w fun e w'=>Below w.heap.size w w'∧
  Ends (EO (Ae (decide (0≤x∧x≤first*4096)) 17) (if k=0 then 0 else match q[k-1]? with | none=>0 | some y=>Ae (decide (y.at_+y.b.length<x)) 18)) 0 e:=by
 have hc:=h.uO
 obtain⟨T,d,h1,h2,h3,h4,h5⟩:=h
 exact nZ base g gs first x ts T d A k c lo hi q w hc h1 hr hf0 hf1 hx hok hk
theorem Hd.type {all:Int} {W:World} {T:Option Addr} {d:Nat} {x:Dl} (h1:zH w base gs first ts T d) (h2:Wr w base g (KT K gs (.slice T ts.length d)) (.pointer (some ⟨gs,0,none⟩)) all l) (h3:base≤gs) (h4: ¬K gs) (h5: ∀k,(Value.slice T ts.length d).ownBlock=some k→ ¬K k∧k≠gs)
 (hx:Rd.U6 x.p∧Rd.U6 x.r) {T':Option Addr} {d':Nat} (hg:w.grownBy W (Value.slice T ts.length d).ownBlock) (ho:W.ownsRow base 51 2 (.slice T' (ts.length+1) d') (ts.length+1) (ts.flatMap Sj++Sj x))
 (hb:(Value.slice T' (ts.length+1) d').ownBlock=(Value.slice T ts.length d).ownBlock∨(Value.slice T' (ts.length+1) d').ownBlock=some w.heap.size):
 Keep K w (W.setCell ⟨gs,0,none⟩ (.slice T' (ts.length+1) d'))∧Hd (W.setCell ⟨gs,0,none⟩ (.slice T' (ts.length+1) d')) base g gs K first all (ts++ [x]) l:=by
 obtain⟨A,c,h2⟩:=h2
 have hgs:=h1.blk.lt
 have hgl:=h2.blk.lt
 have hnew: ∀k,(Value.slice T' (ts.length+1) d').ownBlock=some k→ ¬K k∧k≠gs∧k≠g∧(Value.slice A l.length c).ownBlock≠some k:=fun k hk=>by
  rcases hb with e | e
  ·rw [e] at hk
   refine⟨(h5 k hk).1,(h5 k hk).2,fun e'=>h2.kg (e'▸ .inr (.inr hk)),fun e'=>(h2.apart k e').1 (.inr (.inr hk))⟩
  ·rw [e] at hk;injection hk with hk;subst hk
   refine⟨fun hK=>by have:=h2.lt _ (.inl hK);omega,by omega,by omega,fun e'=> ?_⟩
   have:=h2.own.lt _ e'
   omega
 have hlen:(ts++ [x]).length=ts.length+1:=by simp
 have hk:Keep K w (W.setCell ⟨gs,0,none⟩ (.slice T' (ts.length+1) d')):=((Keep.refl K w).grown hg (fun k hk=>(h5 k hk).1)).setCell h4 _
 have hka: ∀v,Keep (fun k=>k=g∨(Value.slice A l.length c).ownBlock=some k) w (W.setCell ⟨gs,0,none⟩ v):=fun v=>
  ((Keep.refl _ w).grown hg (fun k hk e=>by
    rcases e with e | e
    ·subst e;exact h2.kg (.inr (.inr hk))
    ·exact(h2.apart k e).1 (.inr (.inr hk)))).setCell (fun e=>by
    rcases e with e | e
    ·exact h2.kg (.inr (.inl e.symm))
    ·exact(h2.apart gs e).1 (.inr (.inl rfl))) _
 refine⟨hk,T',d',⟨?_,?_,fun y hy=> ?_⟩,⟨A,c,⟨?_,?_,h2.low,?_,?_,?_⟩⟩,h3,h4,?_⟩
 ·rw [hlen]
  have:AV W gs 29 _:=(hg.block gs hgs (fun e=>(h5 gs e.symm).2 rfl)).trans h1.blk
  exact this.set 0 _
 ·rw [hlen,List.flatMap_append]
  have: [x].flatMap Sj=Sj x:=by simp
  rw [this]
  exact OD ho (fun e=>(hnew gs e).2.1 rfl) _
 ·rcases List.mem_append.1 hy with hy | hy
  ·exact h1.ok y hy
  ·rw [List.mem_singleton] at hy;subst hy;exact hx
 ·exact h2.blk.keep (hka _) (.inl rfl)
 ·exact h2.own.Iz (hka _) fun k hk=> .inr hk
 ·rw [hlen]
  rintro(e | e | e)
  ·exact h2.kg (.inl e)
  ·exact h2.kg (.inr (.inl e))
  ·exact(hnew g e).2.2.1 rfl
 ·intro k hk
  refine⟨?_,(h2.apart k hk).2⟩
  rw [hlen]
  rintro(e | e | e)
  ·exact(h2.apart k hk).1 (.inl e)
  ·exact(h2.apart k hk).1 (.inr (.inl e))
  ·exact(hnew k e).2.2.2 hk
 ·intro k hk
  rw [hlen] at hk
  have hsz:=hg.size
  have hs2:(W.setCell ⟨gs,0,none⟩ (.slice T' (ts.length+1) d')).heap.size=W.heap.size:=by simp [World.setCell]
  rw [hs2]
  rcases hk with e | e | e
  ·have:=h2.lt k (.inl e);omega
  ·omega
  ·have:=ho.lt k e;omega
 ·intro k hk
  rw [hlen] at hk
  exact⟨(hnew k hk).1,(hnew k hk).2.1⟩
end
end Go.Proofs.YtebgikflpgcnlaaGreatDoor
