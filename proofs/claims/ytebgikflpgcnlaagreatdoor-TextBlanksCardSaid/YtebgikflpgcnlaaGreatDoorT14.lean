/- Part 14 of the proof: AppB WireF ModA WireH ModB ModC ModD -/
import Derived.ArgAppend
import Derived.Defers
import Derived.Recover
import Derived.Lib.AppendStr
import Derived.Deep.DrawnRows
import Derived.Deep.RegionHeldLaw
import Derived.Deep.RegionHeld3
import Derived.RegionDies
import Derived.Test.YtebgikflpgcnlaaGreatDoorT09
import Derived.Test.YtebgikflpgcnlaaGreatDoorT12
namespace Go.Proofs.YtebgikflpgcnlaaGreatDoor
set_option linter.unusedVariables false
set_option linter.unusedSimpArgs false
set_option maxRecDepth 100000
set_option maxHeartbeats 4000000
open Go.RowKit Tryz
def OwnB (w:World) (base:Nat) (e:TypeId) (v:Value) (n:Nat) (xs:List Value):Prop:=
 w.ownsRow base e 1 v n xs∨ ∃g fz,v= .slice (some ⟨g,0,none⟩) n n∧base≤g∧w.heap[g]?=some (.cells xs.toArray e fz)∧xs.length=n
section
variable {w w':World} {base:Nat} {e:TypeId} {v:Value} {n:Nat} {xs:List Value} {K:Nat→Prop}
theorem OwnB.lt (h:OwnB w base e v n xs): ∀k,v.ownBlock=some k→base≤k∧k<w.heap.size:=by
 rcases h with h | ⟨g,fz,rfl,hb,hg,hl⟩
 ·exact h.lt
 ·intro k hk
  injection hk with hk
  have hk:g=k:=hk
  subst hk
  exact⟨hb,(Array.getElem?_eq_some_iff.1 hg).1⟩
theorem OwnB.keepK (h:OwnB w base e v n xs) (hk:Keep K w w') (hg: ∀k,v.ownBlock=some k→K k):OwnB w' base e v n xs:=by
 rcases h with h | ⟨g,fz,rfl,hb,hh,hl⟩
 ·exact .inl (own_keepK h hk hg)
 ·exact .inr ⟨g,fz,rfl,hb,(hk.block g (Array.getElem?_eq_some_iff.1 hh).1 (hg g rfl)).trans hh,hl⟩
theorem OwnB.keptz (h:OwnB w base e v n xs) (hb:Below w.heap.size w w'):OwnB w' base e v n xs:=
 h.keepK (K:=fun _=>True) (Keep.of_all hb) fun _ _=>trivial
theorem OwnB.set_ne (h:OwnB w base e v n xs) {p:Addr} (hp:v.ownBlock≠some p.block) (u:Value):OwnB (w.setCell p u) base e v n xs:=
 h.keepK (K:=fun k=>k≠p.block) ((Keep.refl _ _).setCell (by simp) u) (fun k hk e=>hp (by rw [hk,e]))
theorem OwnB.alloc (h:OwnB w base e v n xs) (o:Obj):OwnB (w.alloc o) base e v n xs:=
 h.keptz ((Below.refl _ _).alloc (Nat.le_refl _) _)
end
theorem app_rowB {P:Program} (w:World) (base:Nat) (t ty e:TypeId) (i:TypeInfo) (z:Value) (bytes:Nat) (ht:P.underlying t=some (.slice e)) (hi:P.info? e=some i) (hz:i.zero=some z)
 (hsize:i.size=1) (hby:i.bytes=bytes) (hzs:z.cells.size=1)
 (v:Value) (n:Nat) (xs:List Value) (hown:OwnB w base e v n xs)
 (B:Nat) (A:Option Addr) (m c:Nat) (news:List Value) (hm0:0<m) (hm:news.length=m*1) (hr:Row w B A news) (h1: ∀u∈news,u.oneCell'=true)
 (h63:n+m≤maxLen) (hbytes:(n+m)*bytes≤140737488355328) (hbase:base≤w.heap.size):
 ∃v' w',(Builtin.append_ #[t,t] ty #[v,.slice A m c]).run P w= .ok v' w'∧w'.ownsRow base e 1 v' (n+m) (xs++news)∧w.grownBy w' v.ownBlock∧
  (v'.ownBlock=v.ownBlock∨v'.ownBlock=some w.heap.size):=by
 rcases hown with hown | ⟨g,fz,rfl,hb,hh,hl⟩
 ·exact app_rowz w base t ty e i z 1 bytes ht hi hz hsize hby hzs (by omega) v n xs hown B A m c news hm hr h1 h63 hbytes hbase
 ·obtain⟨b,o,rfl,_,hc⟩:=hr (by omega)
  obtain⟨v',w',hrun,r1,r2⟩:=run_append_arg_grows (P:=P) w t ty e i z 1 bytes ht hi hz hsize hby hzs (by omega) ⟨g,0,none⟩ n n xs (by omega) (fun j u hj=>by
   rw [Addr.add_lit,Nat.zero_add]
   simp only [World.cell?,hh]
   simp [hj]) ⟨b,o,none⟩ m c news hm (fun j u hj=>by rw [Addr.add_lit];exact hc j u hj) (by omega) h63 hbytes
  refine⟨v',w',hrun,r1.mono hbase,⟨r2.os,r2.tape,r2.output,r2.size,fun k h1 _=>r2.block k h1 (by simp)⟩,.inr ?_⟩
  have hr2:=run_append_grow (P:=P) w t ty e i z ht hi hz ⟨g,0,none⟩ n n xs (by rw [hsize];omega) (fun j u hj=>by
   rw [Addr.add_lit,Nat.zero_add]
   simp only [World.cell?,hh]
   simp [hj]) ⟨b,o,none⟩ m c news (by rw [hsize];exact hm) (fun j u hj=>by rw [Addr.add_lit];exact hc j u hj) (by omega) (by unfold maxLen at h63;omega) (by rw [hby];exact growslice_fits (by omega) hbytes)
  rw [hr2] at hrun
  injection hrun with e1 e2
  rw [←e1]
  rfl
theorem wpList_appB {P:Program} (w:World) {ops:Array Oper} {rest:List Oper} {o:Oper} {a:Act} {Q:Exit→Act→World→Prop} (hgd:o.guard=none) (s x:Operand) (t:TypeId)
 (ho:o.op= .call {callee:= .builtin .append,args:= #[s,x],argTypes:= #[t,t]})
 (base:Nat) (e:TypeId) (i:TypeInfo) (z:Value) (bytes:Nat) (ht:P.underlying t=some (.slice e)) (hi:P.info? e=some i) (hz:i.zero=some z)
 (hsize:i.size=1) (hby:i.bytes=bytes) (hzs:z.cells.size=1)
 (v:Value) (n:Nat) (xs:List Value) (hs:a.eval s=v) (hown:OwnB w base e v n xs)
 (B:Nat) (A:Option Addr) (m c:Nat) (news:List Value) (hm0:0<m) (hx:a.eval x= .slice A m c) (hm:news.length=m*1) (hr:Row w B A news) (h1: ∀u∈news,u.oneCell'=true)
 (h63:n+m≤maxLen) (hbytes:(n+m)*bytes≤140737488355328) (hbase:base≤w.heap.size)
 (h: ∀A' c' w',w'.ownsRow base e 1 (.slice A' (n+m) c') (n+m) (xs++news)→w.grownBy w' v.ownBlock→((Value.slice A' (n+m) c').ownBlock=v.ownBlock∨(Value.slice A' (n+m) c').ownBlock=some w.heap.size)→wpList P ops Q rest (a.put o.dst (.slice A' (n+m) c')) w'):wpList P ops Q (o::rest) a w:=by
 refine wpList_plain hgd fun _ hK=> ?_
 obtain⟨v',w',hrun,h2,h3,h4⟩:=app_rowB (P:=P) w base t o.type e i z bytes ht hi hz hsize hby hzs v n xs hown B A m c news hm0 hm hr h1 h63 hbytes hbase
 obtain⟨A',c',rfl⟩:=own_formz h2
 unfold Oper.wp execOp
 simp only [ho,resolve,invoke,builtin,Sem.run_bind,Sem.run_pure,Result.andThen_ok,List.map_toArray,List.map_cons,List.map_nil,hs,hx,hrun]
 exact hK _ _ (h A' c' w' h2 h3 h4)
theorem step_appB {P:Program} {ops:Array Oper} {o:Oper} {a:Act} {w:World} {K:Act→World→Prop} {Q:Exit→Act→World→Prop} {E:Prop}
 (hg:o.guard=none) (s x:Operand) (t:TypeId) (hop:o.op=Op.call {callee:=Callee.builtin Builtin.append,args:= #[s,x],argTypes:= #[t,t]})
 (base:Nat) (e:TypeId) (i:TypeInfo) (z:Value) (bytes:Nat) (ht:P.underlying t=some (.slice e)) (hi:P.info? e=some i) (hz:i.zero=some z)
 (hsize:i.size=1) (hby:i.bytes=bytes) (hzs:z.cells.size=1)
 (v:Value) (n:Nat) (xs:List Value) (hs:a.eval s=v) (hown:OwnB w base e v n xs)
 (B:Nat) (A:Option Addr) (m c:Nat) (news:List Value) (hm0:0<m) (hx:a.eval x= .slice A m c) (hm:news.length=m*1) (hr:Row w B A news) (h1: ∀u∈news,u.oneCell'=true)
 (h63:n+m≤maxLen) (hbytes:(n+m)*bytes≤140737488355328) (hbase:base≤w.heap.size)
 (h: ∀A' c' w',w'.ownsRow base e 1 (.slice A' (n+m) c') (n+m) (xs++news)→w.grownBy w' v.ownBlock→((Value.slice A' (n+m) c').ownBlock=v.ownBlock∨(Value.slice A' (n+m) c').ownBlock=some w.heap.size)→K (a.put o.dst (.slice A' (n+m) c')) w'):
 if Region.wanted o (yielded ops a.tmps)=true then Oper.wp P o a w K Q else E:=by
 have hw:Region.wanted o (yielded ops a.tmps)=true:=by simp [Region.wanted,hg]
 rw [if_pos hw]
 obtain⟨v',w',hrun,h2,h3,h4⟩:=app_rowB (P:=P) w base t o.type e i z bytes ht hi hz hsize hby hzs v n xs hown B A m c news hm0 hm hr h1 h63 hbytes hbase
 obtain⟨A',c',rfl⟩:=own_formz h2
 unfold Oper.wp
 simp [execOp,hop,resolve,invoke,builtin,hs,hx,hrun,Result.andThen]
 exact h A' c' w' h2 h3 h4
theorem wire_Svar (v:Int) (h0: -9223372036854775808≤v) (h1:v<9223372036854775808) (w:World):
 Calls prog 118 #[.int .i64 v] w fun e w'=> ∃A c,e= .returned (.slice A (enc (folded v)).length c)∧w'.ownsRow w.heap.size 5 1 (.slice A (enc (folded v)).length c) (enc (folded v)).length ((enc (folded v)).map bv)∧Below w.heap.size w w':=by
 go_enter func118,ntmps118
 go_wp2_with fail
 rw [fold_wire v h0 h1]
 refine(wire_Uvar (folded v) (folded_lt v h0 h1) w).mono ?_
 rintro e w1 ⟨A,c,rfl,h2,h3⟩
 have H2:=hideIt h2;clear h2
 have H3:=hideIt h3;clear h3
 go_wp2_with fail
 go_ret
 exact⟨A,c,rfl,H2.out,H3.out⟩
theorem bytes_row (w:World) (e:TypeId) (s:ByteArray):Row (Lib.bytesWorld w e s) (w.heap.size+1) (some ⟨w.heap.size,0,none⟩) (s.data.toList.map bv):=by
 intro _
 refine⟨w.heap.size,0,rfl,Nat.lt_succ_self _,fun j u hu=> ?_⟩
 have hj:j<s.size:=by have:=(List.getElem?_eq_some_iff.1 hu).1;simpa using this
 rw [Nat.zero_add,Lib.bytesWorld_cell w e s j hj,←hu,List.getElem?_map]
 have hj':j<s.data.toList.length:=by simpa using hj
 rw [List.getElem?_eq_getElem hj',List.getD,List.getElem?_eq_getElem hj']
 rfl
theorem bytes_below (w:World) (e:TypeId) (s:ByteArray):Below w.heap.size w (Lib.bytesWorld w e s):=
 ⟨rfl,rfl,rfl,by rw [Lib.bytesWorld_size];omega,fun k hk=>Lib.bytesWorld_at_old w e s k hk⟩
theorem own_below_kept {w w':World} {base:Nat} {e:TypeId} {v:Value} {n:Nat} {xs:List Value} (h:w.ownsRow base e 1 v n xs) (hb:Below w.heap.size w w'):w'.ownsRow base e 1 v n xs:=
 h.kept (row:=some w.heap.size) ⟨hb.os,hb.tape,hb.output,hb.size,fun k hk _=>hb.block k hk⟩ (by
  cases hv:v.ownBlock with
  | none=>exact .inl rfl
  | some k=>right;intro e;injection e with e;have:=(h.lt k hv).2;omega)
theorem wire_Text (s:ByteArray) (h47:s.size≤70368744177664) (w:World):
 Calls prog 157 #[.string s] w fun e w'=> ∃A c,e= .returned (.slice A ((enc s.size).length+s.size) c)∧w'.ownsRow w.heap.size 5 1 (.slice A ((enc s.size).length+s.size) c) ((enc s.size).length+s.size) ((enc s.size++s.data.toList).map bv)∧Below w.heap.size w w':=by
 have hl:=enc_len10 s.size (by omega)
 go_enter func157,ntmps157
 go_wp2_with fail
 refine(wire_Uvar s.size (by omega) w).mono ?_
 rintro e w1 ⟨A,c,rfl,h2,h3⟩
 have hcv:=Lib.run_convert_string_bytes (P:=prog) w1 9 41 5 s underlying9 underlying41 underlying5
 have H2:=hideIt h2;clear h2
 have H3:=hideIt h3;clear h3
 have HT:=hideIt (bytes_row w1 5 s)
 have HB:=hideIt (bytes_below w1 5 s)
 generalize hw2:Lib.bytesWorld w1 5 s=w2 at*
 clear hw2
 have hsz:w.heap.size≤w2.heap.size:=by have:=HB.out.size;have:=H3.out.size;omega
 go_wp2_with fail
 refine(wire_put A _ (enc s.size).length c s.size _ (w1.heap.size+1) w.heap.size w2 ((enc s.size).map bv) (s.data.toList.map bv) (own_below_kept H2.out HB.out) (by simp) HT.out (bv_one _) (by omega) hsz).mono ?_
 rintro e w3 ⟨A',c',rfl,h4,h5⟩
 have H4:=hideIt h4;clear h4
 have H5:Hid (Below w.heap.size w w3):=hideIt ((H3.out.trans (HB.out.mono (by have:=H3.out.size;omega))).trans (own_below (own_below_kept H2.out HB.out) h5 hsz))
 clear h5 hsz hcv
 go_wp2_with fail
 go_ret
 rw [List.map_append]
 exact⟨A',c',rfl,H4.out,H5.out⟩
def fault (e at_:Int):Value:= .iface 152 (.agg #[.int .i64 e,.int .i64 at_])
def thrown (e at_:Int):List PanicEntry:= [{v:=fault e at_,recovered:=false}]
def Ends (err at_:Int) (e:Ending):Prop:=(err=0∧e= .returned (.tuple #[]))∨(err≠0∧e= .panicked (thrown err at_))
theorem mod_ask_yes (e at_:Int) (w:World):Calls prog 68 #[.bool true,.int .i64 e,.int .i64 at_] w fun en w'=>w=w'∧en= .returned (.tuple #[]):=by
 go_enter func68,ntmps68
 go_wp2
 go_end0
 exact⟨rfl,rfl⟩
theorem mod_ask_no (e at_:Int) (w:World):Calls prog 68 #[.bool false,.int .i64 e,.int .i64 at_] w fun en w'=>w=w'∧en= .panicked (thrown e at_):=by
 go_enter func68,ntmps68
 go_wp2
 exact⟨rfl,rfl,rfl⟩
theorem mod_ask (b:Bool) (e at_:Int) (he:e≠0) (w:World):Calls prog 68 #[.bool b,.int .i64 e,.int .i64 at_] w fun en w'=>w=w'∧Ends (askE b e) at_ en:=by
 cases b with
 | true=>exact(mod_ask_yes e at_ w).mono fun en w' h=>⟨h.1,.inl ⟨rfl,h.2⟩⟩
 | false=>exact(mod_ask_no e at_ w).mono fun en w' h=>⟨h.1,.inr ⟨he,h.2⟩⟩
theorem caught_idle (pe pa:Addr) (w:World):
 CallsD prog 62 #[.pointer (some pe),.pointer (some pa)] .returning w fun e u' w'=>e= .returned (.tuple #[])∧u'= .returning∧w'=w:=by
 refine callsD_of_wpS func62 rfl fun c₀ cs hu=> ?_
 apply wpS_seq
 apply wpS_region
 simp [wpOpsS,go_sem,recoverD,hu,ntmps62,Exit.thenS,Array.replicate]
 have Hu:=hideIt hu;clear hu
 refine wpS_of_wp ?_
 go_wp2_with fail
 simp [bodyPostS,results,results62,←Hu.out]
theorem assert_fault (v:Value) (W:World):(Instr.typeAssert (.iface 152 v) 20 152 true).run prog W= .ok (.tuple #[v,.bool true]) W:=by kernel_rfl
theorem caught_fault (err at_:Int) (ge ga:Nat) (e0 a0:Int) (w:World) (he:Blk w ge 33 [.int .i64 e0]) (ha:Blk w ga 3 [.int .i64 a0]) (hne:ge≠ga):
 CallsD prog 62 #[.pointer (some ⟨ge,0,none⟩),.pointer (some ⟨ga,0,none⟩)] (.panicking (thrown err at_)) w fun e u' w'=>
  e= .returned (.tuple #[])∧u'= .panicking [{v:=fault err at_,recovered:=true}]∧Keep (fun k=>k≠ge∧k≠ga) w w'∧Blk w' ge 33 [.int .i64 err]∧Blk w' ga 3 [.int .i64 at_]:=by
 refine callsD_of_wpS func62 rfl fun c₀ cs hu=> ?_
 apply wpS_seq
 apply wpS_region
 simp [wpOpsS,go_sem,recoverD,hu,ntmps62,Exit.thenS,thrown,Array.replicate]
 have Hu:=hideIt hu;clear hu
 refine wpS_of_wp ?_
 have He:=hideIt he;have Ha:=hideIt ha
 have hge:=he.lt
 have hga:=ha.lt
 have hc1:=he.q 0 rfl
 have hc2:=ha.q 0 rfl
 have hf1:=he.frozen 0
 have hf2:=ha.frozen 0
 clear he ha
 unfold fault
 have has:=assert_fault (.agg #[.int .i64 err,.int .i64 at_])
 go_wp2_with fail
 go_region
 all_goals go_wp2_with fail
 have hk:Keep (fun k=>k≠ge∧k≠ga) w ((((w.setCell ⟨ge,0,none⟩ (.int .i64 err)).setCell ⟨ga,0,none⟩ (.int .i64 at_)).alloc (.cells #[.int .i64 err,.int .i64 at_] 152)).drew):=
  ((((Keep.refl _ w).setCell (p:=⟨ge,0,none⟩) (by simp) _).setCell (p:=⟨ga,0,none⟩) (by simp) _).alloc _).drew
 have hb1:Blk ((((w.setCell ⟨ge,0,none⟩ (.int .i64 err)).setCell ⟨ga,0,none⟩ (.int .i64 at_)).alloc (.cells #[.int .i64 err,.int .i64 at_] 152)).drew) ge 33 [.int .i64 err]:=
  (((He.out.set 0 (.int .i64 err)).far (p:=⟨ga,0,none⟩) hne _).alloc _).drewN 1
 have hb2:Blk ((((w.setCell ⟨ge,0,none⟩ (.int .i64 err)).setCell ⟨ga,0,none⟩ (.int .i64 at_)).alloc (.cells #[.int .i64 err,.int .i64 at_] 152)).drew) ga 3 [.int .i64 at_]:=
  (((Ha.out.far (p:=⟨ge,0,none⟩) (Ne.symm hne) _).set 0 (.int .i64 at_)).alloc _).drewN 1
 refine⟨rfl,_,rfl,.tuple #[],?_,rfl,rfl,hk,hb1,hb2⟩
 simp [results,results62]
theorem enc_closure (u:FrameMode) (ge gb:Nat) (e0:Int) (v:Value) (w:World) (he:Blk w ge 33 [.int .i64 e0]) (hb:Blk w gb 41 [v]):
 CallsD prog 65 #[.pointer (some ⟨ge,0,none⟩),.pointer (some ⟨gb,0,none⟩)] u w fun e u' w'=>
  u'=u∧(e= .returned (.tuple #[])∧Keep (fun k=>k≠gb) w w'∧Blk w' gb 41 [if e0=0 then v else .slice none 0 0]):=by
 have He:=hideIt he;have Hb:=hideIt hb
 have hge:=he.lt
 have hgb:=hb.lt
 have hc1:=he.q 0 rfl
 have hc2:=hb.q 0 rfl
 have hf2:=hb.frozen 0
 clear he hb
 by_cases h0:e0=0
 ·subst h0
  go_enter_d func65,ntmps65
  go_wp2_with fail
  go_end0
  exact⟨rfl,Keep.refl _ _,Hb.out⟩
 ·have hne:(e0 !=0)=true:=by simpa using h0
  rw [if_neg h0]
  go_enter_d func65,ntmps65
  go_wp2_with fail
  go_end0
  exact⟨rfl,(Keep.refl _ _).setCell (by simp) _,Hb.out.set 0 _⟩
theorem app_string (w:World) {ops:Array Oper} {rest:List Oper} {o:Oper} {a:Act} {Q:Exit→Act→World→Prop} (hgd:o.guard=none) (s x:Operand)
 (ho:o.op= .call {callee:= .builtin .append,args:= #[s,x],argTypes:= #[41,9]}) (base:Nat)
 (A:Option Addr) (n c:Nat) (xs:List Value) (hs:a.eval s= .slice A n c) (hown:w.ownsRow base 5 1 (.slice A n c) n xs)
 (t:ByteArray) (hx:a.eval x= .string t) (h47:n+t.size≤140737488351232) (hbase:base≤w.heap.size)
 (h: ∀A' c' w',w'.ownsRow base 5 1 (.slice A' (n+t.size) c') (n+t.size) (xs++t.data.toList.map bv)→Below base w w'→wpList prog ops Q rest (a.put o.dst (.slice A' (n+t.size) c')) w'):wpList prog ops Q (o::rest) a w:=by
 obtain⟨i0,hi,hz,hs',hb⟩:=info_parts info_u8
 refine Lib.wpList_append_own_string (w:=w) hgd s x 41 9 ho base 5 i0 underlying41 underlying9 hi hz hs' hb _ n xs hs hown t hx (by unfold maxLen;omega) (by omega) hbase ?_
 intro v' w' h2 h3 _
 obtain⟨A',c',rfl⟩:=own_form h2
 exact h A' c' w' h2 (own_below hown h3 hbase)
theorem ref_Uvar (v0:Nat) (hv0:v0<18446744073709551616) (w:World):
 Calls prog 209 #[.int .u64 v0] w fun e w'=> ∃A c,e= .returned (.slice A (enc v0).length c)∧w'.ownsRow w.heap.size 5 1 (.slice A (enc v0).length c) (enc v0).length ((enc v0).map bv)∧Below w.heap.size w w':=by
 have hl10:=enc_len10 v0 hv0
 go_enter func209,ntmps209
 go_wp2_with fail
 go_loopw [3,0] (fun L V wr=>UvRel v0 w L V wr) (fun _ V _=>(intOf V).toNat)
 case atStart=>exact⟨v0,[],none,0,rfl,rfl,hv0,rfl,World.ownsRow_nil _ _ _ _,Below.refl _ _⟩
 case round=>
  obtain⟨v,xs,A,c,rfl,rfl,hv,hR,hown,hbel⟩:=hrel
  have HR:=hideIt hR;clear hR
  have Hown:=hideIt hown;clear hown
  have Hbel:=hideIt hbel;clear hbel
  have hxs:xs.length≤10:=by have:=congrArg List.length HR.out;rw [List.length_append] at this;omega
  by_cases hlt:v<128
  ·have hge: ¬(128:Int)≤v:=by omega
   have hm256:(v:Int)%256=v:=by omega
   have Henc:Hid (xs.map bv++ [.int .u8 (v:Int)]=(enc v0).map bv):=hideIt (by rw [←HR.out,enc_small v hlt,List.map_append];simp [ofNat_small v (by omega)])
   have Hlen:Hid (xs.length+1=(enc v0).length):=hideIt (by rw [←HR.out,enc_small v hlt,List.length_append];rfl)
   go_wp2_with (at_builtin;refine app_bytes _ rfl (.tmp 15) (.tmp 18) rfl w.heap.size A xs.length c (xs.map bv) rfl (Hown.out.alloc _) (wr.heap.size+1) _ 1 1 [.int .u8 (v:Int)] rfl rfl (by exact row_one _ _ _) (by simp [Value.oneCell']) (by omega) (by exact Nat.le_trans Hbel.out.size (by simp)) ?_;intro A' c' w1 h2 _ h3;have H2:=hideIt h2;have H3:=hideIt h3;clear h2 h3)
   go_ret
   rw [←Hlen.out,←Henc.out]
   exact⟨A',c',rfl,H2.out,((Hbel.out.alloc Hbel.out.size _)).trans H3.out⟩
  ·have hge:(128:Int)≤v:=by omega
   have hm0:0≤(v:Int)%128:=by omega
   have hm1:(v:Int)%128<128:=by omega
   have hm2:(v:Int)%128+128<256:=by omega
   have hm3:((v:Int)%128+128)%256=(v:Int)%128+128:=by omega
   have Hnext:Hid ((xs++ [UInt8.ofNat (v%128+128)])++enc (v/128)=enc v0):=hideIt (by rw [←HR.out,enc_great v hlt,List.append_assoc];rfl)
   go_wp2_with (at_builtin;refine app_bytes _ rfl (.tmp 6) (.tmp 11) rfl w.heap.size A xs.length c (xs.map bv) rfl (Hown.out.alloc _) (wr.heap.size+1) _ 1 1 _ rfl rfl (by exact row_one _ _ _) (by simp [Value.oneCell']) (by omega) (by exact Nat.le_trans Hbel.out.size (by simp)) ?_;intro A' c' w1 h2 _ h3;have H2:=hideIt h2;have H3:=hideIt h3;clear h2 h3)
   refine⟨⟨v/128,xs++ [UInt8.ofNat (v%128+128)],A',c',by simp,by go_num,by omega,Hnext.out,?_,(Hbel.out.alloc Hbel.out.size _).trans H3.out⟩,?_⟩
   ·have h4:=H2.out
    rw [show((v:Int)%128+128)=((v%128+128:Nat):Int)from by omega,←ofNat_small _ (by omega),show [bv (UInt8.ofNat (v%128+128))]= [UInt8.ofNat (v%128+128)].map bv from rfl,←List.map_append] at h4
    simpa using h4
   ·simp [intOf];omega
theorem ref_folded (v:Int) (h0: -9223372036854775808≤v) (h1:v<9223372036854775808) (w:World):
 Calls prog 210 #[.int .i64 v] w fun e w'=>e= .returned (.int .u64 (folded v))∧w'=w:=by
 go_enter func210,ntmps210
 by_cases hv:v<0
 ·have e1: -(v+1)%18446744073709551616= -(v+1):=by omega
  have e2:2* -(v+1)%18446744073709551616=2* -(v+1):=by omega
  have e3:(2* -(v+1)+1)%18446744073709551616=2* -(v+1)+1:=by omega
  have Hf:Hid (((folded v:Nat):Int)=2* -(v+1)+1):=hideIt (by unfold folded;rw [if_pos hv];omega)
  go_wp2_with fail
  go_ret
  rw [Hf.out]
  exact⟨rfl,rfl⟩
 ·have e1:v%18446744073709551616=v:=by omega
  have e2:2*v%18446744073709551616=2*v:=by omega
  have Hf:Hid (((folded v:Nat):Int)=2*v):=hideIt (by unfold folded;rw [if_neg hv];omega)
  go_wp2_with fail
  go_ret
  rw [Hf.out]
  exact⟨rfl,rfl⟩
theorem ref_Svar (v:Int) (h0: -9223372036854775808≤v) (h1:v<9223372036854775808) (w:World):
 Calls prog 179 #[.int .i64 v] w fun e w'=> ∃A c,e= .returned (.slice A (enc (folded v)).length c)∧w'.ownsRow w.heap.size 5 1 (.slice A (enc (folded v)).length c) (enc (folded v)).length ((enc (folded v)).map bv)∧Below w.heap.size w w':=by
 go_enter func179,ntmps179
 go_wp2_with fail
 refine(ref_folded v h0 h1 w).mono ?_
 rintro e w1 ⟨rfl,rfl⟩
 go_wp2_with fail
 refine(ref_Uvar (folded v) (folded_lt v h0 h1) w1).mono ?_
 rintro e w1 ⟨A,c,rfl,h2,h3⟩
 have H2:=hideIt h2;clear h2
 have H3:=hideIt h3;clear h3
 go_wp2_with fail
 go_ret
 exact⟨A,c,rfl,H2.out,H3.out⟩
theorem ref_Text (s:ByteArray) (h47:s.size≤70368744177664) (w:World):
 Calls prog 178 #[.string s] w fun e w'=> ∃A c,e= .returned (.slice A ((enc s.size).length+s.size) c)∧w'.ownsRow w.heap.size 5 1 (.slice A ((enc s.size).length+s.size) c) ((enc s.size).length+s.size) ((enc s.size++s.data.toList).map bv)∧Below w.heap.size w w':=by
 have hl:=enc_len10 s.size (by omega)
 go_enter func178,ntmps178
 go_wp2_with fail
 refine(ref_Uvar s.size (by omega) w).mono ?_
 rintro e w1 ⟨A,c,rfl,h2,h3⟩
 have H2:=hideIt h2;clear h2
 have H3:=hideIt h3;clear h3
 go_wp2_with (at_builtin;refine app_string _ rfl (.tmp 8) (.tmp 9) rfl w.heap.size A (enc s.size).length c ((enc s.size).map bv) rfl H2.out s rfl (by omega) H3.out.size ?_;intro A' c' w2 h4 h5;have H4:=hideIt h4;have H5:=hideIt h5;clear h4 h5)
 go_ret
 rw [List.map_append]
 exact⟨A',c',rfl,H4.out,H3.out.trans H5.out⟩
structure WrV (W:World) (base g:Nat) (K:Nat→Prop) (mp:Value) (all:Int) (l:List UInt8) (A:Option Addr) (c:Nat):Prop where
 blk:Blk W g 124 [mp,.int .i64 all,.slice A l.length c]
 own:OwnB W base 5 (.slice A l.length c) l.length (l.map bv)
 low:base≤g
 kg: ¬K g
 apart: ∀k,(Value.slice A l.length c).ownBlock=some k→ ¬K k∧k≠g
 lt: ∀k,K k→k<W.heap.size
def Wr (W:World) (base g:Nat) (K:Nat→Prop) (mp:Value) (all:Int) (l:List UInt8):Prop:= ∃A c,WrV W base g K mp all l A c
section
variable {W W':World} {base g:Nat} {K:Nat→Prop} {mp:Value} {all:Int} {l:List UInt8} {A:Option Addr} {c:Nat}
theorem WrV.all_ (h:WrV W base g K mp all l A c) (hb:Below W.heap.size W W'):WrV W' base g K mp all l A c:=
 ⟨h.blk.below hb h.blk.lt,h.own.keptz hb,h.low,h.kg,h.apart,fun k hk=>Nat.lt_of_lt_of_le (h.lt k hk) hb.size⟩
theorem Wr.all_ (h:Wr W base g K mp all l) (hb:Below W.heap.size W W'):Wr W' base g K mp all l:=let ⟨A,c,h⟩:=h;⟨A,c,h.all_ hb⟩
theorem WrV.put (h:WrV W base g K mp all l A c) {news:List UInt8} {A':Option Addr} {c' m:Nat} (hm:m=news.length) (hg:W.grownBy W' (Value.slice A l.length c).ownBlock)
 (ho:W'.ownsRow base 5 1 (.slice A' (l.length+m) c') (l.length+m) (l.map bv++news.map bv))
 (hb:(Value.slice A' (l.length+m) c').ownBlock=(Value.slice A l.length c).ownBlock∨(Value.slice A' (l.length+m) c').ownBlock=some W.heap.size):
 Keep K W (W'.setCell ⟨g,2,none⟩ (.slice A' (l.length+m) c'))∧Wr (W'.setCell ⟨g,2,none⟩ (.slice A' (l.length+m) c')) base g K mp all (l++news):=by
 subst hm
 have hgl:=h.blk.lt
 have hap: ∀k,(Value.slice A' (l.length+news.length) c').ownBlock=some k→ ¬K k∧k≠g:=fun k hk=>by
  rcases hb with e | e
  ·exact h.apart k (e▸hk)
  ·rw [e] at hk;injection hk with hk;subst hk
   exact⟨fun hK=>by have:=h.lt _ hK;omega,by omega⟩
 have hblk:Blk W' g 124 [mp,.int .i64 all,.slice A l.length c]:=(hg.block g hgl (fun e=>(h.apart g e.symm).2 rfl)).trans h.blk
 refine⟨((Keep.refl K W).grown hg (fun k hk=>(h.apart k hk).1)).setCell h.kg _,A',c',⟨?_,?_,h.low,h.kg,?_,fun k hk=> ?_⟩⟩
 ·rw [List.length_append];exact hblk.set 2 _
 ·rw [List.length_append,List.map_append]
  exact .inl (own_set_ne ho (fun e=>(hap g e).2 rfl) _)
 ·rw [List.length_append];exact hap
 ·have h1:=h.lt k hk
  have h2:=hg.size
  simp [World.setCell];omega
end
def WEnds (err:Int) (e:Ending) (P:Prop):Prop:=(err=0∧e= .returned (.tuple #[])∧P)∨(err≠0∧e= .panicked (thrown err 0))
theorem wr_number (n:Nat) (hn:n<9223372036854775808) (base g:Nat) (K:Nat→Prop) (mp:Value) (all:Int) (l:List UInt8) (w:World) (h:Wr w base g K mp all l) (hl:l.length≤1099511627776) (hbase:base≤w.heap.size):
 Calls prog 119 #[.pointer (some ⟨g,0,none⟩),.int .i64 n] w fun e w'=>e= .returned (.tuple #[])∧Keep K w w'∧Wr w' base g K mp all (l++enc n):=by
 obtain⟨A,c,h⟩:=h
 have H:=hideIt h
 have hc0:=h.blk.q 2 rfl
 have hlt:=h.blk.lt
 have hf:=h.blk.frozen 2
 have henc:=enc_len10 n (by omega)
 have hwr:IntKind.u64.wrap (n:Int)=(n:Int):=by rw [IntKind.wrap_u64];omega
 clear h
 obtain⟨i0,hi0,hz,hs',hby⟩:=info_parts info_u8
 go_enter func119,ntmps119
 go_wp2_with fail
 go_region_law
  (first
   | (go_simp;go_at_call 159;refine(wire_Uvar n (by omega) _).mono ?_;rintro e w1 ⟨A1,c1,rfl,h2,h3⟩;have hb1:Below w.heap.size w w1:=⟨h3.os,h3.tape,h3.output,h3.size,h3.block⟩;have HR:=hideIt (Row.own h2);have H1:=hideIt (H.out.all_ hb1);have HB1:=hideIt hb1;have HK1:Hid (Keep K w w1):=hideIt (Keep.of_all hb1);have hc1:=H1.out.blk.q 2 rfl;have hf1:=H1.out.blk.frozen 2;clear h2 h3 hb1)
   | (refine step_appB rfl (.tmp 8) (.tmp 11) 41 rfl base 5 i0 _ 1 underlying41 hi0 hz hs' hby rfl _ l.length (l.map bv) rfl (by exact H1.out.own) _ A1 (enc n).length c1 ((enc n).map bv) (enc_pos n) rfl (by rw [List.length_map,Nat.mul_one]) (by exact HR.out) (bv_one _) (by unfold maxLen;omega) (by omega) (Nat.le_trans hbase HB1.out.size) ?_;intro A4 c4 w4 h2 h3 h4;have HP:=hideIt (H1.out.put rfl h3 h2 h4);have hf4:=(grown_blk h3 H1.out.blk (fun e=>(H1.out.apart g e).2 rfl)).frozen 2;have hc4:=(grown_blk h3 H1.out.blk (fun e=>(H1.out.apart g e).2 rfl)).cell 2;clear h2 h3 h4))
 all_goals
  go_end0
  exact⟨rfl,HK1.out.trans HP.out.1,HP.out.2⟩
theorem wr_text (s:ByteArray) (h47:s.size≤70368744177664) (base g:Nat) (K:Nat→Prop) (mp:Value) (all:Int) (l:List UInt8) (w:World) (h:Wr w base g K mp all l) (hl:l.length≤1099511627776) (hbase:base≤w.heap.size):
 Calls prog 115 #[.pointer (some ⟨g,0,none⟩),.string s] w fun e w'=>e= .returned (.tuple #[])∧Keep K w w'∧Wr w' base g K mp all (l++textB s):=by
 obtain⟨A,c,h⟩:=h
 have H:=hideIt h
 have hc0:=h.blk.q 2 rfl
 have hlt:=h.blk.lt
 have hf:=h.blk.frozen 2
 have henc:(textB s).length=(enc s.size).length+s.size:=by unfold textB;rw [List.length_append];simp
 have henc2:=enc_len10 s.size (by omega)
 clear h
 obtain⟨i0,hi0,hz,hs',hby⟩:=info_parts info_u8
 go_enter func115,ntmps115
 go_wp2_with fail
 go_region_law
  (first
   | (go_simp;go_at_call 157;refine(wire_Text s h47 _).mono ?_;rintro e w1 ⟨A1,c1,rfl,h2,h3⟩;have hb1:Below w.heap.size w w1:=⟨h3.os,h3.tape,h3.output,h3.size,h3.block⟩;have HR:=hideIt (Row.own h2);have H1:=hideIt (H.out.all_ hb1);have HB1:=hideIt hb1;have HK1:Hid (Keep K w w1):=hideIt (Keep.of_all hb1);have hc1:=H1.out.blk.q 2 rfl;have hf1:=H1.out.blk.frozen 2;clear h2 h3 hb1)
   | (refine step_appB rfl (.tmp 8) (.tmp 10) 41 rfl base 5 i0 _ 1 underlying41 hi0 hz hs' hby rfl _ l.length (l.map bv) rfl (by exact H1.out.own) _ A1 ((enc s.size).length+s.size) c1 ((enc s.size++s.data.toList).map bv) (by have:=enc_pos s.size;omega) rfl (by rw [List.length_map,Nat.mul_one,List.length_append];simp) (by exact HR.out) (bv_one _) (by unfold maxLen;omega) (by omega) (Nat.le_trans hbase HB1.out.size) ?_;intro A4 c4 w4 h2 h3 h4;have HP:=hideIt (H1.out.put henc.symm h3 h2 h4);have hf4:=(grown_blk h3 H1.out.blk (fun e=>(H1.out.apart g e).2 rfl)).frozen 2;have hc4:=(grown_blk h3 H1.out.blk (fun e=>(H1.out.apart g e).2 rfl)).cell 2;clear h2 h3 h4))
 all_goals
  go_end0
  exact⟨rfl,HK1.out.trans HP.out.1,HP.out.2⟩
theorem wr_count (n most:Nat) (hn:n<9223372036854775808) (base g:Nat) (K:Nat→Prop) (mp:Value) (all:Int) (l:List UInt8) (w:World) (h:Wr w base g K mp all l) (hl:l.length≤1099511627776) (hbase:base≤w.heap.size):
 Calls prog 113 #[.pointer (some ⟨g,0,none⟩),.int .i64 n,.int .i64 most] w fun e w'=>Keep K w w'∧WEnds (askE (decide (n≤most)) 20) e (Wr w' base g K mp all (l++enc n)):=by
 have H:=hideIt h;clear h
 go_enter func113,ntmps113
 go_wp2_with fail
 refine(mod_ask _ 20 0 (by decide) _).mono ?_
 rintro e w1 ⟨rfl,⟨h0,rfl⟩ | ⟨h0,rfl⟩⟩
 ·have H0:=hideIt h0;clear h0
  go_wp2_with fail
  refine(wr_number n hn base g K mp all l _ H.out hl hbase).mono ?_
  rintro e w1 ⟨rfl,hk,hw⟩
  have HK:=hideIt hk;have HW:=hideIt hw;clear hk hw
  go_wp2_with fail
  go_end0
  exact⟨HK.out,.inl ⟨H0.out,rfl,HW.out⟩⟩
 ·have H0:=hideIt h0;clear h0
  go_wp2_with fail
  exact⟨rfl,Keep.refl _ _,.inr ⟨H0.out,rfl⟩⟩
theorem wr_index (n:Int) (below:Nat) (hn:n<9223372036854775808) (base g:Nat) (K:Nat→Prop) (mp:Value) (all:Int) (l:List UInt8) (w:World) (h:Wr w base g K mp all l) (hl:l.length≤1099511627776) (hbase:base≤w.heap.size):
 Calls prog 116 #[.pointer (some ⟨g,0,none⟩),.int .i64 n,.int .i64 below] w fun e w'=>Keep K w w'∧WEnds (askE (decide (0≤n∧n<below)) 30) e (Wr w' base g K mp all (l++enc n.toNat)):=by
 have H:=hideIt h;clear h
 by_cases h0:n<0
 ·have hE:Hid (askE (decide (0≤n∧n<below)) 30=30):=hideIt (askE_f (decide_eq_false (by omega)))
  have d:decide (0≤n)=false:=decide_eq_false (by omega)
  clear h0
  go_enter func116,ntmps116
  go_wp2_with fail
  refine(mod_ask_no 30 0 _).mono ?_
  rintro e w1 ⟨rfl,rfl⟩
  go_wp2_with fail
  exact⟨rfl,Keep.refl _ _,.inr ⟨by rw [hE.out];decide,by rw [hE.out]⟩⟩
 obtain⟨k,rfl⟩:=Int.eq_ofNat_of_zero_le (show 0≤n by omega)
 have hE:Hid (askE (decide (0≤(k:Int)∧(k:Int)<below)) 30=askE (decide (k<below)) 30):=hideIt (by congr 1;exact decide_eq_decide.2 (by omega))
 have hk0:(0:Int)≤k:=by omega
 clear h0
 go_enter func116,ntmps116
 go_wp2_with fail
 refine(mod_ask _ 30 0 (by decide) _).mono ?_
 rintro e w1 ⟨rfl,⟨h0,rfl⟩ | ⟨h0,rfl⟩⟩
 ·have H0:=hideIt h0;clear h0
  go_wp2_with fail
  refine(wr_number k (by omega) base g K mp all l _ H.out hl hbase).mono ?_
  rintro e w1 ⟨rfl,hk,hw⟩
  have HK:=hideIt hk;have HW:=hideIt hw;clear hk hw
  go_wp2_with fail
  go_end0
  exact⟨HK.out,.inl ⟨by rw [hE.out];exact H0.out,rfl,HW.out⟩⟩
 ·have H0:=hideIt h0;clear h0
  go_wp2_with fail
  exact⟨rfl,Keep.refl _ _,.inr ⟨by rw [hE.out];exact H0.out,by rw [hE.out]⟩⟩
theorem wr_letters (v:Value) (s:ByteArray) (most:Int) (h47:s.size≤140737488351232) (w:World):
 Calls prog 114 #[v,.string s,.int .i64 most,.int .i64 0] w fun e w'=>Below w.heap.size w w'∧Ends (letErr s most) 0 e:=by
 go_enter func114,ntmps114
 go_wp2_with fail
 refine(mod_ask _ 13 0 (by decide) _).mono ?_
 rintro e w1 ⟨rfl,⟨h0,rfl⟩ | ⟨h0,rfl⟩⟩
 ·have H0:=hideIt h0;clear h0
  go_wp2_with fail
  refine(types_Shape s h47 _).mono ?_
  rintro e w1 ⟨h1,rfl⟩
  have H1:=hideIt h1;clear h1
  rw [show letB 256 s.data.toList=letS s from rfl]
  go_wp2_with fail
  refine(mod_ask _ 15 0 (by decide) _).mono ?_
  rintro e w2 ⟨rfl,⟨h0,rfl⟩ | ⟨h0,rfl⟩⟩
  ·have H2:=hideIt h0;clear h0
   go_wp2_with fail
   go_end0
   exact⟨H1.out,.inl ⟨by unfold letErr;rw [orE_r H0.out];exact H2.out,rfl⟩⟩
  ·have H2:=hideIt h0;clear h0
   go_wp2_with fail
   have he:letErr s most=askE (letS s) 15:=by unfold letErr;rw [orE_r H0.out]
   exact⟨rfl,H1.out,.inr ⟨by rw [he];exact H2.out,by rw [he]⟩⟩
 ·have H0:=hideIt h0;clear h0
  go_wp2_with fail
  have he:letErr s most=askE (decide ((s.size:Int)≤most)) 13:=by unfold letErr;rw [orE_l H0.out]
  exact⟨rfl,Below.refl _ _,.inr ⟨by rw [he];exact H0.out,by rw [he]⟩⟩
theorem wr_value (x:GlobV) (w:World):
 Calls prog 117 #[.agg #[bv x.l,.bool x.m,uv x.v],.int .i64 0] w fun e w'=>Below w.heap.size w w'∧Ends (askE (fitN x.v x.l.toNat) 17) 0 e:=by
 unfold bv uv
 go_enter func117,ntmps117
 go_wp2_with fail
 generalize hw:w.alloc _=w1
 have H1:Hid (Below w.heap.size w w1):=by rw [←hw];exact hideIt ((Below.refl _ _).alloc (Nat.le_refl _) _)
 clear hw
 refine(types_Fits x.v x.l.toNat (UInt8.toNat_lt x.l) w1).mono ?_
 rintro e w2 ⟨rfl,rfl⟩
 go_wp2_with fail
 refine(mod_ask _ 17 0 (by decide) _).mono ?_
 rintro e w2 ⟨rfl,⟨h0,rfl⟩ | ⟨h0,rfl⟩⟩
 ·have H2:=hideIt h0;clear h0
  go_wp2_with fail
  go_end0
  exact⟨H1.out,.inl ⟨H2.out,rfl⟩⟩
 ·have H2:=hideIt h0;clear h0
  go_wp2_with fail
  exact⟨rfl,H1.out,.inr ⟨H2.out,rfl⟩⟩
def nilS:Value:= .slice none 0 0
structure SnV (W:World) (base gs:Nat) (first:Int) (ts:List SigV) (T:Option Addr) (d:Nat):Prop where
 blk:Blk W gs 29 [.slice T ts.length d,.slice none 0 0,.slice none 0 0,.int .i64 first,.int .i64 0,.slice none 0 0,.slice none 0 0,.slice none 0 0]
 own:W.ownsRow base 51 2 (.slice T ts.length d) ts.length (ts.flatMap sigC)
 ok: ∀x∈ts,Rd.SOk x.p∧Rd.SOk x.r
theorem sigEq_iff {x y:SigV}:sigEq x y=true↔x=y:=by
 unfold sigEq
 rw [Bool.and_eq_true,decide_eq_true_iff,decide_eq_true_iff]
 constructor
 ·rintro⟨h1,h2⟩;cases x;cases y;simp_all
 ·rintro rfl;exact⟨rfl,rfl⟩
theorem any_not {ts:List SigV} {x:SigV} {n:Nat} (h: ∀j y,j<n→ts[j]?=some y→y≠x):(ts.take n).any (fun y=>sigEq y x)=false:=by
 rw [List.any_eq_false]
 intro y hy he
 obtain⟨j,hj⟩:=List.getElem?_of_mem hy
 rw [List.getElem?_take] at hj
 split at hj
 ·rename_i hlt;exact h j y hlt hj (sigEq_iff.1 he)
 ·cases hj
theorem any_yes {ts:List SigV} {x:SigV} {n k:Nat} (h:ts[k]?=some x) (hk:k<n):(ts.take n).any (fun y=>sigEq y x)=true:=by
 rw [List.any_eq_true]
 exact⟨x,List.mem_of_getElem? (i:=k) (by rw [List.getElem?_take,if_pos hk];exact h),sigEq_iff.2 rfl⟩
theorem own_le_cap {W:World} {base:Nat} {e:TypeId} {size:Nat} {A:Option Addr} {n c:Nat} {xs:List Value} (h:W.ownsRow base e size (.slice A n c) n xs):n≤c:=by
 rcases h.2 with⟨hv,h0⟩ | ⟨g,cap,cur,hv,_,_,hc,_⟩
 ·injection hv with h1 h2 h3;subst h2;omega
 ·injection hv with h1 h2 h3;omega
theorem int_pred (n:Nat):((n:Int)+1)-1=(n:Int):=by omega
theorem wr_twice (base g gs:Nat) (first:Int) (ts:List SigV) (T:Option Addr) (d n:Nat) (x:SigV) (w:World) (hg:w.cell? ⟨g,0,none⟩=some (.pointer (some ⟨gs,0,none⟩))) (hs:SnV w base gs first ts T d)
 (hn:ts.length=n+1) (hx:ts[n]?=some x) (h47:n≤1000000):
 Calls prog 102 #[.pointer (some ⟨g,0,none⟩),.int .i64 0] w fun e w'=>Below w.heap.size w w'∧Ends (askE (!(ts.take n).any (fun y=>sigEq y x)) 16) 0 e:=by
 have hr:=flat_sig.reads hs.own rfl hs.ok
 rw [hn] at hr
 have Hr:=hideIt hr
 obtain⟨b,o,rfl,_,hbh,hx0,hx1,po_p,po_r⟩:=rSig_at hr hx
 have hc0:w.cell? ⟨gs,0,none⟩=some (.slice (some ⟨b,o,none⟩) (n+1) d):=by have:=hs.blk.cell 0;rw [hn] at this;exact this
 have Hx:=hideIt hx
 have hcap:n+1≤d:=by have:=own_le_cap hs.own;omega
 have hcap':n≤d:=by omega
 clear hs hr hn hx po_p po_r
 go_enter func102,ntmps102
 go_wp2_with fail
 go_loopw [20] (fun i wr=> ∃k:Nat,k≤n∧i= .int .i64 k∧Below w.heap.size w wr∧ ∀j y,j<k→ts[j]?=some y→y≠x) (fun i _=>n-(intOf i).toNat)
 case atStart=>exact⟨0,Nat.zero_le _,rfl,Below.refl _ _,fun j y hj=>absurd hj (by omega)⟩
 case round=>
  obtain⟨k,hk,rfl,hbel,hall⟩:=hrel
  have Hall:=hideIt hall;have Hb:=hideIt hbel;clear hall hbel
  by_cases hlt:k<n
  ·have hlen:=sl_len Hr.out
   obtain⟨y,hy⟩: ∃y,ts[k]?=some y:=⟨_,List.getElem?_eq_getElem (by omega)⟩
   obtain⟨b',o',he,_,_,hy0,hy1,_,_⟩:=rSig_at Hr.out hy
   injection he with he
   injection he with he1 he2
   subst he1 he2
   have Hy:=hideIt hy
   have ha0:=(Hb.out.cell (p:=⟨b,o+k*2,none⟩) hbh).trans hy0
   have ha1:=(Hb.out.cell (p:=⟨b,o+k*2+1,none⟩) hbh).trans hy1
   have hb0:=(Hb.out.cell (p:=⟨b,o+n*2,none⟩) hbh).trans hx0
   have hb1:=(Hb.out.cell (p:=⟨b,o+n*2+1,none⟩) hbh).trans hx1
   have hk0:(0:Int)≤k:=by omega
   clear hy hy0 hy1 hlen
   go_wp2_with fail
   generalize hw:wr.alloc _=w1
   have H1:Hid (Below w.heap.size w w1):=by rw [←hw];exact hideIt (Hb.out.alloc Hb.out.size _)
   have Hn1:Hid (Blk w1 wr.heap.size 51 [.string y.p,.string y.r]):=by rw [←hw];exact hideIt (Blk.new wr 51 [.string y.p,.string y.r])
   have hd0:=(H1.out.cell (p:=⟨b,o+n*2,none⟩) hbh).trans hx0
   have hd1:=(H1.out.cell (p:=⟨b,o+n*2+1,none⟩) hbh).trans hx1
   have hn0:=Hn1.out.q 0 rfl
   have hn1:=Hn1.out.q 1 rfl
   clear hw ha0 ha1 hb0 hb1
   have hi0:(0:Int)≤n:=by omega
   have hi1:(n:Int)<(n:Int)+1:=by omega
   have hi2:(n:Int)<((n+1:Nat):Int):=by omega
   have hw1:IntKind.i64.wrap (n:Int)=(n:Int):=by rw [IntKind.wrap_i64];omega
   have hw2:IntKind.i64.wrap ((n:Int)+1-1)=(n:Int):=by rw [IntKind.wrap_i64];omega
   by_cases h0:y.p=x.p
   case neg=>
    have HN:Hid (∀j z,j<k+1→ts[j]?=some z→z≠x):=hideIt (fun j z hj hz=>by
     by_cases hjk:j<k
     ·exact Hall.out j z hjk hz
     ·obtain rfl:j=k:=by omega
      rw [Hy.out] at hz
      injection hz with hz
      subst hz
      exact fun e=>h0 (by rw [e]))
    have hne:=str_ne h0
    clear h0
    go_region_held3 (fun w'=>w'.cell? ⟨wr.heap.size,0,none⟩=some (.string y.p)∧w'.cell? ⟨wr.heap.size,1,none⟩=some (.string y.r)∧w'.cell? ⟨b,o+n*2,none⟩=some (.string x.p)∧w'.cell? ⟨b,o+n*2+1,none⟩=some (.string x.r)) (first | exact⟨hn0,hn1,hd0,hd1⟩)
     (first | (go_at_call 68;refine(mod_ask_yes 16 0 _).mono ?_;rintro e w' ⟨rfl,rfl⟩))
    go_wp2_with fail
    exact⟨⟨k+1,by omega,by go_num,below_drewN H1.out 1,HN.out⟩,by simp [intOf];omega⟩
   rw [h0] at hn0
   by_cases h1:y.r=x.r
   case neg=>
    have h0:=h1
    have HN:Hid (∀j z,j<k+1→ts[j]?=some z→z≠x):=hideIt (fun j z hj hz=>by
     by_cases hjk:j<k
     ·exact Hall.out j z hjk hz
     ·obtain rfl:j=k:=by omega
      rw [Hy.out] at hz
      injection hz with hz
      subst hz
      exact fun e=>h0 (by rw [e]))
    have hne:=str_ne h0
    clear h0
    go_region_held3 (fun w'=>w'.cell? ⟨wr.heap.size,0,none⟩=some (.string x.p)∧w'.cell? ⟨wr.heap.size,1,none⟩=some (.string y.r)∧w'.cell? ⟨b,o+n*2,none⟩=some (.string x.p)∧w'.cell? ⟨b,o+n*2+1,none⟩=some (.string x.r)) (first | exact⟨hn0,hn1,hd0,hd1⟩)
     (first | (go_at_call 68;refine(mod_ask_yes 16 0 _).mono ?_;rintro e w' ⟨rfl,rfl⟩))
    go_wp2_with fail
    exact⟨⟨k+1,by omega,by go_num,below_drewN H1.out 1,HN.out⟩,by simp [intOf];omega⟩
   rw [h1] at hn1
   have HX:Hid (y=x):=hideIt (by cases y;cases x;simp_all)
   have hE:Hid (askE (!(ts.take n).any (fun z=>sigEq z x)) 16=16):=hideIt (askE_f (by rw [any_yes (by rw [Hy.out,HX.out]) hlt];rfl))
   clear h0 h1
   go_region_dies
   all_goals
    refine(mod_ask_no 16 0 _).mono ?_
    rintro e w' ⟨rfl,rfl⟩
    exact⟨rfl,below_drewN H1.out 1,.inr ⟨by rw [hE.out];decide,by rw [hE.out]⟩⟩
  ·obtain rfl:k=n:=by omega
   have hE:Hid (askE (!(ts.take k).any (fun z=>sigEq z x)) 16=0):=hideIt (askE_t (by rw [any_not Hall.out];rfl))
   go_wp2_with fail
   go_end0
   exact⟨Hb.out,.inl ⟨hE.out,rfl⟩⟩
end Go.Proofs.YtebgikflpgcnlaaGreatDoor
