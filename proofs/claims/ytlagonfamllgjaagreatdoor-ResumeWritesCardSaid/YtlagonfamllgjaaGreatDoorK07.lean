/- Part 7 of the proof: ModA AppB Wide WireE WireF WireH ModB ModC -/
import Derived.Defers
import Derived.Recover
import Derived.WalkSmall
import Derived.ArgAppend
import Derived.Lib.AppendStr
import Derived.Deep.DrawnRows
import Derived.Deep.RegionHeldLaw
import Derived.Deep.RegionHeld3
import Derived.Test.YtlagonfamllgjaaGreatDoorK06
namespace Go.Proofs.YtlagonfamllgjaaGreatDoor
set_option linter.unusedVariables false
set_option linter.unusedSimpArgs false
set_option maxRecDepth 100000
set_option maxHeartbeats 4000000
open Go.RowKit Tryz
def fault (e at_:Int):Value:= .iface 226 (.agg #[.int .i64 e,.int .i64 at_])
def thrown (e at_:Int):List PanicEntry:= [{v:=fault e at_,recovered:=false}]
def Ends (err at_:Int) (e:Ending):Prop:=(err=0∧e= .returned (.tuple #[]))∨(err≠0∧e= .panicked (thrown err at_))
theorem Dp (e at_:Int) (w:World):Calls prog 130 #[.bool true,.int .i64 e,.int .i64 at_] w fun en w'=>w=w'∧en= .returned (.tuple #[]):=by
 go_enter func130,ntmps130
 go_wp2
 go_end0
 exact⟨rfl,rfl⟩
theorem DT (e at_:Int) (w:World):Calls prog 130 #[.bool false,.int .i64 e,.int .i64 at_] w fun en w'=>w=w'∧en= .panicked (thrown e at_):=by
 go_enter func130,ntmps130
 go_wp2
 exact⟨rfl,rfl,rfl⟩
theorem FD (b:Bool) (e at_:Int) (he:e≠0) (w:World):Calls prog 130 #[.bool b,.int .i64 e,.int .i64 at_] w fun en w'=>w=w'∧Ends (Ae b e) at_ en:=by
 cases b with
 | true=>exact(Dp e at_ w).mono fun en w' h=>⟨h.1,.inl ⟨rfl,h.2⟩⟩
 | false=>exact(DT e at_ w).mono fun en w' h=>⟨h.1,.inr ⟨he,h.2⟩⟩
theorem Xf (pe pa:Addr) (w:World):
 CallsD prog 127 #[.pointer (some pe),.pointer (some pa)] .returning w fun e u' w'=>e= .returned (.tuple #[])∧u'= .returning∧w'=w:=by
 refine callsD_of_wpS func127 rfl fun c₀ cs hu=> ?_
 apply wpS_seq
 apply wpS_region
 simp [wpOpsS,go_sem,recoverD,hu,ntmps127,Exit.thenS,Array.replicate]
 have Hu:=AA hu;clear hu
 refine wpS_of_wp ?_
 go_wp2_with fail
 simp [bodyPostS,results,results127,←Hu.out]
theorem Vp (v:Value) (W:World):(Instr.typeAssert (.iface 226 v) 20 226 true).run prog W= .ok (.tuple #[v,.bool true]) W:=by kernel_rfl
theorem LX (err at_:Int) (ge ga:Nat) (e0 a0:Int) (w:World) (he:AQ w ge 41 [.int .i64 e0]) (ha:AQ w ga 3 [.int .i64 a0]) (hne:ge≠ga):
 CallsD prog 127 #[.pointer (some ⟨ge,0,none⟩),.pointer (some ⟨ga,0,none⟩)] (.panicking (thrown err at_)) w fun e u' w'=>
  e= .returned (.tuple #[])∧u'= .panicking [{v:=fault err at_,recovered:=true}]∧Keep (fun k=>k≠ge∧k≠ga) w w'∧AQ w' ge 41 [.int .i64 err]∧AQ w' ga 3 [.int .i64 at_]:=by
 refine callsD_of_wpS func127 rfl fun c₀ cs hu=> ?_
 apply wpS_seq
 apply wpS_region
 simp [wpOpsS,go_sem,recoverD,hu,ntmps127,Exit.thenS,thrown,Array.replicate]
 have Hu:=AA hu;clear hu
 refine wpS_of_wp ?_
 have He:=AA he;have Ha:=AA ha
 have hge:=he.lt
 have hga:=ha.lt
 have hc1:=he.q 0 rfl
 have hc2:=ha.q 0 rfl
 have hf1:=he.frozen 0
 have hf2:=ha.frozen 0
 clear he ha
 unfold fault
 have has:=Vp (.agg #[.int .i64 err,.int .i64 at_])
 go_wp2_with fail
 go_region
 all_goals go_wp2_with fail
 have hk:Keep (fun k=>k≠ge∧k≠ga) w ((((w.setCell ⟨ge,0,none⟩ (.int .i64 err)).setCell ⟨ga,0,none⟩ (.int .i64 at_)).alloc (.cells #[.int .i64 err,.int .i64 at_] 226)).drew):=
  ((((Keep.refl _ w).setCell (p:=⟨ge,0,none⟩) (by simp) _).setCell (p:=⟨ga,0,none⟩) (by simp) _).alloc _).drew
 have hb1:AQ ((((w.setCell ⟨ge,0,none⟩ (.int .i64 err)).setCell ⟨ga,0,none⟩ (.int .i64 at_)).alloc (.cells #[.int .i64 err,.int .i64 at_] 226)).drew) ge 41 [.int .i64 err]:=
  (((He.out.set 0 (.int .i64 err)).far (p:=⟨ga,0,none⟩) hne _).alloc _).drewN 1
 have hb2:AQ ((((w.setCell ⟨ge,0,none⟩ (.int .i64 err)).setCell ⟨ga,0,none⟩ (.int .i64 at_)).alloc (.cells #[.int .i64 err,.int .i64 at_] 226)).drew) ga 3 [.int .i64 at_]:=
  (((Ha.out.far (p:=⟨ge,0,none⟩) (Ne.symm hne) _).set 0 (.int .i64 at_)).alloc _).drewN 1
 refine⟨rfl,_,rfl,.tuple #[],?_,rfl,rfl,hk,hb1,hb2⟩
 simp [results,results127]
theorem J4 (u:FrameMode) (ge gb:Nat) (e0:Int) (v:Value) (w:World) (he:AQ w ge 41 [.int .i64 e0]) (hb:AQ w gb 40 [v]):
 CallsD prog 126 #[.pointer (some ⟨ge,0,none⟩),.pointer (some ⟨gb,0,none⟩)] u w fun e u' w'=>
  u'=u∧(e= .returned (.tuple #[])∧Keep (fun k=>k≠gb) w w'∧AQ w' gb 40 [if e0=0 then v else .slice none 0 0]):=by
 have He:=AA he;have Hb:=AA hb
 have hge:=he.lt
 have hgb:=hb.lt
 have hc1:=he.q 0 rfl
 have hc2:=hb.q 0 rfl
 have hf2:=hb.frozen 0
 clear he hb
 by_cases h0:e0=0
 ·subst h0
  go_enter_d func126,ntmps126
  go_wp2_with fail
  go_end0
  exact⟨rfl,Keep.refl _ _,Hb.out⟩
 ·have hne:(e0 !=0)=true:=by simpa using h0
  rw [if_neg h0]
  go_enter_d func126,ntmps126
  go_wp2_with fail
  go_end0
  exact⟨rfl,(Keep.refl _ _).setCell (by simp) _,Hb.out.set 0 _⟩
def Ey (w:World) (base:Nat) (e:TypeId) (v:Value) (n:Nat) (xs:List Value):Prop:=
 w.ownsRow base e 1 v n xs∨ ∃g fz,v= .slice (some ⟨g,0,none⟩) n n∧base≤g∧w.heap[g]?=some (.cells xs.toArray e fz)∧xs.length=n
section
variable {w w':World} {base:Nat} {e:TypeId} {v:Value} {n:Nat} {xs:List Value} {K:Nat→Prop}
theorem Ey.lt (h:Ey w base e v n xs): ∀k,v.ownBlock=some k→base≤k∧k<w.heap.size:=by
 rcases h with h | ⟨g,fz,rfl,hb,hg,hl⟩
 ·exact h.lt
 ·intro k hk
  injection hk with hk
  have hk:g=k:=hk
  subst hk
  exact⟨hb,(Array.getElem?_eq_some_iff.1 hg).1⟩
theorem Ey.C8 (h:Ey w base e v n xs) (hk:Keep K w w') (hg: ∀k,v.ownBlock=some k→K k):Ey w' base e v n xs:=by
 rcases h with h | ⟨g,fz,rfl,hb,hh,hl⟩
 ·exact .inl (DZ h hk hg)
 ·exact .inr ⟨g,fz,rfl,hb,(hk.block g (Array.getElem?_eq_some_iff.1 hh).1 (hg g rfl)).trans hh,hl⟩
theorem Ey.SG (h:Ey w base e v n xs) (hb:Below w.heap.size w w'):Ey w' base e v n xs:=
 h.C8 (K:=fun _=>True) (Keep.DK hb) fun _ _=>trivial
theorem Ey.kW (h:Ey w base e v n xs) {p:Addr} (hp:v.ownBlock≠some p.block) (u:Value):Ey (w.setCell p u) base e v n xs:=
 h.C8 (K:=fun k=>k≠p.block) ((Keep.refl _ _).setCell (by simp) u) (fun k hk e=>hp (by rw [hk,e]))
theorem Ey.alloc (h:Ey w base e v n xs) (o:Obj):Ey (w.alloc o) base e v n xs:=
 h.SG ((Below.refl _ _).alloc (Nat.le_refl _) _)
end
theorem Xg {P:Program} (w:World) (base:Nat) (t ty e:TypeId) (i:TypeInfo) (z:Value) (bytes:Nat) (ht:P.underlying t=some (.slice e)) (hi:P.info? e=some i) (hz:i.zero=some z)
 (hsize:i.size=1) (hby:i.bytes=bytes) (hzs:z.cells.size=1)
 (v:Value) (n:Nat) (xs:List Value) (hown:Ey w base e v n xs)
 (B:Nat) (A:Option Addr) (m c:Nat) (news:List Value) (hm0:0<m) (hm:news.length=m*1) (hr:Row w B A news) (h1: ∀u∈news,u.oneCell'=true)
 (h63:n+m≤maxLen) (hbytes:(n+m)*bytes≤140737488355328) (hbase:base≤w.heap.size):
 ∃v' w',(Builtin.append_ #[t,t] ty #[v,.slice A m c]).run P w= .ok v' w'∧w'.ownsRow base e 1 v' (n+m) (xs++news)∧w.grownBy w' v.ownBlock∧
  (v'.ownBlock=v.ownBlock∨v'.ownBlock=some w.heap.size):=by
 rcases hown with hown | ⟨g,fz,rfl,hb,hh,hl⟩
 ·exact Rv w base t ty e i z 1 bytes ht hi hz hsize hby hzs (by omega) v n xs hown B A m c news hm hr h1 h63 hbytes hbase
 ·obtain⟨b,o,rfl,_,hc⟩:=hr (by omega)
  obtain⟨v',w',hrun,r1,r2⟩:=run_append_arg_grows (P:=P) w t ty e i z 1 bytes ht hi hz hsize hby hzs (by omega) ⟨g,0,none⟩ n n xs (by omega) (fun j u hj=>by
   rw [Addr.add_lit,Nat.zero_add]
   simp only [World.cell?,hh]
   simp [hj]) ⟨b,o,none⟩ m c news hm (fun j u hj=>by rw [Addr.add_lit];exact hc j u hj) (by omega) h63 hbytes
  refine⟨v',w',hrun,r1.mono hbase,⟨r2.os,r2.tape,r2.output,r2.size,fun k h1 _=>r2.block k h1 (by simp)⟩,.inr ?_⟩
  have hr2:=run_append_grow (P:=P) w t ty e i z ht hi hz ⟨g,0,none⟩ n n xs (by rw [hsize];omega) (fun j u hj=>by
   rw [Addr.add_lit,Nat.zero_add]
   simp only [World.cell?,hh]
   simp [hj]) ⟨b,o,none⟩ m c news (by rw [hsize];exact hm) (fun j u hj=>by rw [Addr.add_lit];exact hc j u hj) (by omega) (by unfold maxLen at h63;omega) (by rw [hby];exact growslice_fits (by omega) hbytes)
  rw [hr2] at hrun
  injection hrun with e1 e2
  rw [←e1]
  rfl
theorem MV {P:Program} (w:World) {ops:Array Oper} {rest:List Oper} {o:Oper} {a:Act} {Q:Exit→Act→World→Prop} (hgd:o.guard=none) (s x:Operand) (t:TypeId)
 (ho:o.op= .call {callee:= .builtin .append,args:= #[s,x],argTypes:= #[t,t]})
 (base:Nat) (e:TypeId) (i:TypeInfo) (z:Value) (bytes:Nat) (ht:P.underlying t=some (.slice e)) (hi:P.info? e=some i) (hz:i.zero=some z)
 (hsize:i.size=1) (hby:i.bytes=bytes) (hzs:z.cells.size=1)
 (v:Value) (n:Nat) (xs:List Value) (hs:a.eval s=v) (hown:Ey w base e v n xs)
 (B:Nat) (A:Option Addr) (m c:Nat) (news:List Value) (hm0:0<m) (hx:a.eval x= .slice A m c) (hm:news.length=m*1) (hr:Row w B A news) (h1: ∀u∈news,u.oneCell'=true)
 (h63:n+m≤maxLen) (hbytes:(n+m)*bytes≤140737488355328) (hbase:base≤w.heap.size)
 (h: ∀A' c' w',w'.ownsRow base e 1 (.slice A' (n+m) c') (n+m) (xs++news)→w.grownBy w' v.ownBlock→((Value.slice A' (n+m) c').ownBlock=v.ownBlock∨(Value.slice A' (n+m) c').ownBlock=some w.heap.size)→wpList P ops Q rest (a.put o.dst (.slice A' (n+m) c')) w'):wpList P ops Q (o::rest) a w:=by
 refine wpList_plain hgd fun _ hK=> ?_
 obtain⟨v',w',hrun,h2,h3,h4⟩:=Xg (P:=P) w base t o.type e i z bytes ht hi hz hsize hby hzs v n xs hown B A m c news hm0 hm hr h1 h63 hbytes hbase
 obtain⟨A',c',rfl⟩:=NC h2
 unfold Oper.wp execOp
 simp only [ho,resolve,invoke,builtin,Sem.run_bind,Sem.run_pure,Result.andThen_ok,List.map_toArray,List.map_cons,List.map_nil,hs,hx,hrun]
 exact hK _ _ (h A' c' w' h2 h3 h4)
theorem Gc {P:Program} {ops:Array Oper} {o:Oper} {a:Act} {w:World} {K:Act→World→Prop} {Q:Exit→Act→World→Prop} {E:Prop}
 (hg:o.guard=none) (s x:Operand) (t:TypeId) (hop:o.op=Op.call {callee:=Callee.builtin Builtin.append,args:= #[s,x],argTypes:= #[t,t]})
 (base:Nat) (e:TypeId) (i:TypeInfo) (z:Value) (bytes:Nat) (ht:P.underlying t=some (.slice e)) (hi:P.info? e=some i) (hz:i.zero=some z)
 (hsize:i.size=1) (hby:i.bytes=bytes) (hzs:z.cells.size=1)
 (v:Value) (n:Nat) (xs:List Value) (hs:a.eval s=v) (hown:Ey w base e v n xs)
 (B:Nat) (A:Option Addr) (m c:Nat) (news:List Value) (hm0:0<m) (hx:a.eval x= .slice A m c) (hm:news.length=m*1) (hr:Row w B A news) (h1: ∀u∈news,u.oneCell'=true)
 (h63:n+m≤maxLen) (hbytes:(n+m)*bytes≤140737488355328) (hbase:base≤w.heap.size)
 (h: ∀A' c' w',w'.ownsRow base e 1 (.slice A' (n+m) c') (n+m) (xs++news)→w.grownBy w' v.ownBlock→((Value.slice A' (n+m) c').ownBlock=v.ownBlock∨(Value.slice A' (n+m) c').ownBlock=some w.heap.size)→K (a.put o.dst (.slice A' (n+m) c')) w'):
 if Region.wanted o (yielded ops a.tmps)=true then Oper.wp P o a w K Q else E:=by
 have hw:Region.wanted o (yielded ops a.tmps)=true:=by simp [Region.wanted,hg]
 rw [if_pos hw]
 obtain⟨v',w',hrun,h2,h3,h4⟩:=Xg (P:=P) w base t o.type e i z bytes ht hi hz hsize hby hzs v n xs hown B A m c news hm0 hm hr h1 h63 hbytes hbase
 obtain⟨A',c',rfl⟩:=NC h2
 unfold Oper.wp
 simp [execOp,hop,resolve,invoke,builtin,hs,hx,hrun,Result.andThen]
 exact h A' c' w' h2 h3 h4
theorem EJ:(prog.info? 5).map (fun i=>(i.zero,i.size,i.bytes))=some (some (.int .u8 0),1,1):=by kernel_rfl
theorem Eo (w:World) {ops:Array Oper} {rest:List Oper} {o:Oper} {a:Act} {Q:Exit→Act→World→Prop} (hgd:o.guard=none) (s x:Operand)
 (ho:o.op= .call {callee:= .builtin .append,args:= #[s,x],argTypes:= #[40,40]}) (base:Nat)
 (A:Option Addr) (n c:Nat) (xs:List Value) (hs:a.eval s= .slice A n c) (hown:w.ownsRow base 5 1 (.slice A n c) n xs)
 (B:Nat) (A2:Option Addr) (m c2:Nat) (ys:List Value) (hx:a.eval x= .slice A2 m c2) (hm:m=ys.length) (hr:Row w B A2 ys) (h1: ∀u∈ys,u.oneCell'=true)
 (h47:n+m≤140737488351232) (hbase:base≤w.heap.size)
 (h: ∀A' c' w',w'.ownsRow base 5 1 (.slice A' (n+m) c') (n+m) (xs++ys)→w.grownBy w' (Value.slice A n c).ownBlock→Below base w w'→wpList prog ops Q rest (a.put o.dst (.slice A' (n+m) c')) w'):wpList prog ops Q (o::rest) a w:=by
 obtain⟨i0,hi,hz,hs',hb⟩:=info_parts EJ
 exact D9 w hgd s x 40 ho base 5 i0 (.int .u8 0) 1 underlying40 hi hz hs' hb rfl _ n xs hs hown B A2 m c2 ys hx hm hr h1 (by unfold maxLen;omega) (by omega) hbase
  fun A' c' w' h2 h3 _=>h A' c' w' h2 h3 (own_below hown h3 hbase)
theorem SH (A A2:Option Addr) (n c m c2 B base:Nat) (w:World) (xs ys:List Value) (hown:w.ownsRow base 5 1 (.slice A n c) n xs) (hm:m=ys.length) (hr:Row w B A2 ys) (h1: ∀u∈ys,u.oneCell'=true)
 (h47:n+m≤140737488351232) (hbase:base≤w.heap.size):
 Calls prog 124 #[.slice A n c,.slice A2 m c2] w fun e w'=> ∃A' c',e= .returned (.slice A' (n+m) c')∧w'.ownsRow base 5 1 (.slice A' (n+m) c') (n+m) (xs++ys)∧w.grownBy w' (Value.slice A n c).ownBlock:=by
 obtain⟨i0,hi,hz,hs,hb⟩:=info_parts EJ
 have Hm:=AA hm;clear hm
 go_enter func124,ntmps124
 go_wp2_with (at_builtin;refine D9 _ rfl _ _ 40 rfl base 5 i0 (.int .u8 0) 1 underlying40 hi hz hs hb rfl _ n xs rfl hown B A2 m c2 ys rfl Hm.out hr h1 (by unfold maxLen;omega) (by omega) hbase ?_;intro A' c' w' h2 h3 _)
 go_ret
 exact⟨A',c',rfl,h2,h3⟩
def xg (v0:Nat) (w:World) (L V:Value) (wr:World):Prop:=
 ∃(v:Nat) (xs:List UInt8) (A:Option Addr) (c:Nat),L= .slice A xs.length c∧V= .int .u64 v∧v<18446744073709551616∧xs++enc v=enc v0∧
  wr.ownsRow w.heap.size 5 1 (.slice A xs.length c) xs.length (xs.map bv)∧Below w.heap.size w wr
theorem Gd (v0:Nat) (hv0:v0<18446744073709551616) (w:World):
 Calls prog 102 #[.int .u64 v0] w fun e w'=> ∃A c,e= .returned (.slice A (enc v0).length c)∧w'.ownsRow w.heap.size 5 1 (.slice A (enc v0).length c) (enc v0).length ((enc v0).map bv)∧Below w.heap.size w w':=by
 have hl10:=AU v0 hv0
 go_enter func102,ntmps102
 go_wp2_with fail
 go_loopw [3,0] (fun L V wr=>xg v0 w L V wr) (fun _ V _=>(intOf V).toNat)
 case atStart=>exact⟨v0,[],none,0,rfl,rfl,hv0,rfl,World.ownsRow_nil _ _ _ _,Below.refl _ _⟩
 case round=>
  obtain⟨v,xs,A,c,rfl,rfl,hv,hR,hown,hbel⟩:=hrel
  have HR:=AA hR;clear hR
  have Zc:=AA hown;clear hown
  have BM:=AA hbel;clear hbel
  have hxs:xs.length≤10:=by have:=congrArg List.length HR.out;rw [List.length_append] at this;omega
  by_cases hlt:v<128
  ·have hge: ¬(128:Int)≤v:=by omega
   have zf:Hid (xs.map bv++ [.int .u8 (v:Int)]=(enc v0).map bv):=AA (by rw [←HR.out,FX v hlt,List.map_append];simp [EU v (by omega)])
   have Hlen:Hid (xs.length+1=(enc v0).length):=AA (by rw [←HR.out,FX v hlt,List.length_append];rfl)
   go_wp2_with fail
   have hsz:w.heap.size≤(wr.alloc (.cells #[.int .u8 (v:Int)] 5)).heap.size:=by have:=BM.out.size;simp;omega
   refine(SH A _ xs.length c 1 1 (wr.heap.size+1) w.heap.size _ (xs.map bv) [.int .u8 (v:Int)] (Zc.out.alloc _) rfl (row_one _ _ _) (by simp [Value.oneCell']) (by omega) hsz).mono ?_
   rintro e w1 ⟨A',c',rfl,h2,h3⟩
   have H2:=AA h2;clear h2
   have H3:Hid (Below w.heap.size w w1):=AA (((BM.out.alloc BM.out.size _)).trans (own_below (Zc.out.alloc _) h3 hsz))
   clear h3 hsz
   go_wp2_with fail
   go_ret
   rw [←Hlen.out,←zf.out]
   exact⟨A',c',rfl,H2.out,H3.out⟩
  ·have hge:(128:Int)≤v:=by omega
   have hx:bits .or .u8 ((v:Int)%256) 128=((v%128+128:Nat):Int):=by
    rw [show(v:Int)%256=((v%256:Nat):Int)from by omega,ACs _ (by omega)]
    omega
   have Hx:=AA hx;clear hx
   have kX:Hid ((xs++ [UInt8.ofNat (v%128+128)])++enc (v/128)=enc v0):=AA (by rw [←HR.out,NA v hlt,List.append_assoc];rfl)
   go_wp2_with fail
   rw [Hx.out]
   have hsz:w.heap.size≤(wr.alloc (.cells #[.int .u8 ((v%128+128:Nat):Int)] 5)).heap.size:=by have:=BM.out.size;simp;omega
   refine(SH A _ xs.length c 1 1 (wr.heap.size+1) w.heap.size _ (xs.map bv) [.int .u8 ((v%128+128:Nat):Int)] (Zc.out.alloc _) rfl (row_one _ _ _) (by simp [Value.oneCell']) (by omega) hsz).mono ?_
   rintro e w1 ⟨A',c',rfl,h2,h3⟩
   have H2:=AA h2;clear h2
   have H3:Hid (Below w.heap.size w w1):=AA (((BM.out.alloc BM.out.size _)).trans (own_below (Zc.out.alloc _) h3 hsz))
   clear h3 hsz
   go_wp2_with fail
   refine⟨⟨v/128,xs++ [UInt8.ofNat (v%128+128)],A',c',by simp,by go_num,by omega,kX.out,?_,H3.out⟩,?_⟩
   ·have:=H2.out
    rw [←EU _ (by omega),show [bv (UInt8.ofNat (v%128+128))]= [UInt8.ofNat (v%128+128)].map bv from rfl,←List.map_append] at this
    simpa using this
   ·simp [intOf];omega
theorem U2 (v:Int) (h0: -9223372036854775808≤v) (h1:v<9223372036854775808) (w:World):
 Calls prog 157 #[.int .i64 v] w fun e w'=> ∃A c,e= .returned (.slice A (enc (folded v)).length c)∧w'.ownsRow w.heap.size 5 1 (.slice A (enc (folded v)).length c) (enc (folded v)).length ((enc (folded v)).map bv)∧Below w.heap.size w w':=by
 go_enter func157,ntmps157
 go_wp2_with fail
 rw [fC v h0 h1]
 refine(Gd (folded v) (IK v h0 h1) w).mono ?_
 rintro e w1 ⟨A,c,rfl,h2,h3⟩
 have H2:=AA h2;clear h2
 have H3:=AA h3;clear h3
 go_wp2_with fail
 go_ret
 exact⟨A,c,rfl,H2.out,H3.out⟩
theorem fK (w:World) (e:TypeId) (s:ByteArray):Row (Lib.bytesWorld w e s) (w.heap.size+1) (some ⟨w.heap.size,0,none⟩) (s.data.toList.map bv):=by
 intro _
 refine⟨w.heap.size,0,rfl,Nat.lt_succ_self _,fun j u hu=> ?_⟩
 have hj:j<s.size:=by have:=(List.getElem?_eq_some_iff.1 hu).1;simpa using this
 rw [Nat.zero_add,Lib.bytesWorld_cell w e s j hj,←hu,List.getElem?_map]
 have hj':j<s.data.toList.length:=by simpa using hj
 rw [List.getElem?_eq_getElem hj',List.getD,List.getElem?_eq_getElem hj']
 rfl
theorem Xh (w:World) (e:TypeId) (s:ByteArray):Below w.heap.size w (Lib.bytesWorld w e s):=
 ⟨rfl,rfl,rfl,by rw [Lib.bytesWorld_size];omega,fun k hk=>Lib.bytesWorld_at_old w e s k hk⟩
theorem Ch {w w':World} {base:Nat} {e:TypeId} {v:Value} {n:Nat} {xs:List Value} (h:w.ownsRow base e 1 v n xs) (hb:Below w.heap.size w w'):w'.ownsRow base e 1 v n xs:=
 h.kept (row:=some w.heap.size) ⟨hb.os,hb.tape,hb.output,hb.size,fun k hk _=>hb.block k hk⟩ (by
  cases hv:v.ownBlock with
  | none=>exact .inl rfl
  | some k=>right;intro e;injection e with e;have:=(h.lt k hv).2;omega)
theorem fM (s:ByteArray) (h47:s.size≤70368744177664) (w:World):
 Calls prog 184 #[.string s] w fun e w'=> ∃A c,e= .returned (.slice A ((enc s.size).length+s.size) c)∧w'.ownsRow w.heap.size 5 1 (.slice A ((enc s.size).length+s.size) c) ((enc s.size).length+s.size) ((enc s.size++s.data.toList).map bv)∧Below w.heap.size w w':=by
 have hl:=AU s.size (by omega)
 go_enter func184,ntmps184
 go_wp2_with fail
 refine(Gd s.size (by omega) w).mono ?_
 rintro e w1 ⟨A,c,rfl,h2,h3⟩
 have hcv:=Lib.run_convert_string_bytes (P:=prog) w1 9 40 5 s underlying9 underlying40 underlying5
 have H2:=AA h2;clear h2
 have H3:=AA h3;clear h3
 have HT:=AA (fK w1 5 s)
 have HB:=AA (Xh w1 5 s)
 generalize hw2:Lib.bytesWorld w1 5 s=w2 at*
 clear hw2
 have hsz:w.heap.size≤w2.heap.size:=by have:=HB.out.size;have:=H3.out.size;omega
 go_wp2_with fail
 refine(SH A _ (enc s.size).length c s.size _ (w1.heap.size+1) w.heap.size w2 ((enc s.size).map bv) (s.data.toList.map bv) (Ch H2.out HB.out) (by simp) HT.out (Ew _) (by omega) hsz).mono ?_
 rintro e w3 ⟨A',c',rfl,h4,h5⟩
 have H4:=AA h4;clear h4
 have H5:Hid (Below w.heap.size w w3):=AA ((H3.out.trans (HB.out.mono (by have:=H3.out.size;omega))).trans (own_below (Ch H2.out HB.out) h5 hsz))
 clear h5 hsz hcv
 go_wp2_with fail
 go_ret
 rw [List.map_append]
 exact⟨A',c',rfl,H4.out,H5.out⟩
theorem Zd (w:World) {ops:Array Oper} {rest:List Oper} {o:Oper} {a:Act} {Q:Exit→Act→World→Prop} (hgd:o.guard=none) (s x:Operand)
 (ho:o.op= .call {callee:= .builtin .append,args:= #[s,x],argTypes:= #[40,9]}) (base:Nat)
 (A:Option Addr) (n c:Nat) (xs:List Value) (hs:a.eval s= .slice A n c) (hown:w.ownsRow base 5 1 (.slice A n c) n xs)
 (t:ByteArray) (hx:a.eval x= .string t) (h47:n+t.size≤140737488351232) (hbase:base≤w.heap.size)
 (h: ∀A' c' w',w'.ownsRow base 5 1 (.slice A' (n+t.size) c') (n+t.size) (xs++t.data.toList.map bv)→Below base w w'→wpList prog ops Q rest (a.put o.dst (.slice A' (n+t.size) c')) w'):wpList prog ops Q (o::rest) a w:=by
 obtain⟨i0,hi,hz,hs',hb⟩:=info_parts EJ
 refine Lib.wpList_append_own_string (w:=w) hgd s x 40 9 ho base 5 i0 underlying40 underlying9 hi hz hs' hb _ n xs hs hown t hx (by unfold maxLen;omega) (by omega) hbase ?_
 intro v' w' h2 h3 _
 obtain⟨A',c',rfl⟩:=Ck h2
 exact h A' c' w' h2 (own_below hown h3 hbase)
theorem Jh (v0:Nat) (hv0:v0<18446744073709551616) (w:World):
 Calls prog 76 #[.int .u64 v0] w fun e w'=> ∃A c,e= .returned (.slice A (enc v0).length c)∧w'.ownsRow w.heap.size 5 1 (.slice A (enc v0).length c) (enc v0).length ((enc v0).map bv)∧Below w.heap.size w w':=by
 have hl10:=AU v0 hv0
 go_enter func76,ntmps76
 go_wp2_with fail
 go_loopw [3,0] (fun L V wr=>xg v0 w L V wr) (fun _ V _=>(intOf V).toNat)
 case atStart=>exact⟨v0,[],none,0,rfl,rfl,hv0,rfl,World.ownsRow_nil _ _ _ _,Below.refl _ _⟩
 case round=>
  obtain⟨v,xs,A,c,rfl,rfl,hv,hR,hown,hbel⟩:=hrel
  have HR:=AA hR;clear hR
  have Zc:=AA hown;clear hown
  have BM:=AA hbel;clear hbel
  have hxs:xs.length≤10:=by have:=congrArg List.length HR.out;rw [List.length_append] at this;omega
  by_cases hlt:v<128
  ·have hge: ¬(128:Int)≤v:=by omega
   have hm256:(v:Int)%256=v:=by omega
   have zf:Hid (xs.map bv++ [.int .u8 (v:Int)]=(enc v0).map bv):=AA (by rw [←HR.out,FX v hlt,List.map_append];simp [EU v (by omega)])
   have Hlen:Hid (xs.length+1=(enc v0).length):=AA (by rw [←HR.out,FX v hlt,List.length_append];rfl)
   go_wp2_with (at_builtin;refine Eo _ rfl (.tmp 15) (.tmp 18) rfl w.heap.size A xs.length c (xs.map bv) rfl (Zc.out.alloc _) (wr.heap.size+1) _ 1 1 [.int .u8 (v:Int)] rfl rfl (by exact row_one _ _ _) (by simp [Value.oneCell']) (by omega) (by exact Nat.le_trans BM.out.size (by simp)) ?_;intro A' c' w1 h2 _ h3;have H2:=AA h2;have H3:=AA h3;clear h2 h3)
   go_ret
   rw [←Hlen.out,←zf.out]
   exact⟨A',c',rfl,H2.out,((BM.out.alloc BM.out.size _)).trans H3.out⟩
  ·have hge:(128:Int)≤v:=by omega
   have hm0:0≤(v:Int)%128:=by omega
   have hm1:(v:Int)%128<128:=by omega
   have hm2:(v:Int)%128+128<256:=by omega
   have Uu:((v:Int)%128+128)%256=(v:Int)%128+128:=by omega
   have kX:Hid ((xs++ [UInt8.ofNat (v%128+128)])++enc (v/128)=enc v0):=AA (by rw [←HR.out,NA v hlt,List.append_assoc];rfl)
   go_wp2_with (at_builtin;refine Eo _ rfl (.tmp 6) (.tmp 11) rfl w.heap.size A xs.length c (xs.map bv) rfl (Zc.out.alloc _) (wr.heap.size+1) _ 1 1 _ rfl rfl (by exact row_one _ _ _) (by simp [Value.oneCell']) (by omega) (by exact Nat.le_trans BM.out.size (by simp)) ?_;intro A' c' w1 h2 _ h3;have H2:=AA h2;have H3:=AA h3;clear h2 h3)
   refine⟨⟨v/128,xs++ [UInt8.ofNat (v%128+128)],A',c',by simp,by go_num,by omega,kX.out,?_,(BM.out.alloc BM.out.size _).trans H3.out⟩,?_⟩
   ·have h4:=H2.out
    rw [show((v:Int)%128+128)=((v%128+128:Nat):Int)from by omega,←EU _ (by omega),show [bv (UInt8.ofNat (v%128+128))]= [UInt8.ofNat (v%128+128)].map bv from rfl,←List.map_append] at h4
    simpa using h4
   ·simp [intOf];omega
theorem Ze (v:Int) (h0: -9223372036854775808≤v) (h1:v<9223372036854775808) (w:World):
 Calls prog 178 #[.int .i64 v] w fun e w'=>e= .returned (.int .u64 (folded v))∧w'=w:=by
 go_enter func178,ntmps178
 by_cases hv:v<0
 ·have e1: -(v+1)%18446744073709551616= -(v+1):=by omega
  have e2:2* -(v+1)%18446744073709551616=2* -(v+1):=by omega
  have e3:(2* -(v+1)+1)%18446744073709551616=2* -(v+1)+1:=by omega
  have Hf:Hid (((folded v:Nat):Int)=2* -(v+1)+1):=AA (by unfold folded;rw [if_pos hv];omega)
  go_wp2_with fail
  go_ret
  rw [Hf.out]
  exact⟨rfl,rfl⟩
 ·have e1:v%18446744073709551616=v:=by omega
  have e2:2*v%18446744073709551616=2*v:=by omega
  have Hf:Hid (((folded v:Nat):Int)=2*v):=AA (by unfold folded;rw [if_neg hv];omega)
  go_wp2_with fail
  go_ret
  rw [Hf.out]
  exact⟨rfl,rfl⟩
theorem Xi (v:Int) (h0: -9223372036854775808≤v) (h1:v<9223372036854775808) (w:World):
 Calls prog 142 #[.int .i64 v] w fun e w'=> ∃A c,e= .returned (.slice A (enc (folded v)).length c)∧w'.ownsRow w.heap.size 5 1 (.slice A (enc (folded v)).length c) (enc (folded v)).length ((enc (folded v)).map bv)∧Below w.heap.size w w':=by
 go_enter func142,ntmps142
 go_wp2_with fail
 refine(Ze v h0 h1 w).mono ?_
 rintro e w1 ⟨rfl,rfl⟩
 go_wp2_with fail
 refine(Jh (folded v) (IK v h0 h1) w1).mono ?_
 rintro e w1 ⟨A,c,rfl,h2,h3⟩
 have H2:=AA h2;clear h2
 have H3:=AA h3;clear h3
 go_wp2_with fail
 go_ret
 exact⟨A,c,rfl,H2.out,H3.out⟩
theorem MW (s:ByteArray) (h47:s.size≤70368744177664) (w:World):
 Calls prog 141 #[.string s] w fun e w'=> ∃A c,e= .returned (.slice A ((enc s.size).length+s.size) c)∧w'.ownsRow w.heap.size 5 1 (.slice A ((enc s.size).length+s.size) c) ((enc s.size).length+s.size) ((enc s.size++s.data.toList).map bv)∧Below w.heap.size w w':=by
 have hl:=AU s.size (by omega)
 go_enter func141,ntmps141
 go_wp2_with fail
 refine(Jh s.size (by omega) w).mono ?_
 rintro e w1 ⟨A,c,rfl,h2,h3⟩
 have H2:=AA h2;clear h2
 have H3:=AA h3;clear h3
 go_wp2_with (at_builtin;refine Zd _ rfl (.tmp 8) (.tmp 9) rfl w.heap.size A (enc s.size).length c ((enc s.size).map bv) rfl H2.out s rfl (by omega) H3.out.size ?_;intro A' c' w2 h4 h5;have H4:=AA h4;have H5:=AA h5;clear h4 h5)
 go_ret
 rw [List.map_append]
 exact⟨A',c',rfl,H4.out,H3.out.trans H5.out⟩
structure sH (W:World) (base g:Nat) (K:Nat→Prop) (mp:Value) (all:Int) (l:List UInt8) (A:Option Addr) (c:Nat):Prop where
 blk:AQ W g 194 [mp,.int .i64 all,.slice A l.length c]
 own:Ey W base 5 (.slice A l.length c) l.length (l.map bv)
 low:base≤g
 kg: ¬K g
 apart: ∀k,(Value.slice A l.length c).ownBlock=some k→ ¬K k∧k≠g
 lt: ∀k,K k→k<W.heap.size
def Wr (W:World) (base g:Nat) (K:Nat→Prop) (mp:Value) (all:Int) (l:List UInt8):Prop:= ∃A c,sH W base g K mp all l A c
section
variable {W W':World} {base g:Nat} {K:Nat→Prop} {mp:Value} {all:Int} {l:List UInt8} {A:Option Addr} {c:Nat}
theorem sH.Ee (h:sH W base g K mp all l A c) (hb:Below W.heap.size W W'):sH W' base g K mp all l A c:=
 ⟨h.blk.below hb h.blk.lt,h.own.SG hb,h.low,h.kg,h.apart,fun k hk=>Nat.lt_of_lt_of_le (h.lt k hk) hb.size⟩
theorem Wr.Ee (h:Wr W base g K mp all l) (hb:Below W.heap.size W W'):Wr W' base g K mp all l:=let ⟨A,c,h⟩:=h;⟨A,c,h.Ee hb⟩
theorem sH.put (h:sH W base g K mp all l A c) {news:List UInt8} {A':Option Addr} {c' m:Nat} (hm:m=news.length) (hg:W.grownBy W' (Value.slice A l.length c).ownBlock)
 (ho:W'.ownsRow base 5 1 (.slice A' (l.length+m) c') (l.length+m) (l.map bv++news.map bv))
 (hb:(Value.slice A' (l.length+m) c').ownBlock=(Value.slice A l.length c).ownBlock∨(Value.slice A' (l.length+m) c').ownBlock=some W.heap.size):
 Keep K W (W'.setCell ⟨g,2,none⟩ (.slice A' (l.length+m) c'))∧Wr (W'.setCell ⟨g,2,none⟩ (.slice A' (l.length+m) c')) base g K mp all (l++news):=by
 subst hm
 have hgl:=h.blk.lt
 have hap: ∀k,(Value.slice A' (l.length+news.length) c').ownBlock=some k→ ¬K k∧k≠g:=fun k hk=>by
  rcases hb with e | e
  ·exact h.apart k (e▸hk)
  ·rw [e] at hk;injection hk with hk;subst hk
   exact⟨fun hK=>by have:=h.lt _ hK;omega,by omega⟩
 have hblk:AQ W' g 194 [mp,.int .i64 all,.slice A l.length c]:=(hg.block g hgl (fun e=>(h.apart g e.symm).2 rfl)).trans h.blk
 refine⟨((Keep.refl K W).grown hg (fun k hk=>(h.apart k hk).1)).setCell h.kg _,A',c',⟨?_,?_,h.low,h.kg,?_,fun k hk=> ?_⟩⟩
 ·rw [List.length_append];exact hblk.set 2 _
 ·rw [List.length_append,List.map_append]
  exact .inl (BD ho (fun e=>(hap g e).2 rfl) _)
 ·rw [List.length_append];exact hap
 ·have h1:=h.lt k hk
  have h2:=hg.size
  simp [World.setCell];omega
end
def MX (err:Int) (e:Ending) (P:Prop):Prop:=(err=0∧e= .returned (.tuple #[])∧P)∨(err≠0∧e= .panicked (thrown err 0))
theorem QB (n:Nat) (hn:n<9223372036854775808) (base g:Nat) (K:Nat→Prop) (mp:Value) (all:Int) (l:List UInt8) (w:World) (h:Wr w base g K mp all l) (hl:l.length≤1099511627776) (hbase:base≤w.heap.size):
 Calls prog 158 #[.pointer (some ⟨g,0,none⟩),.int .i64 n] w fun e w'=>e= .returned (.tuple #[])∧Keep K w w'∧Wr w' base g K mp all (l++enc n):=by
 obtain⟨A,c,h⟩:=h
 have H:=AA h
 have hc0:=h.blk.q 2 rfl
 have hlt:=h.blk.lt
 have hf:=h.blk.frozen 2
 have henc:=AU n (by omega)
 have hwr:IntKind.u64.wrap (n:Int)=(n:Int):=by rw [IntKind.wrap_u64];omega
 clear h
 obtain⟨i0,hi0,hz,hs',hby⟩:=info_parts EJ
 go_enter func158,ntmps158
 go_wp2_with fail
 go_region_law
  (first
   | (go_simp;go_at_call 102;refine(Gd n (by omega) _).mono ?_;rintro e w1 ⟨A1,c1,rfl,h2,h3⟩;have hb1:Below w.heap.size w w1:=⟨h3.os,h3.tape,h3.output,h3.size,h3.block⟩;have HR:=AA (Row.own h2);have H1:=AA (H.out.Ee hb1);have HB1:=AA hb1;have Pt:Hid (Keep K w w1):=AA (Keep.DK hb1);have hc1:=H1.out.blk.q 2 rfl;have hf1:=H1.out.blk.frozen 2;clear h2 h3 hb1)
   | (refine Gc rfl (.tmp 8) (.tmp 11) 40 rfl base 5 i0 _ 1 underlying40 hi0 hz hs' hby rfl _ l.length (l.map bv) rfl (by exact H1.out.own) _ A1 (enc n).length c1 ((enc n).map bv) (E9 n) rfl (by rw [List.length_map,Nat.mul_one]) (by exact HR.out) (Ew _) (by unfold maxLen;omega) (by omega) (Nat.le_trans hbase HB1.out.size) ?_;intro A4 c4 w4 h2 h3 h4;have HP:=AA (H1.out.put rfl h3 h2 h4);have Xj:=(Av h3 H1.out.blk (fun e=>(H1.out.apart g e).2 rfl)).frozen 2;have hc4:=(Av h3 H1.out.blk (fun e=>(H1.out.apart g e).2 rfl)).cell 2;clear h2 h3 h4))
 all_goals
  go_end0
  exact⟨rfl,Pt.out.trans HP.out.1,HP.out.2⟩
theorem sI (s:ByteArray) (h47:s.size≤70368744177664) (base g:Nat) (K:Nat→Prop) (mp:Value) (all:Int) (l:List UInt8) (w:World) (h:Wr w base g K mp all l) (hl:l.length≤1099511627776) (hbase:base≤w.heap.size):
 Calls prog 153 #[.pointer (some ⟨g,0,none⟩),.string s] w fun e w'=>e= .returned (.tuple #[])∧Keep K w w'∧Wr w' base g K mp all (l++Fp s):=by
 obtain⟨A,c,h⟩:=h
 have H:=AA h
 have hc0:=h.blk.q 2 rfl
 have hlt:=h.blk.lt
 have hf:=h.blk.frozen 2
 have henc:(Fp s).length=(enc s.size).length+s.size:=by unfold Fp;rw [List.length_append];simp
 have henc2:=AU s.size (by omega)
 clear h
 obtain⟨i0,hi0,hz,hs',hby⟩:=info_parts EJ
 go_enter func153,ntmps153
 go_wp2_with fail
 go_region_law
  (first
   | (go_simp;go_at_call 184;refine(fM s h47 _).mono ?_;rintro e w1 ⟨A1,c1,rfl,h2,h3⟩;have hb1:Below w.heap.size w w1:=⟨h3.os,h3.tape,h3.output,h3.size,h3.block⟩;have HR:=AA (Row.own h2);have H1:=AA (H.out.Ee hb1);have HB1:=AA hb1;have Pt:Hid (Keep K w w1):=AA (Keep.DK hb1);have hc1:=H1.out.blk.q 2 rfl;have hf1:=H1.out.blk.frozen 2;clear h2 h3 hb1)
   | (refine Gc rfl (.tmp 8) (.tmp 10) 40 rfl base 5 i0 _ 1 underlying40 hi0 hz hs' hby rfl _ l.length (l.map bv) rfl (by exact H1.out.own) _ A1 ((enc s.size).length+s.size) c1 ((enc s.size++s.data.toList).map bv) (by have:=E9 s.size;omega) rfl (by rw [List.length_map,Nat.mul_one,List.length_append];simp) (by exact HR.out) (Ew _) (by unfold maxLen;omega) (by omega) (Nat.le_trans hbase HB1.out.size) ?_;intro A4 c4 w4 h2 h3 h4;have HP:=AA (H1.out.put henc.symm h3 h2 h4);have Xj:=(Av h3 H1.out.blk (fun e=>(H1.out.apart g e).2 rfl)).frozen 2;have hc4:=(Av h3 H1.out.blk (fun e=>(H1.out.apart g e).2 rfl)).cell 2;clear h2 h3 h4))
 all_goals
  go_end0
  exact⟨rfl,Pt.out.trans HP.out.1,HP.out.2⟩
theorem kY (n most:Nat) (hn:n<9223372036854775808) (base g:Nat) (K:Nat→Prop) (mp:Value) (all:Int) (l:List UInt8) (w:World) (h:Wr w base g K mp all l) (hl:l.length≤1099511627776) (hbase:base≤w.heap.size):
 Calls prog 151 #[.pointer (some ⟨g,0,none⟩),.int .i64 n,.int .i64 most] w fun e w'=>Keep K w w'∧MX (Ae (decide (n≤most)) 20) e (Wr w' base g K mp all (l++enc n)):=by
 have H:=AA h;clear h
 go_enter func151,ntmps151
 go_wp2_with fail
 refine(FD _ 20 0 (by decide) _).mono ?_
 rintro e w1 ⟨rfl,⟨h0,rfl⟩ | ⟨h0,rfl⟩⟩
 ·have H0:=AA h0;clear h0
  go_wp2_with fail
  refine(QB n hn base g K mp all l _ H.out hl hbase).mono ?_
  rintro e w1 ⟨rfl,hk,hw⟩
  have HK:=AA hk;have HW:=AA hw;clear hk hw
  go_wp2_with fail
  go_end0
  exact⟨HK.out,.inl ⟨H0.out,rfl,HW.out⟩⟩
 ·have H0:=AA h0;clear h0
  go_wp2_with fail
  exact⟨rfl,Keep.refl _ _,.inr ⟨H0.out,rfl⟩⟩
theorem kZ (n:Int) (below:Nat) (hn:n<9223372036854775808) (base g:Nat) (K:Nat→Prop) (mp:Value) (all:Int) (l:List UInt8) (w:World) (h:Wr w base g K mp all l) (hl:l.length≤1099511627776) (hbase:base≤w.heap.size):
 Calls prog 155 #[.pointer (some ⟨g,0,none⟩),.int .i64 n,.int .i64 below] w fun e w'=>Keep K w w'∧MX (Ae (decide (0≤n∧n<below)) 30) e (Wr w' base g K mp all (l++enc n.toNat)):=by
 have H:=AA h;clear h
 by_cases h0:n<0
 ·have hE:Hid (Ae (decide (0≤n∧n<below)) 30=30):=AA (CJ (decide_eq_false (by omega)))
  have d:decide (0≤n)=false:=decide_eq_false (by omega)
  clear h0
  go_enter func155,ntmps155
  go_wp2_with fail
  refine(DT 30 0 _).mono ?_
  rintro e w1 ⟨rfl,rfl⟩
  go_wp2_with fail
  exact⟨rfl,Keep.refl _ _,.inr ⟨by rw [hE.out];decide,by rw [hE.out]⟩⟩
 obtain⟨k,rfl⟩:=Int.eq_ofNat_of_zero_le (show 0≤n by omega)
 have hE:Hid (Ae (decide (0≤(k:Int)∧(k:Int)<below)) 30=Ae (decide (k<below)) 30):=AA (by congr 1;exact decide_eq_decide.2 (by omega))
 have hk0:(0:Int)≤k:=by omega
 clear h0
 go_enter func155,ntmps155
 go_wp2_with fail
 refine(FD _ 30 0 (by decide) _).mono ?_
 rintro e w1 ⟨rfl,⟨h0,rfl⟩ | ⟨h0,rfl⟩⟩
 ·have H0:=AA h0;clear h0
  go_wp2_with fail
  refine(QB k (by omega) base g K mp all l _ H.out hl hbase).mono ?_
  rintro e w1 ⟨rfl,hk,hw⟩
  have HK:=AA hk;have HW:=AA hw;clear hk hw
  go_wp2_with fail
  go_end0
  exact⟨HK.out,.inl ⟨by rw [hE.out];exact H0.out,rfl,HW.out⟩⟩
 ·have H0:=AA h0;clear h0
  go_wp2_with fail
  exact⟨rfl,Keep.refl _ _,.inr ⟨by rw [hE.out];exact H0.out,by rw [hE.out]⟩⟩
theorem OJ (v:Value) (s:ByteArray) (most:Int) (h47:s.size≤140737488351232) (w:World):
 Calls prog 152 #[v,.string s,.int .i64 most,.int .i64 0] w fun e w'=>Below w.heap.size w w'∧Ends (CK s most) 0 e:=by
 go_enter func152,ntmps152
 go_wp2_with fail
 refine(FD _ 13 0 (by decide) _).mono ?_
 rintro e w1 ⟨rfl,⟨h0,rfl⟩ | ⟨h0,rfl⟩⟩
 ·have H0:=AA h0;clear h0
  go_wp2_with fail
  refine(Xa s h47 _).mono ?_
  rintro e w1 ⟨h1,rfl⟩
  have H1:=AA h1;clear h1
  rw [show Nh 256 s.data.toList=ZR s from rfl]
  go_wp2_with fail
  refine(FD _ 15 0 (by decide) _).mono ?_
  rintro e w2 ⟨rfl,⟨h0,rfl⟩ | ⟨h0,rfl⟩⟩
  ·have H2:=AA h0;clear h0
   go_wp2_with fail
   go_end0
   exact⟨H1.out,.inl ⟨by unfold CK;rw [AY H0.out];exact H2.out,rfl⟩⟩
  ·have H2:=AA h0;clear h0
   go_wp2_with fail
   have he:CK s most=Ae (ZR s) 15:=by unfold CK;rw [AY H0.out]
   exact⟨rfl,H1.out,.inr ⟨by rw [he];exact H2.out,by rw [he]⟩⟩
 ·have H0:=AA h0;clear h0
  go_wp2_with fail
  have he:CK s most=Ae (decide ((s.size:Int)≤most)) 13:=by unfold CK;rw [Br H0.out]
  exact⟨rfl,Below.refl _ _,.inr ⟨by rw [he];exact H0.out,by rw [he]⟩⟩
theorem ko (x:ED) (w:World):
 Calls prog 156 #[.agg #[bv x.l,.bool x.m,uv x.v],.int .i64 0] w fun e w'=>Below w.heap.size w w'∧Ends (Ae (Dr x.v x.l.toNat) 17) 0 e:=by
 unfold bv uv
 go_enter func156,ntmps156
 go_wp2_with fail
 generalize hw:w.alloc _=w1
 have H1:Hid (Below w.heap.size w w1):=by rw [←hw];exact AA ((Below.refl _ _).alloc (Nat.le_refl _) _)
 clear hw
 refine(OI x.v x.l.toNat (UInt8.toNat_lt x.l) w1).mono ?_
 rintro e w2 ⟨rfl,rfl⟩
 go_wp2_with fail
 refine(FD _ 17 0 (by decide) _).mono ?_
 rintro e w2 ⟨rfl,⟨h0,rfl⟩ | ⟨h0,rfl⟩⟩
 ·have H2:=AA h0;clear h0
  go_wp2_with fail
  go_end0
  exact⟨H1.out,.inl ⟨H2.out,rfl⟩⟩
 ·have H2:=AA h0;clear h0
  go_wp2_with fail
  exact⟨rfl,H1.out,.inr ⟨H2.out,rfl⟩⟩
end Go.Proofs.YtlagonfamllgjaaGreatDoor
