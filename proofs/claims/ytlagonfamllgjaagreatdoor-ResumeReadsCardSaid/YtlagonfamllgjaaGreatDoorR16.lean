/- Part 16 of the proof: R14A VdA VdB VdC R10A R10B R10C R10D VdM R10E -/
import Derived.StillTailTactics
import Derived.Deep.RegionWith
import Derived.Test.YtlagonfamllgjaaGreatDoorR07
import Derived.Test.YtlagonfamllgjaaGreatDoorR09
import Derived.Test.YtlagonfamllgjaaGreatDoorR15
namespace Go.Proofs.YtlagonfamllgjaaGreatDoor
set_option linter.unusedVariables false
set_option linter.unusedSimpArgs false
set_option maxRecDepth 100000
set_option maxHeartbeats 4000000
open Go.RowKit Tryz
theorem Fg {m:AP} {s:FU} {i n:Nat} (hi:i<n) (h0: ∀j,j<i→Ci m s j=true) (h:Ci m s i=false):Aa n (Br m s)=(i:Int)+1:=by
 have hat:Br m s i=(i:Int)+1:=by unfold Br;rw [h];rfl
 have hz: ∀k,k≤i→Aa k (Br m s)=0:=fun k=>by
  induction k with
  | zero=>intro _;rfl
  | succ k ih=>intro hk;exact CQ (ih (by omega)) (by unfold Br;rw [h0 k (by omega)];rfl)
 rw [Da (hz i (Nat.le_refl _)) (by rw [hat];omega) n hi,hat]
theorem Rt {m:AP} {s:FU} {n:Nat} (h0: ∀j,j<n→Ci m s j=true):Aa n (Br m s)=0:=by
 induction n with
 | zero=>rfl
 | succ k ih=>exact CQ (ih (fun j hj=>h0 j (by omega))) (by unfold Br;rw [h0 k (by omega)];rfl)
theorem xW {P:Nat→Prop} (h:P 0): ∀j,j<1→P j:=fun j hj=>by
 obtain rfl:j=0:=by omega
 exact h
theorem lt2 {P:Nat→Prop} (h:P 0) (h1:P 1): ∀j,j<2→P j:=fun j hj=>by
 by_cases e:j=1
 ·subst e;exact h1
 ·exact xW h j (by omega)
theorem lt3 {P:Nat→Prop} (h:P 0) (h1:P 1) (h2:P 2): ∀j,j<3→P j:=fun j hj=>by
 by_cases e:j=2
 ·subst e;exact h2
 ·exact lt2 h h1 j (by omega)
theorem xX {P:Nat→Prop} (h:P 0) (h1:P 1) (h2:P 2) (h3:P 3): ∀j,j<4→P j:=fun j hj=>by
 by_cases e:j=3
 ·subst e;exact h3
 ·exact lt3 h h1 h2 j (by omega)
theorem qA {w w1:World} {v1 v2 v3 v4:Value} {a b c d:Int} (h:w.alloc (.cells #[v1,v2,v3,.int .i64 a,.int .i8 b,v4,.int .i8 c,.int .i64 d] 35)=w1):Below w.heap.size w w1∧AQ w1 w.heap.size 35 [v1,v2,v3,.int .i64 a,.int .i8 b,v4,.int .i8 c,.int .i64 d]:=by
 have hb:=AQ.new w 35 [v1,v2,v3,.int .i64 a,.int .i8 b,v4,.int .i8 c,.int .i64 d]
 change AQ (w.alloc (.cells #[v1,v2,v3,.int .i64 a,.int .i8 b,v4,.int .i8 c,.int .i64 d] 35)) _ _ _ at hb
 rw [h] at hb
 exact⟨by rw [←h];exact(Below.refl _ _).alloc (Nat.le_refl _) _,hb⟩
theorem dh (cs:List Value) (hi:Nat) (m:AP) (s:FU) (w:World) (h:K8.R w 0 hi cs s):
 Calls prog 70 #[.agg cs.toArray] w fun e w'=>Below w.heap.size w w'∧e= .returned (.int .i64 (Aa 4 (Br m s))):=by
 obtain⟨v1,v2,v3,v4,rfl,h0,_,_,_,he,h5,ht,_⟩:=DR.1 h
 obtain⟨A0,c0,rfl⟩:=AJ h0
 obtain⟨A5,c5,rfl⟩:=AJ h5
 unfold Rd.B8 at he ht
 clear h h0 h5
 obtain⟨r,hr⟩: ∃r,Aa 4 (Br m s)=r:=⟨_,rfl⟩
 rw [hr]
 have HR:=AA hr
 clear hr
 go_enter func70,ntmps70
 go_upto_region 1 with fail
 generalize hw1:w.alloc (.cells #[.slice A0 s.frames.length c0,v2,v3,.int .i64 s.CU,.int .i8 s.end_,.slice A5 s.res.length c5,.int .i8 s.trap,.int .i64 s.used] 35)=w1
 obtain⟨hb1,hx1⟩:=qA hw1
 have HB1:=AA hb1
 have q0:=hx1.q 0 rfl
 have q4:=hx1.q 4 rfl
 have q5:=hx1.q 5 rfl
 have q6:=hx1.q 6 rfl
 clear hw1 hb1 hx1
 by_cases hE1:s.end_=1
 ·skip
  have a1:(s.end_==1)=true:=by rw [beq_iff_eq];omega
  have b1:(s.end_ !=1)=false:=by rw [bne_eq_false_iff_eq];omega
  have a2:(s.end_==2)=false:=by rw [beq_eq_false_iff_ne];omega
  have b2:(s.end_ !=2)=true:=by rw [bne_iff_ne];omega
  have a3:(s.end_==3)=false:=by rw [beq_eq_false_iff_ne];omega
  have b3:(s.end_ !=3)=true:=by rw [bne_iff_ne];omega
  have A0:Ci m s 0=true:=decide_eq_true (by omega)
  by_cases hF:s.frames.length=0
  ·skip
   have f0:((s.frames.length:Int)==0)=true:=by rw [beq_iff_eq];omega
   have f0n:((s.frames.length:Int) !=0)=false:=by rw [bne_eq_false_iff_eq];omega
   have g0:(s.frames.length==0)=true:=by rw [beq_iff_eq];omega
   have A1:Ci m s 1=false:=decide_eq_false (by omega)
   have HX:Hid (r=2):=AA (by rw [←HR.out,Fg (i:=1) (by decide) (xW A0) A1];rfl)
   clear hE1 hF A0 A1
   go_wp2_with fail
   go_ret
   exact⟨HB1.out,by rw [HX.out];rfl⟩
  have f0:((s.frames.length:Int)==0)=false:=by rw [beq_eq_false_iff_ne];omega
  have f0n:((s.frames.length:Int) !=0)=true:=by rw [bne_iff_ne];omega
  have g0:(s.frames.length==0)=false:=by rw [beq_eq_false_iff_ne];omega
  by_cases hG:64<s.frames.length
  ·skip
   have f64:decide ((64:Int)<(s.frames.length:Int))=true:=decide_eq_true (by omega)
   have f64n:decide (64<s.frames.length)=true:=decide_eq_true (by omega)
   have A1:Ci m s 1=false:=decide_eq_false (by omega)
   have HX:Hid (r=2):=AA (by rw [←HR.out,Fg (i:=1) (by decide) (xW A0) A1];rfl)
   clear hE1 hF hG A0 A1
   go_wp2_with fail
   go_ret
   exact⟨HB1.out,by rw [HX.out];rfl⟩
  have f64:decide ((64:Int)<(s.frames.length:Int))=false:=decide_eq_false (by omega)
  have f64n:decide (64<s.frames.length)=false:=decide_eq_false (by omega)
  have A1:Ci m s 1=true:=decide_eq_true (by omega)
  by_cases hS:s.res.length=0
  ·skip
   have r0:((s.res.length:Int) !=0)=false:=by rw [bne_eq_false_iff_eq];omega
   have r0n:(s.res.length !=0)=false:=by rw [bne_eq_false_iff_eq];omega
   have A2:Ci m s 2=true:=decide_eq_true (by omega)
   by_cases hT:s.trap=0
   ·skip
    have t0:(s.trap !=0)=false:=by rw [bne_eq_false_iff_eq];omega
    have A3:Ci m s 3=true:=decide_eq_true (by omega)
    have HX:Hid (r=0):=AA (by rw [←HR.out,Rt (xX A0 A1 A2 A3)])
    clear hE1 hF hG hS A0 A1 A2 hT A3
    go_wp2_with fail
    go_ret
    exact⟨HB1.out,by rw [HX.out];rfl⟩
   ·skip
    have t0:(s.trap !=0)=true:=by rw [bne_iff_ne];omega
    have A3:Ci m s 3=false:=decide_eq_false (by omega)
    have HX:Hid (r=4):=AA (by rw [←HR.out,Fg (i:=3) (by decide) (lt3 A0 A1 A2) A3];rfl)
    clear hE1 hF hG hS A0 A1 A2 hT A3
    go_wp2_with fail
    go_ret
    exact⟨HB1.out,by rw [HX.out];rfl⟩
  have r0:((s.res.length:Int) !=0)=true:=by rw [bne_iff_ne];omega
  have r0n:(s.res.length !=0)=true:=by rw [bne_iff_ne];omega
  have A2:Ci m s 2=false:=decide_eq_false (by omega)
  have HX:Hid (r=3):=AA (by rw [←HR.out,Fg (i:=2) (by decide) (lt2 A0 A1) A2];rfl)
  clear hE1 hF hG hS A0 A1 A2
  go_wp2_with fail
  go_ret
  exact⟨HB1.out,by rw [HX.out];rfl⟩
 by_cases hE2:s.end_=2
 ·skip
  have a1:(s.end_==1)=false:=by rw [beq_eq_false_iff_ne];omega
  have b1:(s.end_ !=1)=true:=by rw [bne_iff_ne];omega
  have a2:(s.end_==2)=true:=by rw [beq_iff_eq];omega
  have b2:(s.end_ !=2)=false:=by rw [bne_eq_false_iff_eq];omega
  have a3:(s.end_==3)=false:=by rw [beq_eq_false_iff_ne];omega
  have b3:(s.end_ !=3)=true:=by rw [bne_iff_ne];omega
  have A0:Ci m s 0=true:=decide_eq_true (by omega)
  by_cases hF:s.frames.length=0
  case neg=>
   have f0n:((s.frames.length:Int) !=0)=true:=by rw [bne_iff_ne];omega
   have g0:(s.frames.length !=0)=true:=by rw [bne_iff_ne];omega
   have A1:Ci m s 1=false:=decide_eq_false (by omega)
   have HX:Hid (r=2):=AA (by rw [←HR.out,Fg (i:=1) (by decide) (xW A0) A1];rfl)
   clear hE1 hE2 hF A0 A1
   go_wp2_with fail
   go_ret
   exact⟨HB1.out,by rw [HX.out];rfl⟩
  have f0n:((s.frames.length:Int) !=0)=false:=by rw [bne_eq_false_iff_eq];omega
  have g0:(s.frames.length !=0)=false:=by rw [bne_eq_false_iff_eq];omega
  have A1:Ci m s 1=true:=decide_eq_true (by omega)
  by_cases hS:s.res.length≤8
  case neg=>
   have r8:decide ((8:Int)<(s.res.length:Int))=true:=decide_eq_true (by omega)
   have r8n:decide (8<s.res.length)=true:=decide_eq_true (by omega)
   have A2:Ci m s 2=false:=decide_eq_false (by omega)
   have HX:Hid (r=3):=AA (by rw [←HR.out,Fg (i:=2) (by decide) (lt2 A0 A1) A2];rfl)
   clear hE1 hE2 hF hS A0 A1 A2
   go_wp2_with fail
   go_ret
   exact⟨HB1.out,by rw [HX.out];rfl⟩
  have r8:decide ((8:Int)<(s.res.length:Int))=false:=decide_eq_false (by omega)
  have r8n:decide (8<s.res.length)=false:=decide_eq_false (by omega)
  have A2:Ci m s 2=true:=decide_eq_true (by omega)
  by_cases hT:s.trap=0
  ·skip
   have t0:(s.trap !=0)=false:=by rw [bne_eq_false_iff_eq];omega
   have A3:Ci m s 3=true:=decide_eq_true (by omega)
   have HX:Hid (r=0):=AA (by rw [←HR.out,Rt (xX A0 A1 A2 A3)])
   clear hE1 hE2 hF hS A0 A1 A2 hT A3
   go_wp2_with fail
   go_ret
   exact⟨HB1.out,by rw [HX.out];rfl⟩
  ·skip
   have t0:(s.trap !=0)=true:=by rw [bne_iff_ne];omega
   have A3:Ci m s 3=false:=decide_eq_false (by omega)
   have HX:Hid (r=4):=AA (by rw [←HR.out,Fg (i:=3) (by decide) (lt3 A0 A1 A2) A3];rfl)
   clear hE1 hE2 hF hS A0 A1 A2 hT A3
   go_wp2_with fail
   go_ret
   exact⟨HB1.out,by rw [HX.out];rfl⟩
 by_cases hE3:s.end_=3
 ·skip
  have a1:(s.end_==1)=false:=by rw [beq_eq_false_iff_ne];omega
  have b1:(s.end_ !=1)=true:=by rw [bne_iff_ne];omega
  have a2:(s.end_==2)=false:=by rw [beq_eq_false_iff_ne];omega
  have b2:(s.end_ !=2)=true:=by rw [bne_iff_ne];omega
  have a3:(s.end_==3)=true:=by rw [beq_iff_eq];omega
  have b3:(s.end_ !=3)=false:=by rw [bne_eq_false_iff_eq];omega
  have A0:Ci m s 0=true:=decide_eq_true (by omega)
  by_cases hF:s.frames.length=0
  case neg=>
   have f0n:((s.frames.length:Int) !=0)=true:=by rw [bne_iff_ne];omega
   have g0:(s.frames.length !=0)=true:=by rw [bne_iff_ne];omega
   have A1:Ci m s 1=false:=decide_eq_false (by omega)
   have HX:Hid (r=2):=AA (by rw [←HR.out,Fg (i:=1) (by decide) (xW A0) A1];rfl)
   clear hE1 hE2 hE3 hF A0 A1
   go_wp2_with fail
   go_ret
   exact⟨HB1.out,by rw [HX.out];rfl⟩
  have f0n:((s.frames.length:Int) !=0)=false:=by rw [bne_eq_false_iff_eq];omega
  have g0:(s.frames.length !=0)=false:=by rw [bne_eq_false_iff_eq];omega
  have A1:Ci m s 1=true:=decide_eq_true (by omega)
  by_cases hS:s.res.length=0
  case neg=>
   have r0:((s.res.length:Int) !=0)=true:=by rw [bne_iff_ne];omega
   have r0n:(s.res.length !=0)=true:=by rw [bne_iff_ne];omega
   have A2:Ci m s 2=false:=decide_eq_false (by omega)
   have HX:Hid (r=3):=AA (by rw [←HR.out,Fg (i:=2) (by decide) (lt2 A0 A1) A2];rfl)
   clear hE1 hE2 hE3 hF hS A0 A1 A2
   go_wp2_with fail
   go_ret
   exact⟨HB1.out,by rw [HX.out];rfl⟩
  have r0:((s.res.length:Int) !=0)=false:=by rw [bne_eq_false_iff_eq];omega
  have r0n:(s.res.length !=0)=false:=by rw [bne_eq_false_iff_eq];omega
  have A2:Ci m s 2=true:=decide_eq_true (by omega)
  by_cases hT1:s.trap<1
  ·skip
   have t1:decide (s.trap<1)=true:=decide_eq_true (by omega)
   have A3:Ci m s 3=false:=decide_eq_false (by omega)
   have HX:Hid (r=4):=AA (by rw [←HR.out,Fg (i:=3) (by decide) (lt3 A0 A1 A2) A3];rfl)
   clear hE1 hE2 hE3 hF hS hT1 A0 A1 A2 A3
   go_wp2_with fail
   go_ret
   exact⟨HB1.out,by rw [HX.out];rfl⟩
  have t1:decide (s.trap<1)=false:=decide_eq_false (by omega)
  by_cases hT6:6<s.trap
  ·skip
   have t6:decide (6<s.trap)=true:=decide_eq_true (by omega)
   have A3:Ci m s 3=false:=decide_eq_false (by omega)
   have HX:Hid (r=4):=AA (by rw [←HR.out,Fg (i:=3) (by decide) (lt3 A0 A1 A2) A3];rfl)
   clear hE1 hE2 hE3 hF hS hT1 hT6 A0 A1 A2 A3
   go_wp2_with fail
   go_ret
   exact⟨HB1.out,by rw [HX.out];rfl⟩
  have t6:decide (6<s.trap)=false:=decide_eq_false (by omega)
  have A3:Ci m s 3=true:=decide_eq_true (by omega)
  have HX:Hid (r=0):=AA (by rw [←HR.out,Rt (xX A0 A1 A2 A3)])
  clear hE1 hE2 hE3 hF hS hT1 hT6 A0 A1 A2 A3
  go_wp2_with fail
  go_ret
  exact⟨HB1.out,by rw [HX.out];rfl⟩
 have a1:(s.end_==1)=false:=by rw [beq_eq_false_iff_ne];omega
 have b1:(s.end_ !=1)=true:=by rw [bne_iff_ne];omega
 have a2:(s.end_==2)=false:=by rw [beq_eq_false_iff_ne];omega
 have b2:(s.end_ !=2)=true:=by rw [bne_iff_ne];omega
 have a3:(s.end_==3)=false:=by rw [beq_eq_false_iff_ne];omega
 have b3:(s.end_ !=3)=true:=by rw [bne_iff_ne];omega
 have A0:Ci m s 0=false:=decide_eq_false (by omega)
 have HX:Hid (r=1):=AA (by rw [←HR.out,Fg (i:=0) (by decide) (fun j hj=>absurd hj (Nat.not_lt_zero _)) A0];rfl)
 clear hE1 hE2 hE3 A0
 go_wp2_with fail
 go_ret
 exact⟨HB1.out,by rw [HX.out];rfl⟩
def D6 (e:Int):List PanicEntry:= [{v:= .iface 206 (.agg #[.int .i64 e]),recovered:=false}]
def ACR (err:Int) (e:Ending):Prop:=(err=0∧e= .returned (.tuple #[]))∨(err≠0∧e= .panicked (D6 err))
theorem BX (e:Int) (w:World):Calls prog 133 #[.bool true,.int .i64 e] w fun en w'=>w=w'∧en= .returned (.tuple #[]):=by
 go_enter func133,ntmps133
 go_wp2
 go_end0
 exact⟨rfl,rfl⟩
theorem DI (e:Int) (w:World):Calls prog 133 #[.bool false,.int .i64 e] w fun en w'=>w=w'∧en= .panicked (D6 e):=by
 go_enter func133,ntmps133
 go_wp2
 exact⟨rfl,rfl,rfl⟩
theorem bD (b:Bool) (e:Int) (he:e≠0) (w:World):Calls prog 133 #[.bool b,.int .i64 e] w fun en w'=>w=w'∧ACR (Ab b e) en:=by
 cases b with
 | true=>exact(BX e w).mono fun en w' h=>⟨h.1,.inl ⟨rfl,h.2⟩⟩
 | false=>exact(DI e w).mono fun en w' h=>⟨h.1,.inr ⟨he,h.2⟩⟩
def kU (b:Nat):Value:= .pointer (some ⟨b,0,none⟩)
def Tn (o:Bo):List Value:= [.string o.s.p,.string o.s.r,.int .i64 o.pc,.int .u8 (o.o.toNat:Int),.string o.base]
structure Fx where
 m0:Value
 m1:Value
 m2:Value
 m3:Value
 m4:Value
 m5:Value
 m6:Value
 m7:Value
 sp:ByteArray
 sr:ByteArray
 loc:ByteArray
 code:Value
 ends:Value
 AB:Value
 ext:List (Nat×TypeId×List Value)
def ACS (W:World) (x:Fx):Prop:= ∀q∈x.ext,AQ W q.1 q.2.1 q.2.2
structure E5 (W:World) (lo g:Nat) (x:Fx) (st:Cm) (pc:Int) (vS vF vO:Value) (bs:List Nat):Prop where
 blk:AQ W g 172 [x.m0,x.m1,x.m2,x.m3,x.m4,x.m5,x.m6,x.m7,.string x.sp,.string x.sr,.string x.loc,x.code,vS,x.ends,x.AB,vF,.int .i64 (st.high:Int),vO,.string st.shape,.bool st.dead,.int .i64 pc]
 sh:W.ownsRow lo 9 1 vS st.shapes.length (st.shapes.map Value.string)
 fl:W.ownsRow lo 3 1 vF st.floors.length (st.floors.map iv)
 op:W.ownsRow lo 173 1 vO st.op.length (bs.reverse.map kU)
 bl:bs.length=st.op.length
 each: ∀(k:Nat) (o:Bo) (b:Nat),st.op[k]?=some o→bs[k]?=some b→lo≤b∧AQ W b 175 (Tn o)
 low:lo≤g
 et: ∀q∈x.ext,q.2.1≠172∧q.2.1≠9∧q.2.1≠173∧q.2.1≠175
 ex: ∀q∈x.ext,AQ W q.1 q.2.1 q.2.2∧vF.ownBlock≠some q.1
def Wk (W:World) (lo g:Nat) (x:Fx) (st:Cm) (pc:Int):Prop:= ∃vS vF vO bs,E5 W lo g x st pc vS vF vO bs
theorem FR {W:World} {a b:Nat} {t u:TypeId} {xs ys:List Value} (h:AQ W a t xs) (h':AQ W b u ys) (hne:t≠u):a≠b:=by
 intro e
 subst e
 unfold AQ at h h'
 rw [h] at h'
 injection h' with h'
 injection h' with h1 h2
 exact hne h2
section
variable {W W':World} {lo g:Nat} {x:Fx} {st:Cm} {pc:Int} {vS vF vO:Value} {bs:List Nat}
theorem E5.below (h:E5 W lo g x st pc vS vF vO bs) (hb:Below W.heap.size W W'):E5 W' lo g x st pc vS vF vO bs:=
 ⟨h.blk.below hb h.blk.lt,FD h.sh hb,FD h.fl hb,FD h.op hb,h.bl,fun k o b h1 h2=>⟨(h.each k o b h1 h2).1,(h.each k o b h1 h2).2.below hb (h.each k o b h1 h2).2.lt⟩,h.low,h.et,fun q hq=>⟨(h.ex q hq).1.below hb (h.ex q hq).1.lt,(h.ex q hq).2⟩⟩
theorem E5.kV (h:E5 W lo g x st pc vS vF vO bs) (i:Nat) (u:Value):Below lo W (W.setCell ⟨g,i,none⟩ u)∧(W.setCell ⟨g,i,none⟩ u).ownsRow lo 9 1 vS st.shapes.length (st.shapes.map Value.string)∧
 (W.setCell ⟨g,i,none⟩ u).ownsRow lo 3 1 vF st.floors.length (st.floors.map iv)∧(W.setCell ⟨g,i,none⟩ u).ownsRow lo 173 1 vO st.op.length (bs.reverse.map kU)∧
 (∀(k:Nat) (o:Bo) (b:Nat),st.op[k]?=some o→bs[k]?=some b→lo≤b∧AQ (W.setCell ⟨g,i,none⟩ u) b 175 (Tn o))∧ ∀q∈x.ext,AQ (W.setCell ⟨g,i,none⟩ u) q.1 q.2.1 q.2.2∧vF.ownBlock≠some q.1:=
 ⟨(Below.refl _ _).setCell h.low _,BH h.sh (p:=⟨g,i,none⟩) (A_ h.sh h.blk (by decide)) _,BH h.fl (p:=⟨g,i,none⟩) (A_ h.fl h.blk (by decide)) _,BH h.op (p:=⟨g,i,none⟩) (A_ h.op h.blk (by decide)) _,
   fun k o b h1 h2=>⟨(h.each k o b h1 h2).1,(h.each k o b h1 h2).2.far (p:=⟨g,i,none⟩) (FR (h.each k o b h1 h2).2 h.blk (by decide)) _⟩,
   fun q hq=>⟨(h.ex q hq).1.far (p:=⟨g,i,none⟩) (FR (h.ex q hq).1 h.blk (h.et q hq).1) _,(h.ex q hq).2⟩⟩
theorem E5.shape (h:E5 W lo g x st pc vS vF vO bs) (s:ByteArray):Below lo W (W.setCell ⟨g,18,none⟩ (.string s))∧E5 (W.setCell ⟨g,18,none⟩ (.string s)) lo g x {st with shape:=s} pc vS vF vO bs:=by
 obtain⟨a,b,c,d,e,ex⟩:=h.kV 18 (.string s)
 exact⟨a,h.blk.set 18 _,b,c,d,h.bl,e,h.low,h.et,ex⟩
theorem E5.dead (h:E5 W lo g x st pc vS vF vO bs) (q:Bool):Below lo W (W.setCell ⟨g,19,none⟩ (.bool q))∧E5 (W.setCell ⟨g,19,none⟩ (.bool q)) lo g x {st with dead:=q} pc vS vF vO bs:=by
 obtain⟨a,b,c,d,e,ex⟩:=h.kV 19 (.bool q)
 exact⟨a,h.blk.set 19 _,b,c,d,h.bl,e,h.low,h.et,ex⟩
theorem E5.pc_ (h:E5 W lo g x st pc vS vF vO bs) (q:Int):Below lo W (W.setCell ⟨g,20,none⟩ (.int .i64 q))∧E5 (W.setCell ⟨g,20,none⟩ (.int .i64 q)) lo g x st q vS vF vO bs:=by
 obtain⟨a,b,c,d,e,ex⟩:=h.kV 20 (.int .i64 q)
 exact⟨a,h.blk.set 20 _,b,c,d,h.bl,e,h.low,h.et,ex⟩
theorem E5.cut (h:E5 W lo g x st pc vS vF vO bs) {o:Bo} {r:List Bo} (hop:st.op=o::r) {A:Option Addr} {c:Nat} (hv:vO= .slice A (r.length+1) c):
 Below lo W (W.setCell ⟨g,17,none⟩ (.slice A r.length c))∧E5 (W.setCell ⟨g,17,none⟩ (.slice A r.length c)) lo g x {st with op:=r} pc vS vF (.slice A r.length c) bs.tail:=by
 obtain⟨a,b,cc,d,e,ex⟩:=h.kV 17 (.slice A r.length c)
 have hbl:=h.bl
 rw [hop] at hbl
 obtain⟨b0,bs',rfl⟩: ∃b0 bs',bs=b0::bs':=by cases bs with | nil=>simp at hbl | cons p q=>exact⟨p,q,rfl⟩
 refine⟨a,h.blk.set 17 _,b,cc,?_,by simpa using hbl,fun k o' b' h1 h2=>e (k+1) o' b' (by rw [hop];exact h1) h2,h.low,h.et,ex⟩
 rw [hv,hop] at d
 have:=SF d (m:=r.length) (by simp)
 simp only [List.length_cons] at hbl
 rw [Nat.mul_one,List.reverse_cons,List.map_append,List.take_left' (by simp;omega)] at this
 exact this
theorem E5.head (h:E5 W lo g x st pc vS vF vO bs) {o:Bo} {r:List Bo} (hop:st.op=o::r): ∃b bs' A c,bs=b::bs'∧vO= .slice (some ⟨A,0,none⟩) (r.length+1) c∧W.cell? ⟨A,r.length,none⟩=some (.pointer (some ⟨b,0,none⟩))∧AQ W b 175 (Tn o)∧lo≤b∧lo≤A:=by
 have hbl:=h.bl
 rw [hop] at hbl
 obtain⟨b0,bs',rfl⟩: ∃b0 bs',bs=b0::bs':=by cases bs with | nil=>simp at hbl | cons p q=>exact⟨p,q,rfl⟩
 have ho:=h.op
 rw [hop] at ho
 obtain⟨A,c,rfl,hA,_,_⟩:=FL (n:=r.length+1) ho (by omega)
 have he:=h.each 0 o b0 (by rw [hop];rfl) rfl
 simp only [List.length_cons] at hbl
 refine⟨b0,bs',A,c,rfl,rfl,?_,he.2,he.1,hA⟩
 have:=ho.cellAt r.length (by simp)
 rw [this,List.reverse_cons,List.map_append,List.getElem?_append_right (by simp;omega)]
 simp
 rw [show r.length-bs'.length=0 from by omega];rfl
end
theorem ZW {lo g:Nat} {x:Fx} {st:Cm} {pc:Int} {vS vF vO:Value} {b:Nat} {bs:List Nat} {o:Bo} {r:List Bo} (w:World) (h:E5 w lo g x st pc vS vF vO (b::bs)) (hop:st.op=o::r) (hr:r.length≤1000000):
 Calls prog 134 #[.pointer (some ⟨g,0,none⟩)] w fun e w'=>e= .returned (.pointer (some ⟨b,0,none⟩))∧ ∃k,w'=w.drewN k:=by
 obtain⟨b',bs',A,c,e1,rfl,hc,_,_,_⟩:=h.head hop
 injection e1 with e1 _
 subst e1
 have hc17:=h.blk.q 17 rfl
 clear h hop
 go_enter func134,ntmps134
 go_wp2_with fail
 go_quiet (fail)
 go_wp2_with fail
 go_ret
 exact⟨rfl,_,rfl⟩
theorem Mi {o:Bo} {b:Nat} (w:World) (h:AQ w b 175 (Tn o)):
 Calls prog 189 #[.pointer (some ⟨b,0,none⟩)] w fun e w'=>w=w'∧e= .returned (.string (BZ o)):=by
 have hc0:=h.q 0 rfl
 have hc1:=h.q 1 rfl
 have hc3:=h.q 3 rfl
 clear h
 by_cases h3:o.o.toNat=3
 ·have q:((o.o.toNat:Int)==3)=true:=by simp;omega
  have hb:BZ o=o.s.p:=by unfold BZ;rw [if_pos h3]
  rw [hb]
  clear h3 hb
  go_enter func189,ntmps189
  go_wp2_with fail
  go_ret
  exact⟨rfl,rfl⟩
 ·have q:((o.o.toNat:Int)==3)=false:=by simp;omega
  have hb:BZ o=o.s.r:=by unfold BZ;rw [if_neg h3]
  rw [hb]
  clear h3 hb
  go_enter func189,ntmps189
  go_wp2_with fail
  go_ret
  exact⟨rfl,rfl⟩
theorem GR (n:Int) (count:Nat) (hn: -9223372036854775808≤n∧n<9223372036854775808) (hc:count≤2147483647) (w:World):
 Calls prog 186 #[.int .i64 n,.int .i64 count] w fun e w'=>w=w'∧((Eo n count=true∧e= .returned (.int .i64 n))∨(Eo n count=false∧e= .panicked (D6 30))):=by
 by_cases h0:n<0
 ·have hI:Eo n count=false:=by unfold Eo;exact decide_eq_false (by omega)
  have d:decide (0≤n)=false:=decide_eq_false (by omega)
  clear h0
  go_enter func186,ntmps186
  go_wp2_with fail
  refine(DI 30 _).mono ?_
  rintro e w1 ⟨rfl,rfl⟩
  go_wp2_with fail
  exact⟨rfl,rfl,.inr ⟨hI,rfl⟩⟩
 ·by_cases h1:n<count
  ·have hI:Eo n count=true:=by unfold Eo;exact decide_eq_true (by omega)
   have d:decide (0≤n)=true:=decide_eq_true (by omega)
   have d1:decide (n<(count:Int))=true:=decide_eq_true h1
   go_enter func186,ntmps186
   go_wp2_with fail
   refine(BX 30 _).mono ?_
   rintro e w1 ⟨rfl,rfl⟩
   go_wp2_with fail
   go_ret
   exact⟨rfl,.inl ⟨hI,rfl⟩⟩
  ·have hI:Eo n count=false:=by unfold Eo;exact decide_eq_false (by omega)
   have d:decide (0≤n)=true:=decide_eq_true (by omega)
   have d1:decide (n<(count:Int))=false:=decide_eq_false h1
   go_enter func186,ntmps186
   go_wp2_with fail
   refine(DI 30 _).mono ?_
   rintro e w1 ⟨rfl,rfl⟩
   go_wp2_with fail
   exact⟨rfl,rfl,.inr ⟨hI,rfl⟩⟩
def MC (W:World) (g:Nat) (x:Fx) (pc:Int):Prop:=W.cell? ⟨g,20,none⟩=some (.int .i64 pc)∧g<W.heap.size∧ACS W x
def ME (w w':World) (g:Nat) (x:Fx) (pc err:Int) (e:Ending) (P:Prop):Prop:=Keep (fun k=>k≠g) w w'∧((err=0∧e= .returned (.tuple #[])∧P)∨(err≠0∧e= .panicked (D6 err)∧MC w' g x pc))
theorem Bu {w w':World} {lo g:Nat} (h:Keep (fun k=>k≠g) w w') (hg:lo≤g) (hl:lo≤w.heap.size):Below lo w w':=h.below hl (fun k hk=>by omega)
theorem E5.Gu {W:World} {lo g:Nat} {x:Fx} {st:Cm} {pc:Int} {vS vF vO:Value} {bs:List Nat} (h:E5 W lo g x st pc vS vF vO bs):MC W g x pc:=⟨h.blk.cell 20,h.blk.lt,fun q hq=>(h.ex q hq).1⟩
theorem SG (s:ByteArray) {lo g:Nat} {x:Fx} {st:Cm} {pc:Int} {vS vF vO:Value} {bs:List Nat} (w:World) (h:E5 w lo g x st pc vS vF vO bs) (hs:st.shape.size≤1000000) (hs2:s.size≤1000000):
 Calls prog 172 #[.pointer (some ⟨g,0,none⟩),.string s] w fun e w'=>ME w w' g x pc (Ab (decide (st.shape.size+s.size≤256)) 34) e (E5 w' lo g x {st with shape:=st.shape++s} pc vS vF vO bs):=by
 have H:=AA h
 have hc18:=h.blk.q 18 rfl
 have hlt:=h.blk.lt
 have hf:=h.blk.frozen 18
 have E1:Hid (Ab (decide ((st.shape.size:Int)+s.size≤256)) 34=Ab (decide (st.shape.size+s.size≤256)) 34):=AA (by congr 1;exact decide_eq_decide.2 (by omega))
 clear h
 go_enter func172,ntmps172
 go_wp2_with fail
 refine(bD _ 34 (by decide) _).mono ?_
 rintro e w1 ⟨rfl,⟨h0,rfl⟩ | ⟨h0,rfl⟩⟩
 ·rw [E1.out] at h0
  have H0:=AA h0;clear h0
  go_wp2_with fail
  go_end0
  have h2:=H.out.shape (st.shape++s)
  exact⟨(Keep.refl _ _).setCell (by simp) _,.inl ⟨H0.out,rfl,h2.2⟩⟩
 ·rw [E1.out] at h0⊢
  have H0:=AA h0;clear h0
  go_wp2_with fail
  exact⟨rfl,Keep.refl _ _,.inr ⟨H0.out,rfl,H.out.Gu⟩⟩
theorem ME.imp {w w':World} {g:Nat} {x:Fx} {pc err:Int} {e:Ending} {P Q:Prop} (h:ME w w' g x pc err e P) (hp:P→Q):ME w w' g x pc err e Q:=
 ⟨h.1,h.2.elim (fun a=> .inl ⟨a.1,a.2.1,hp a.2.2⟩) .inr⟩
theorem fT (s:ByteArray) {lo g:Nat} {x:Fx} {st:Cm} {pc:Int} (w:World) (h:Wk w lo g x st pc) (hs:st.shape.size≤1000000) (hs2:s.size≤1000000):
 Calls prog 172 #[.pointer (some ⟨g,0,none⟩),.string s] w fun e w'=>ME w w' g x pc (Ab (decide (st.shape.size+s.size≤256)) 34) e (Wk w' lo g x {st with shape:=st.shape++s} pc):=by
 obtain⟨vS,vF,vO,bs,h⟩:=h
 exact(SG s w h hs hs2).mono fun e w' hh=>hh.imp fun hk=>⟨_,_,_,_,hk⟩
theorem AQ.drewN' {W:World} {g n:Nat} {t:TypeId} {xs:List Value} (h:AQ W g t xs):AQ (W.drewN n) g t xs:=h
theorem E5.drewN {W:World} {lo g:Nat} {x:Fx} {st:Cm} {pc:Int} {vS vF vO:Value} {bs:List Nat} (h:E5 W lo g x st pc vS vF vO bs) (n:Nat):E5 (W.drewN n) lo g x st pc vS vF vO bs:=h.below (below_drewN (Below.refl _ _) _)
theorem KO {lo g:Nat} {x:Fx} {st:Cm} {pc:Int} {vS vF vO:Value} {b:Nat} {bs:List Nat} {o:Bo} {r:List Bo} {w:World} (h:E5 w lo g x st pc vS vF vO (b::bs)) (hop:st.op=o::r) (hr:r.length≤1000000) (n:Nat):
 Calls prog 134 #[.pointer (some ⟨g,0,none⟩)] (w.drewN n) fun e w'=>e= .returned (.pointer (some ⟨b,0,none⟩))∧ ∃m,w'=w.drewN m:=by
 refine(ZW (w.drewN n) (h.below (below_drewN (Below.refl _ _) _)) hop hr).mono ?_
 rintro e w' ⟨h1,k,rfl⟩
 exact⟨h1,_,World.drewN_drewN w n k⟩
theorem SI (s:ByteArray) {lo g:Nat} {x:Fx} {st:Cm} {pc:Int} {vS vF vO:Value} {bs:List Nat} {o:Bo} {r:List Bo} (w:World) (h:E5 w lo g x st pc vS vF vO bs) (hop:st.op=o::r) (hr:r.length≤1000000) (hb:o.base.size≤st.shape.size) (hs:st.shape.size≤1000000) (hs2:s.size≤1000000):
 Calls prog 171 #[.pointer (some ⟨g,0,none⟩),.string s] w fun e w'=>ME w w' g x pc (Ab (ends (AV st) s) 33) e (E5 w' lo g x {st with shape:=st.shape.extract 0 (st.shape.size-s.size)} pc vS vF vO bs):=by
 obtain⟨b,bs',A,c,rfl,_,_,hbk,hlb,_⟩:=h.head hop
 have H:=AA h
 have HT:=AA (fun n=>KO h hop hr n)
 have hc18:=h.blk.q 18 rfl
 have hcb:=hbk.q 4 rfl
 have hlt:=h.blk.lt
 have hf:=h.blk.frozen 18
 have hab:AV st=st.shape.extract o.base.size st.shape.size:=by unfold AV Bg;rw [hop];rfl
 have hsz:(AV st).size=st.shape.size-o.base.size:=by rw [hab,ByteArray.size_extract];omega
 rw [hab] at hsz⊢
 clear h hop hab hbk
 go_enter func171,ntmps171
 go_wp2_with fail
 go_quiet ((go_at_call 134;exact HT.out _))
 go_wp2_with fail
 refine(Tp _ s (by omega) (by omega) _).mono ?_
 rintro e w1 ⟨rfl,rfl⟩
 go_wp2_with fail
 refine(bD _ 33 (by decide) _).mono ?_
 rintro e w1 ⟨rfl,⟨h0,rfl⟩ | ⟨h0,rfl⟩⟩
 ·have hle:s.size≤st.shape.size:=by
   have:=Kk _ _ (BS (by decide) h0)
   omega
  have hle1:(0:Int)≤(st.shape.size:Int)-s.size:=by omega
  have hle2:((st.shape.size:Int)-s.size).toNat=st.shape.size-s.size:=by omega
  have H0:=AA h0;clear h0
  clear hsz hb
  go_wp2_with fail
  go_region
  all_goals
   go_end0
   have h2:=(H.out.drewN (nq+1)).shape (st.shape.extract 0 (st.shape.size-s.size))
   exact⟨((Keep.refl _ _).drewN _).setCell (by simp) _,.inl ⟨H0.out,rfl,h2.2⟩⟩
 ·have H0:=AA h0;clear h0
  go_wp2_with fail
  exact⟨rfl,(Keep.refl _ _).drewN _,.inr ⟨H0.out,rfl,H.out.Gu⟩⟩
theorem Jc (s:ByteArray) {lo g:Nat} {x:Fx} {st:Cm} {pc:Int} {o:Bo} {r:List Bo} (w:World) (h:Wk w lo g x st pc) (hop:st.op=o::r) (hr:r.length≤1000000) (hb:o.base.size≤st.shape.size) (hs:st.shape.size≤1000000) (hs2:s.size≤1000000):
 Calls prog 171 #[.pointer (some ⟨g,0,none⟩),.string s] w fun e w'=>ME w w' g x pc (Ab (ends (AV st) s) 33) e (Wk w' lo g x {st with shape:=st.shape.extract 0 (st.shape.size-s.size)} pc):=by
 obtain⟨vS,vF,vO,bs,h⟩:=h
 exact(SI s w h hop hr hb hs hs2).mono fun e w' hh=>hh.imp fun hk=>⟨_,_,_,_,hk⟩
theorem MF (n:Int) (hn: -9223372036854775808≤n∧n<9223372036854775808) {lo g:Nat} {x:Fx} {st:Cm} {pc:Int} {vS vF vO:Value} {bs:List Nat} (w:World) (h:E5 w lo g x st pc vS vF vO bs) (hr:st.op.length≤1000000):
 Calls prog 188 #[.pointer (some ⟨g,0,none⟩),.int .i64 n] w fun e w'=>(∃k,w'=w.drewN k)∧((BK st.op n=none∧e= .panicked (D6 31))∨ ∃o b,BK st.op n=some o∧0≤n∧bs[n.toNat]?=some b∧e= .returned (.pointer (some ⟨b,0,none⟩))):=by
 obtain⟨A,c,rfl⟩:=CZ h.op
 have hc17:=h.blk.q 17 rfl
 have H:=AA h
 by_cases h0:n<0
 ·have hI:BK st.op n=none:=by unfold BK;rw [if_neg (by omega)]
  have d:decide (0≤n)=false:=decide_eq_false (by omega)
  clear h0 h
  go_enter func188,ntmps188
  go_wp2_with fail
  refine(DI 31 _).mono ?_
  rintro e w1 ⟨rfl,rfl⟩
  go_wp2_with fail
  exact⟨rfl,⟨0,rfl⟩,.inl ⟨hI,rfl⟩⟩
 ·obtain⟨k,rfl⟩:=Int.eq_ofNat_of_zero_le (show 0≤n by omega)
  have d:decide ((0:Int)≤k)=true:=decide_eq_true (by omega)
  by_cases h1:k<st.op.length
  ·obtain⟨o,ho⟩: ∃o,st.op[k]?=some o:=⟨_,List.getElem?_eq_getElem h1⟩
   have hbl:=h.bl
   obtain⟨b,hb⟩: ∃b,bs[k]?=some b:=⟨_,List.getElem?_eq_getElem (by omega)⟩
   obtain⟨a,c',hv,_,_,_⟩:=FL h.op (by omega)
   injection hv with hv _ hv'
   subst hv hv'
   have hcell:w.cell? ⟨a,st.op.length-1-k,none⟩=some (.pointer (some ⟨b,0,none⟩)):=by
    have:=h.op.cellAt (st.op.length-1-k) (by omega)
    rw [this,List.getElem?_map,List.getElem?_reverse (by omega),show bs.length-1-(st.op.length-1-k)=k from by omega,hb]
    rfl
   have hI:BK st.op (k:Int)=some o:=by unfold BK;rw [if_pos (by omega),Int.toNat_natCast,ho]
   obtain⟨m,hm⟩: ∃m,st.op.length=m+1+k:=⟨st.op.length-1-k,by omega⟩
   rw [hm,show m+1+k-1-k=m from by omega] at hcell
   rw [hm] at hc17 hr
   have d1:decide ((k:Int)<(m:Int)+1+k)=true:=decide_eq_true (by omega)
   have hb':bs[(k:Int).toNat]?=some b:=hb
   clear h ho hbl hb h1 hm
   go_enter func188,ntmps188
   go_wp2_with fail
   refine(BX 31 _).mono ?_
   rintro e w1 ⟨rfl,rfl⟩
   go_wp2_with fail
   go_quiet (fail)
   go_wp2_with fail
   go_ret
   exact⟨⟨_,rfl⟩,.inr ⟨o,b,hI,by omega,hb',rfl⟩⟩
  ·have hI:BK st.op (k:Int)=none:=by unfold BK;rw [if_pos (by omega),Int.toNat_natCast];exact List.getElem?_eq_none (by omega)
   have d1:decide ((k:Int)<(st.op.length:Int))=false:=decide_eq_false (by omega)
   have d2:decide (k<st.op.length)=false:=decide_eq_false h1
   have d3: ¬((k:Int)<(st.op.length:Int)):=by omega
   clear h
   go_enter func188,ntmps188
   go_wp2_with fail
   refine(DI 31 _).mono ?_
   rintro e w1 ⟨rfl,rfl⟩
   go_wp2_with fail
   exact⟨rfl,⟨0,rfl⟩,.inl ⟨hI,rfl⟩⟩
theorem Vy (a b:ByteArray):(a.toList==b.toList)=decide (a=b):=by
 by_cases h:a=b
 ·subst h;simp
 ·rw [decide_eq_false h]
  rw [beq_eq_false_iff_ne]
  intro e
  exact h (by rw [ByteArray.toList_eq,ByteArray.toList_eq] at e;exact ByteArray.ext (Array.toList_inj.1 e))
theorem Fh (t:TypeId) (a b:ByteArray) (h:a.size+b.size≤9223372036854775807):binOp .add t (.string a) (.string b)=pure (.string (a++b)):=by
 have hm:IntKind.i64.max=9223372036854775807:=rfl
 have: ¬(((a.size+b.size:Nat):Int)>IntKind.i64.max):=by rw [hm];omega
 simp only [binOp,Op.stringOp,this,if_false]
theorem qy (s:ByteArray) {lo g:Nat} {x:Fx} {st:Cm} {pc:Int} {b:Nat} {o:Bo} (w:World) (h:Wk w lo g x st pc) (hb:AQ w b 175 (Tn o)) (hs1:o.base.size≤1000000) (hs2:s.size≤1000000):
 Calls prog 187 #[.pointer (some ⟨g,0,none⟩),.pointer (some ⟨b,0,none⟩),.string s] w fun e w'=>
  ME w w' g x pc (Ab (st.dead||decide (st.shape=o.base++s)) 33) e (Wk w' lo g x {st with shape:=o.base++s} pc):=by
 obtain⟨vS,vF,vO,bs,h⟩:=h
 have H:=AA h;have HB:=AA hb
 have hc18:=h.blk.q 18 rfl
 have hc19:=h.blk.q 19 rfl
 have hcb:=hb.q 4 rfl
 have hlt:=h.blk.lt
 have hf:=h.blk.frozen 18
 cases hd:st.dead with
 | true=>
  rw [hd] at hc19
  have h2:=h.shape (o.base++s)
  rw [hd] at h2
  have H2:=AA h2
  have GN:Hid (Keep (fun k=>k≠g) w (w.setCell ⟨g,18,none⟩ (.string (o.base++s)))):=AA ((Keep.refl _ _).setCell (by simp) _)
  have hc18':=h2.2.blk.q 18 rfl
  have hcb':(w.setCell ⟨g,18,none⟩ (.string (o.base++s))).cell? ⟨b,4,none⟩=some (.string o.base):=(hb.far (p:=⟨g,18,none⟩) (FR hb h.blk (by decide)) _).cell 4
  have hq:((o.base++s).toList==(o.base++s).toList)=true:=by simp
  clear h hb hd h2
  go_enter func187,ntmps187
  go_upto_region 2 with fail
  generalize w.setCell ⟨g,18,none⟩ (.string (o.base++s))=w2 at*
  go_quiet ((go_at_call 133;first | exact Bj (BX 33 _) | exact Bp (BX 33 _)))
  go_wp2_with fail
  go_end0
  exact⟨GN.out.drewN _,.inl ⟨BQ rfl,rfl,_,_,_,_,H2.out.2.drewN _⟩⟩
 | false=>
  rw [hd] at hc19
  by_cases hT:st.shape=o.base++s
  ·rw [hT] at hc18
   have h2:E5 w lo g x {st with shape:=o.base++s,dead:=false} pc vS vF vO bs:=by rw [←hT,←hd];exact h
   have H2:=AA h2
   have hE:Ab (false||decide (st.shape=o.base++s)) 33=0:=BQ (by rw [decide_eq_true hT];rfl)
   rw [hE]
   clear h hb hd h2 hT hE
   go_enter func187,ntmps187
   go_upto_region 2 with fail
   go_quiet ((go_at_call 133;first | exact Bj (BX 33 _) | exact Bp (BX 33 _)))
   go_wp2_with fail
   go_end0
   exact⟨(Keep.refl _ _).drewN _,.inl ⟨rfl,rfl,_,_,_,_,H2.out.drewN _⟩⟩
  ·have hE:Ab (false||decide (st.shape=o.base++s)) 33=33:=Bw (by rw [decide_eq_false hT];rfl)
   have hq:(st.shape.toList==(o.base++s).toList)=false:=by rw [Vy];exact decide_eq_false hT
   rw [hE]
   clear h hb hd hT hE
   go_enter func187,ntmps187
   go_upto_region 2 with fail
   have hadd:binOp .add 9 (.string o.base) (.string s)=pure (.string (o.base++s)):=Fh _ _ _ (by omega)
   go_still_tail 11,(by kernel_rfl)
   change wpList _ _ _ _ _ w.drew
   go_wp2_with fail
   refine(DI 33 _).mono ?_
   rintro e w1 ⟨rfl,rfl⟩
   go_wp2_with fail
   exact⟨rfl,(Keep.refl _ _).drewN 1,.inr ⟨by decide,rfl,H.out.Gu⟩⟩
theorem lG (o:UInt8) (w:World):Calls prog 87 #[.int .u8 (o.toNat:Int)] w fun e w'=>e= .returned (.bool (DV o))∧w'=w:=by
 go_enter func87,ntmps87
 have e0:DV o=(decide ((o.toNat:Int)=0)||(decide ((o.toNat:Int)=7)||(decide ((o.toNat:Int)=9)||decide ((o.toNat:Int)=10)))):=by
  unfold DV
  rw [Bool.eq_iff_iff]
  simp only [decide_eq_true_eq,Bool.or_eq_true]
  omega
 by_cases h0:(o.toNat:Int)=0
 ·go_wp2_with fail
  go_ret
  exact⟨by rw [e0];simp [h0],rfl⟩
 ·by_cases h7:(o.toNat:Int)=7
  ·go_wp2_with fail
   go_ret
   exact⟨by rw [e0];simp [h7],rfl⟩
  ·by_cases h9:(o.toNat:Int)=9
   ·go_wp2_with fail
    go_ret
    exact⟨by rw [e0];simp [h9],rfl⟩
   ·go_wp2_with fail
    go_ret
    have eo:((o.toNat:Int)==0||(o.toNat:Int)==7||(o.toNat:Int)==9||(o.toNat:Int)==10)=DV o:=by
     rw [e0,Bool.eq_iff_iff]
     simp only [Bool.or_eq_true,beq_iff_eq,decide_eq_true_eq]
     omega
    exact⟨congrArg (fun b=>Ending.returned (.bool b)) eo,rfl⟩
structure Fy where
 m0:Value
 m1:Value
 m2:Value
 m3:Value
 m4:Value
 m5:Value
 m6:Value
 m7:Value
 fn:Nat
 loc:ByteArray
 code:Value
 ends:Value
 AB:Value
 BF:Value
def wkC (y:Fy) (vF vS:Value):List Value:= [y.m0,y.m1,y.m2,y.m3,y.m4,y.m5,y.m6,y.m7,.int .i64 (y.fn:Int),y.code,.string y.loc,y.ends,y.AB,y.BF,vF,vS]
structure rX (W:World) (hi:Nat) (y:Fy) (m:AP) (f:Bt):Prop where
 rd:Db.R W 0 hi [y.m0,y.m1,y.m2,y.m3,y.m4,y.m5,y.m6,y.m7] m
 fn:m.fns[y.fn]?=some f
 ok:J7 m
theorem QW {hi g:Nat} {y:Fy} {m:AP} {f:Bt} {vF vS:Value} (w:World) (h:AQ w g 152 (wkC y vF vS)) (hm:rX w hi y m f):
 Calls prog 114 #[.pointer (some ⟨g,0,none⟩)] w fun e w'=>e= .returned (.string (CG m f.t).r)∧ ∃k,w'=w.drewN k:=by
 obtain⟨v1,v2,v3,v4,v5,v6,e,h0,h1,h2,_,_,h5,_,_⟩:=Av.1 hm.rd
 injection e with e0 e;injection e with e1 e;injection e with e2 e;injection e with e3 e;injection e with e4 e;injection e with e5 e
 obtain⟨A5,c5,rfl⟩:=AJ h5
 obtain⟨A0,c0,rfl⟩:=AJ h0
 obtain⟨bf,of,Jm,KP,fU,_,hbf,hf0,hf1,hf2,hfB,yV,iT⟩:=FN h5 hm.fn
 subst fU
 have hfo:=hm.ok.fns f (List.mem_of_getElem? hm.fn)
 obtain⟨t,ht⟩: ∃t:Nat,f.t=(t:Int):=⟨f.t.toNat,by have:=hfo.t0;omega⟩
 have htl:t<m.types.length:=by have:=hfo.t1;omega
 obtain⟨ty,hty⟩: ∃ty,m.types[t]?=some ty:=⟨_,List.getElem?_eq_getElem htl⟩
 obtain⟨bt,ot,X3,_,hbt,ht0,ht1,htp,htr⟩:=DN h0 hty
 subst X3
 have JN:CG m f.t=ty:=by rw [ht];exact FI hty
 have SQ:=AA JN
 have hlt:=(List.getElem?_eq_some_iff.1 hm.fn).1
 have c0':w.cell? ⟨g,0,none⟩=some (.slice (some ⟨bt,ot,none⟩) m.types.length c0):=(h.cell 0).trans (by rw [←e0];rfl)
 have c5':w.cell? ⟨g,5,none⟩=some (.slice (some ⟨bf,of,none⟩) m.fns.length c5):=(h.cell 5).trans (by rw [←e5];rfl)
 have c8':=h.q 8 rfl
 rw [ht] at hf0
 have hk0:(0:Int)≤y.fn:=by omega
 have hk1:(y.fn:Int)<m.fns.length:=by omega
 have qz:(0:Int)≤t:=by omega
 have rA:(t:Int)<m.types.length:=by omega
 clear h hm h0 h1 h2 h5 e0 e1 e2 e3 e4 e5 e JN ht hfo hty hfB yV iT htp htr hf1 hf2 ht0 hbf hbt
 go_enter func114,ntmps114
 go_wp2_with fail
 go_quiet (fail)
 go_wp2_with fail
 go_ret
 rw [SQ.out]
 exact⟨rfl,_,rfl⟩
structure ACd (W:World) (hi:Nat) (y:Fy) (f:Bt):Prop where
 cd: ∃A c,y.code= .slice A f.code.length c∧(Ga.sl false).R W 0 hi [.slice A f.code.length c] f.code
theorem SS {hi g:Nat} {y:Fy} {m:AP} {f:Bt} {vF vS:Value} (p:Int) (w:World) (h:AQ w g 152 (wkC y vF vS)) (hm:rX w hi y m f) (hhi:hi≤w.heap.size) (hp:p<0):
 Calls prog 89 #[.pointer (some ⟨g,0,none⟩),.int .i64 p] w fun e w'=>e= .returned (.agg #[.string Di,.string (CG m f.t).r])∧Below w.heap.size w w':=by
 have H:=AA h;have HM:=AA hm
 clear h hm
 go_enter func89,ntmps89
 go_upto_region 2 with fail
 generalize hw1:w.alloc (.cells #[.string ⟨#[]⟩,.string ⟨#[]⟩] 93)=w1
 have HB:Hid (Below w.heap.size w w1):=AA (by rw [←hw1];exact(Below.refl _ _).alloc (Nat.le_refl _) _)
 have HS:Hid (AQ w1 w.heap.size 93 [.string ⟨#[]⟩,.string ⟨#[]⟩]):=AA (by rw [←hw1];exact AQ.new w 93 _)
 clear hw1
 go_wp2_with fail
 refine(QW w1 (H.out.below HB.out H.out.lt) ⟨Rd.below HM.out.rd HB.out hhi,HM.out.fn,HM.out.ok⟩).mono ?_
 rintro e w2 ⟨rfl,k,rfl⟩
 have hS:=HS.out.drewN k
 have s0:=hS.q 0 rfl
 have s1:=hS.q 1 rfl
 have f0:=hS.frozen 0
 have f1:=hS.frozen 1
 have HS2:=AA hS
 have HB2:Hid (Below w.heap.size w (w1.drewN k)):=AA (below_drewN HB.out k)
 clear hS
 generalize w1.drewN k=w2 at*
 go_wp2_with fail
 have hT:=(HS2.out.set 0 (.string ⟨#[]⟩)).set 1 (.string (CG m f.t).r)
 have hB:=(HB2.out.setCell (p:=⟨w.heap.size,0,none⟩) (Nat.le_refl _) (.string ⟨#[]⟩)).setCell (p:=⟨w.heap.size,1,none⟩) (Nat.le_refl _) (.string (CG m f.t).r)
 generalize (w2.setCell ⟨w.heap.size,0,none⟩ (.string ⟨#[]⟩)).setCell ⟨w.heap.size,1,none⟩ (.string (CG m f.t).r)=w3 at hT hB⊢
 have z0:=hT.q 0 rfl
 have z1:=hT.q 1 rfl
 refine⟨rfl,.agg #[.string Di,.string (CG m f.t).r],?_,rfl,hB⟩
 simp [results,results89,go_sem,z0,z1]
 try rfl
theorem Tq {hi g:Nat} {y:Fy} {m:AP} {f:Bt} {vF vS:Value} (p t:Nat) (x:Ad) (s:CW) (w:World) (h:AQ w g 152 (wkC y vF vS)) (hm:rX w hi y m f) (hc:ACd w hi y f) (hhi:hi≤w.heap.size) (hx:f.code[p]?=some x) (ha:x.a=(t:Int)) (hs:m.types[t]?=some s):
 Calls prog 89 #[.pointer (some ⟨g,0,none⟩),.int .i64 p] w fun e w'=>e= .returned (.agg #[.string s.p,.string s.r])∧Below w.heap.size w w':=by
 obtain⟨v1,v2,v3,v4,v5,v6,e,h0,_⟩:=Av.1 hm.rd
 injection e with e0 e
 obtain⟨A0,c0,rfl⟩:=AJ h0
 obtain⟨bt,ot,X3,_,hbt,ht0,ht1,htp,htr⟩:=DN h0 hs
 subst X3
 obtain⟨A,c,ec,hcr⟩:=hc.cd
 obtain⟨b,o,Gb,GH,rfl,_,hb,_,hxa,_⟩:=EP hcr hx
 rw [ha] at hxa
 have hpl:=(List.getElem?_eq_some_iff.1 hx).1
 have htl:=(List.getElem?_eq_some_iff.1 hs).1
 have hgl:=h.lt
 have c0':w.cell? ⟨g,0,none⟩=some (.slice (some ⟨bt,ot,none⟩) m.types.length c0):=(h.cell 0).trans (by rw [←e0];rfl)
 have c9':w.cell? ⟨g,9,none⟩=some (.slice (some ⟨b,o,none⟩) f.code.length c):=(h.cell 9).trans (by rw [←ec];rfl)
 have hp0:(0:Int)≤p:=by omega
 have hp1:(p:Int)<f.code.length:=by omega
 have qz:(0:Int)≤t:=by omega
 have rA:(t:Int)<m.types.length:=by omega
 clear h hm hc h0 e0 e ec hcr hx hs ha
 go_enter func89,ntmps89
 go_upto_region 3 with fail
 generalize hw1:w.alloc (.cells #[.string ⟨#[]⟩,.string ⟨#[]⟩] 93)=w1
 have hB:Below w.heap.size w w1:=by rw [←hw1];exact(Below.refl _ _).alloc (Nat.le_refl _) _
 have hS:AQ w1 w.heap.size 93 [.string ⟨#[]⟩,.string ⟨#[]⟩]:=by rw [←hw1];exact AQ.new w 93 _
 have d0:=(hB.cell hgl (p:=⟨g,0,none⟩)).trans c0'
 have d9:=(hB.cell hgl (p:=⟨g,9,none⟩)).trans c9'
 have d1:=(hB.cell (Nat.lt_of_lt_of_le hb hhi) (p:=⟨b,o+p*3+1,none⟩)).trans hxa
 have d2:=(hB.cell (Nat.lt_of_lt_of_le hbt hhi) (p:=⟨bt,ot+t*2,none⟩)).trans ht0
 have d3:=(hB.cell (Nat.lt_of_lt_of_le hbt hhi) (p:=⟨bt,ot+t*2+1,none⟩)).trans ht1
 have s0:=hS.q 0 rfl
 have s1:=hS.q 1 rfl
 have f0:=hS.frozen 0
 have f1:=hS.frozen 1
 have HS2:=AA hS
 have HB2:=AA hB
 have n1:g≠w.heap.size:=by omega
 have n2:b≠w.heap.size:=by omega
 have n3:bt≠w.heap.size:=by omega
 have hbl:b<w.heap.size:=Nat.lt_of_lt_of_le hb hhi
 have ACV:bt<w.heap.size:=Nat.lt_of_lt_of_le hbt hhi
 clear hw1 hS hB c0' c9' hxa ht0 ht1
 go_still_tail 15,(by kernel_rfl)
 repeat still_step
 try refine wpStill_nil ?_
 change wpList _ _ _ _ _ w1.drew
 have s0':w1.drew.cell? ⟨w.heap.size,0,none⟩=some (.string ⟨#[]⟩):=s0
 have s1':w1.drew.cell? ⟨w.heap.size,1,none⟩=some (.string ⟨#[]⟩):=s1
 have f0':w1.drew.frozen? ⟨w.heap.size,0,none⟩=false:=f0
 have f1':w1.drew.frozen? ⟨w.heap.size,1,none⟩=false:=f1
 have HB3:Hid (Below w.heap.size w w1.drew):=AA (below_drewN HB2.out 1)
 have Iy:Hid (AQ w1.drew w.heap.size 93 [.string ⟨#[]⟩,.string ⟨#[]⟩]):=AA HS2.out
 clear d0 d9 d1 d2 d3 s0 s1 f0 f1 HS2 HB2
 generalize w1.drew=w2 at*
 go_wp2_with fail
 have hT:=(Iy.out.set 0 (.string s.p)).set 1 (.string s.r)
 have hB:=(HB3.out.setCell (p:=⟨w.heap.size,0,none⟩) (Nat.le_refl _) (.string s.p)).setCell (p:=⟨w.heap.size,1,none⟩) (Nat.le_refl _) (.string s.r)
 generalize (w2.setCell ⟨w.heap.size,0,none⟩ (.string s.p)).setCell ⟨w.heap.size,1,none⟩ (.string s.r)=w3 at hT hB⊢
 have z0:=hT.q 0 rfl
 have z1:=hT.q 1 rfl
 refine⟨rfl,.agg #[.string s.p,.string s.r],?_,rfl,hB⟩
 simp [results,results89,go_sem,z0,z1]
 try rfl
theorem Ux {w:World} {b1 b2 s1 s2 n1 n2:Nat} {e1 e2:TypeId} {v1 v2:Value} {x1 x2:List Value} (h:w.ownsRow b1 e1 s1 v1 n1 x1) (h':w.ownsRow b2 e2 s2 v2 n2 x2) (hne:e1≠e2): ∀k,v1.ownBlock=some k→v2.ownBlock≠some k:=by
 intro k hk hk'
 rcases h.2 with⟨hv,_⟩ | ⟨g,cap,cur,hv,_,hg,_⟩
 ·rw [hv] at hk;cases hk
 ·rcases h'.2 with⟨hv',_⟩ | ⟨g',cap',cur',hv',_,hg',_⟩
  ·rw [hv'] at hk';cases hk'
  ·rw [hv] at hk;rw [hv'] at hk'
   injection hk with hk;injection hk' with hk'
   have hk:g=k:=hk
   have hk':g'=k:=hk'
   subst hk hk'
   rw [hg] at hg'
   injection hg' with hg'
   injection hg' with _ h2
   exact hne h2
structure D7 (W:World) (h1 g:Nat) (y:Fy) (m:AP) (f:Bt) (c:Ai) (vF vS:Value) (fl:List Int) (sh:List ByteArray):Prop where
 blk:AQ W g 152 (wkC y vF vS)
 md:rX W g y m f
 cd:ACd W g y f
 en: ∃A d,y.ends= .slice A f.code.length d∧(Rd.i64.sl false).R W (g+1) h1 [.slice A f.code.length d] c.ends
 el: ∃A d,y.AB= .slice A f.code.length d∧(Rd.i64.sl false).R W (g+1) h1 [.slice A f.code.length d] c.AB
 ow: ∃A d,y.BF= .slice A f.code.length d∧(Rd.i64.sl false).R W (g+1) h1 [.slice A f.code.length d] c.BF
 loc:y.loc=C8 m f
 fl:W.ownsRow h1 3 1 vF fl.length (fl.map iv)
 sh:W.ownsRow h1 9 1 vS sh.length (sh.map Value.string)
 gh:g<h1
 hh:h1≤W.heap.size
section
variable {W W':World} {h1 g:Nat} {y:Fy} {m:AP} {f:Bt} {c:Ai} {vF vS:Value} {fl:List Int} {sh:List ByteArray}
theorem D7.below (h:D7 W h1 g y m f c vF vS fl sh) (hb:Below W.heap.size W W'):D7 W' h1 g y m f c vF vS fl sh:=by
 have hg:=Nat.le_of_lt (Nat.lt_of_lt_of_le h.gh h.hh)
 obtain⟨A1,d1,e1,r1⟩:=h.en
 obtain⟨A2,d2,e2,r2⟩:=h.el
 obtain⟨A3,d3,e3,r3⟩:=h.ow
 obtain⟨A4,d4,e4,r4⟩:=h.cd.cd
 exact⟨h.blk.below hb h.blk.lt,⟨Rd.below h.md.rd hb hg,h.md.fn,h.md.ok⟩,⟨⟨A4,d4,e4,Rd.below r4 hb hg⟩⟩,⟨A1,d1,e1,Rd.below r1 hb h.hh⟩,⟨A2,d2,e2,Rd.below r2 hb h.hh⟩,⟨A3,d3,e3,Rd.below r3 hb h.hh⟩,h.loc,
  FD h.fl hb,FD h.sh hb,h.gh,Nat.le_trans h.hh hb.size⟩
theorem D7.setF (h:D7 W h1 g y m f c vF vS fl sh) {b n d:Nat} (hv:vF= .slice (some ⟨b,0,none⟩) n d) (hb:h1≤b) (p:Nat) (u:Int):D7 (W.setCell ⟨b,p,none⟩ (iv u)) h1 g y m f c vF vS (fl.set p u) sh:=by
 have hg:=h.gh
 obtain⟨A1,d1,e1,r1⟩:=h.en
 obtain⟨A2,d2,e2,r2⟩:=h.el
 obtain⟨A3,d3,e3,r3⟩:=h.ow
 obtain⟨A4,d4,e4,r4⟩:=h.cd.cd
 have hfl:=h.fl
 have hne:=Ux h.fl h.sh (by decide)
 rw [hv] at hfl hne
 have hn:=hfl.1
 obtain⟨hn,_⟩:=aS hfl
 subst hn
 refine⟨h.blk.far (p:=⟨b,p,none⟩) (by simp;omega) _,⟨Rd.set h.md.rd _ (.inr (by simp;omega)),h.md.fn,h.md.ok⟩,⟨⟨A4,d4,e4,Rd.set r4 _ (.inr (by simp;omega))⟩⟩,⟨A1,d1,e1,Rd.set r1 _ (.inr hb)⟩,⟨A2,d2,e2,Rd.set r2 _ (.inr hb)⟩,⟨A3,d3,e3,Rd.set r3 _ (.inr hb)⟩,h.loc,
  ?_,BH h.sh (p:=⟨b,p,none⟩) (fun e=>hne b rfl e) _,h.gh,by simp;exact h.hh⟩
 rw [hv,List.length_set,List.map_set]
 exact(hfl.stored p (iv u)).1
theorem D7.V5 (h:D7 W h1 g y m f c vF vS fl sh) {A:Option Addr} {d n:Nat} {s:ByteArray} (hn:n=sh.length) (hg:W.grownBy W' vS.ownBlock) (ho:W'.ownsRow h1 9 1 (.slice A (n+1) d) (n+1) (sh.map Value.string++ [.string s])):
 D7 (W'.setCell ⟨g,15,none⟩ (.slice A (n+1) d)) h1 g y m f c vF (.slice A (n+1) d) fl (sh++ [s]):=by
 subst hn
 have hg1:=h.gh
 have hh1:=h.hh
 have hb:Below h1 W W':=BG h.sh hg h.hh
 obtain⟨A1,d1,e1,r1⟩:=h.en
 obtain⟨A2,d2,e2,r2⟩:=h.el
 obtain⟨A3,d3,e3,r3⟩:=h.ow
 obtain⟨A4,d4,e4,r4⟩:=h.cd.cd
 have hfl:W'.ownsRow h1 3 1 vF fl.length (fl.map iv):=h.fl.kept hg (by
  cases hv:vF.ownBlock with
  | none=>exact .inl rfl
  | some k=>exact .inr fun e'=>Ux h.fl h.sh (by decide) k hv e'.symm)
 refine⟨(h.blk.below hb hg1).set 15 _,⟨Rd.set (Rd.below h.md.rd hb (Nat.le_of_lt hg1)) _ (.inr (Nat.le_refl _)),h.md.fn,h.md.ok⟩,⟨⟨A4,d4,e4,Rd.set (Rd.below r4 hb (Nat.le_of_lt hg1)) _ (.inr (Nat.le_refl _))⟩⟩,
  ⟨A1,d1,e1,Rd.set (Rd.below r1 hb (Nat.le_refl _)) _ (.inl (Nat.lt_succ_self _))⟩,⟨A2,d2,e2,Rd.set (Rd.below r2 hb (Nat.le_refl _)) _ (.inl (Nat.lt_succ_self _))⟩,⟨A3,d3,e3,Rd.set (Rd.below r3 hb (Nat.le_refl _)) _ (.inl (Nat.lt_succ_self _))⟩,h.loc,
  JX hfl hg1 _,?_,h.gh,by simp;exact Nat.le_trans h.hh hb.size⟩
 rw [List.map_append,List.length_append]
 exact JX ho (p:=⟨g,15,none⟩) hg1 (.slice A (sh.length+1) d)
theorem D7.wR (h:D7 W h1 g y m f c vF vS fl sh) {p:Nat} {v:Int} (hp:fl[p]?=some v): ∃b d,vF= .slice (some ⟨b,0,none⟩) fl.length d∧h1≤b∧W.cell? ⟨b,p,none⟩=some (.int .i64 v)∧W.frozen? ⟨b,p,none⟩=false:=by
 have hl:=(List.getElem?_eq_some_iff.1 hp).1
 obtain⟨b,d,e,hb,_,_⟩:=FL h.fl (by omega)
 have ho:=h.fl
 rw [e] at ho
 exact⟨b,d,e,hb,by have:=ho.cellAt p (by simpa using hl);simpa [hp,iv] using this,ho.frozenAt p⟩
theorem D7.cellS (h:D7 W h1 g y m f c vF vS fl sh) {p:Nat} {s:ByteArray} (hp:sh[p]?=some s): ∃b d,vS= .slice (some ⟨b,0,none⟩) sh.length d∧h1≤b∧W.cell? ⟨b,p,none⟩=some (.string s):=by
 have hl:=(List.getElem?_eq_some_iff.1 hp).1
 obtain⟨b,d,e,hb,_,_⟩:=FL h.sh (by omega)
 have ho:=h.sh
 rw [e] at ho
 exact⟨b,d,e,hb,by have:=ho.cellAt p (by simpa using hl);simpa [hp] using this⟩
end
theorem V6 {g:Nat} (p:Int) (w:World) (hp:p<0):Calls prog 88 #[.pointer (some ⟨g,0,none⟩),.int .i64 p] w fun e w'=>e= .returned (.string Di)∧ ∃k,w'=w.drewN k:=by
 go_enter func88,ntmps88
 go_wp2_with fail
 go_ret
 exact⟨rfl,0,rfl⟩
theorem YA {h1 g:Nat} {y:Fy} {m:AP} {f:Bt} {c:Ai} {vF vS:Value} {fl:List Int} {sh:List ByteArray} (p n:Nat) (s:ByteArray) (w:World) (h:D7 w h1 g y m f c vF vS fl sh) (hs:sh[p]?=some s) (hf:fl[p]?=some (n:Int)) (hn:n≤s.size) (hz:s.size≤1000000):
 Calls prog 88 #[.pointer (some ⟨g,0,none⟩),.int .i64 p] w fun e w'=>e= .returned (.string (s.extract 0 n))∧ ∃k,w'=w.drewN k:=by
 obtain⟨b1,d1,e1,_,c1,_⟩:=h.wR hf
 obtain⟨b2,d2,e2,_,c2⟩:=h.cellS hs
 have q7:w.cell? ⟨g,14,none⟩=some (.slice (some ⟨b1,0,none⟩) fl.length d1):=by rw [←e1];exact h.blk.cell 14
 have q8:w.cell? ⟨g,15,none⟩=some (.slice (some ⟨b2,0,none⟩) sh.length d2):=by rw [←e2];exact h.blk.cell 15
 have l1:=(List.getElem?_eq_some_iff.1 hs).1
 have l2:=(List.getElem?_eq_some_iff.1 hf).1
 have hp0:(0:Int)≤p:=by omega
 have hp1:(p:Int)<sh.length:=by omega
 have hp2:(p:Int)<fl.length:=by omega
 have hn0:(0:Int)≤n:=by omega
 have hn1:(n:Int)≤s.size:=by omega
 clear h hs hf e1 e2
 go_enter func88,ntmps88
 go_wp2_with fail
 go_quiet (fail)
 go_wp2_with fail
 go_ret
 exact⟨rfl,_,rfl⟩
theorem lH (a b:ByteArray) (w:World):(Instr.field 93 (.agg #[.string a,.string b]) 0).run prog w= .ok (.string a) w:=by kernel_rfl
theorem SX (a b:ByteArray) (w:World):(Instr.field 93 (.agg #[.string a,.string b]) 1).run prog w= .ok (.string b) w:=by kernel_rfl
section
variable {h1 g:Nat} {y:Fy} {m:AP} {f:Bt} {c:Ai} {vF vS:Value} {fl:List Int} {sh:List ByteArray}
theorem SY (o:Bo) (w:World) (h:D7 w h1 g y m f c vF vS fl sh) (ho:Nc m f sh fl o) (hz: ∀s∈sh,s.size≤256):
 Calls prog 88 #[.pointer (some ⟨g,0,none⟩),.int .i64 o.pc] w fun e w'=>e= .returned (.string o.base)∧ ∃k,w'=w.drewN k:=by
 rcases ho with rfl | ⟨p,n,x,s,a1,a2,a3,a4,a5,a6,a7,a8,a9,Wt,UZ,a12⟩
 ·exact V6 (-1) w (by decide)
 ·rw [a1,UZ]
  exact YA p n s w h a8 a9 Wt (by have:=hz s (List.mem_of_getElem? a8);omega)
theorem Kw (o:Bo) (w:World) (h:D7 w h1 g y m f c vF vS fl sh) (ho:Nc m f sh fl o):
 Calls prog 89 #[.pointer (some ⟨g,0,none⟩),.int .i64 o.pc] w fun e w'=>e= .returned (.agg #[.string o.s.p,.string o.s.r])∧Below w.heap.size w w':=by
 have hg:g≤w.heap.size:=Nat.le_of_lt (Nat.lt_of_lt_of_le h.gh h.hh)
 rcases ho with rfl | ⟨p,n,x,s,a1,a2,a3,a4,a5,a6,a7,a8,a9,Wt,UZ,a12⟩
 ·exact SS (-1) w h.blk h.md hg (by decide)
 ·obtain⟨t,ht,htl⟩:=Fw a6
  obtain⟨ty,hty⟩: ∃ty,m.types[t]?=some ty:=⟨_,List.getElem?_eq_getElem htl⟩
  have e:o.s=ty:=by rw [a7,ht];exact FI hty
  rw [a1,e]
  exact Tq p t x ty w h.blk h.md h.cd hg a3 ht hty
theorem Ky (o:Bo) (w:World) (h:D7 w h1 g y m f c vF vS fl sh) (ho:Nc m f sh fl o):
 Calls prog 182 #[.pointer (some ⟨g,0,none⟩),.int .i64 o.pc] w fun e w'=>e= .returned (.string (BZ o))∧Below w.heap.size w w':=by
 have H:=AA h;have HO:=AA ho
 rcases ho with rfl | ⟨p,n,x,s,a1,a2,a3,a4,a5,a6,a7,a8,a9,Wt,UZ,a12⟩
 ·have hb:BZ (I_ (CG m f.t))=(I_ (CG m f.t)).s.r:=rfl
  rw [hb]
  have ht:=Kw _ w h HO.out
  have HT:=AA ht
  change Calls _ _ #[.pointer (some ⟨g,0,none⟩),.int .i64 (-1)] _ _
  clear h ht hb
  go_enter func182,ntmps182
  go_wp2_with fail
  refine HT.out.mono ?_
  rintro e w1 ⟨rfl,hb⟩
  have HB:=AA hb;clear hb
  have f1:=SX (I_ (CG m f.t)).s.p (I_ (CG m f.t)).s.r w1
  go_wp2_with fail
  go_ret
  exact⟨rfl,HB.out⟩
 ·have hx:=a3
  have ha:BZ o=if x.op.toNat=3 then o.s.p else o.s.r:=by unfold BZ;rw [a5]
  obtain⟨A,d,ec,hcr⟩:=h.cd.cd
  obtain⟨b,oo,Gb,GH,rfl,_,hb,hx0,_,_,_,_⟩:=EP hcr hx
  have hpl:=(List.getElem?_eq_some_iff.1 hx).1
  have c9':w.cell? ⟨g,9,none⟩=some (.slice (some ⟨b,oo,none⟩) f.code.length d):=(h.blk.cell 9).trans (by rw [←ec];rfl)
  have hp0:(0:Int)≤p:=by omega
  have hp1:(p:Int)<f.code.length:=by omega
  have HT:=AA (fun k=>(Kw o (w.drewN k) (h.below (below_drewN (Below.refl _ _) k)) HO.out))
  rw [ha]
  rw [a1] at HT⊢
  have hd:decide ((0:Int)≤p)=true:=decide_eq_true (by omega)
  clear h ha hx ec hcr a2 a3 a4 a5 a6 a7 a8 a9 Wt UZ a12 hpl
  by_cases h3:x.op.toNat=3
  ·have q:((x.op.toNat:Int)==3)=true:=by simp;omega
   rw [if_pos h3]
   clear h3
   go_enter func182,ntmps182
   go_wp2_with fail
   refine(HT.out 0).mono ?_
   rintro e w1 ⟨rfl,hb⟩
   have HB:Hid (Below w.heap.size w w1):=AA ((below_drewN (Below.refl _ _) _).trans hb);clear hb
   have f0:=lH o.s.p o.s.r w1
   have f1:=SX o.s.p o.s.r w1
   go_wp2_with fail
   go_ret
   exact⟨rfl,HB.out⟩
  ·have q:((x.op.toNat:Int)==3)=false:=by simp;omega
   rw [if_neg h3]
   clear h3
   go_enter func182,ntmps182
   go_wp2_with fail
   refine(HT.out 0).mono ?_
   rintro e w1 ⟨rfl,hb⟩
   have HB:Hid (Below w.heap.size w w1):=AA ((below_drewN (Below.refl _ _) _).trans hb);clear hb
   have f0:=lH o.s.p o.s.r w1
   have f1:=SX o.s.p o.s.r w1
   go_wp2_with fail
   go_ret
   exact⟨rfl,HB.out⟩
end
theorem gL (pb pe pa:Addr) (w:World):
 CallsD prog 132 #[.pointer (some pb),.pointer (some pe),.pointer (some pa)] .returning w fun e u' w'=>e= .returned (.tuple #[])∧u'= .returning∧w'=w:=by
 refine callsD_of_wpS func132 rfl fun c₀ cs hu=> ?_
 apply wpS_seq
 apply wpS_region
 simp [wpOpsS,go_sem,recoverD,hu,ntmps132,Exit.thenS,Array.replicate]
 have Hu:=AA hu;clear hu
 refine wpS_of_wp ?_
 go_wp2_with fail
 simp [bodyPostS,results,results132,←Hu.out]
theorem WS (v:Value) (W:World):(Instr.typeAssert (.iface 206 v) 20 206 true).run prog W= .ok (.tuple #[v,.bool true]) W:=by kernel_rfl
theorem Nt (err:Int) (gb ge ga g:Nat) (e0 a0:Int) (x:Fx) (pc:Int) (w:World) (hb:AQ w gb 169 [.pointer (some ⟨g,0,none⟩)]) (he:AQ w ge 41 [.int .i64 e0]) (ha:AQ w ga 3 [.int .i64 a0]) (hne:ge≠ga) (hp:MC w g x pc):
 CallsD prog 132 #[.pointer (some ⟨gb,0,none⟩),.pointer (some ⟨ge,0,none⟩),.pointer (some ⟨ga,0,none⟩)] (.panicking (D6 err)) w fun e u' w'=>
  e= .returned (.tuple #[])∧u'= .panicking [{v:= .iface 206 (.agg #[.int .i64 err]),recovered:=true}]∧Keep (fun k=>k≠ge∧k≠ga) w w'∧AQ w' ge 41 [.int .i64 err]∧AQ w' ga 3 [.int .i64 pc]:=by
 refine callsD_of_wpS func132 rfl fun c₀ cs hu=> ?_
 apply wpS_seq
 apply wpS_region
 simp [wpOpsS,go_sem,recoverD,hu,ntmps132,Exit.thenS,D6,Array.replicate]
 have Hu:=AA hu;clear hu
 refine wpS_of_wp ?_
 have He:=AA he;have Ha:=AA ha
 have hge:=he.lt
 have hga:=ha.lt
 have hgb:=hb.lt
 have hg:=hp.2.1
 have hc0:=hb.q 0 rfl
 have hc1:=he.q 0 rfl
 have hc2:=ha.q 0 rfl
 have hc3:w.cell? ⟨g,20,none⟩=some (.int .i64 pc):=hp.1
 have hf1:=he.frozen 0
 have hf2:=ha.frozen 0
 clear he ha hb hp
 have has:=WS (.agg #[.int .i64 err])
 go_wp2_with fail
 go_region
 all_goals go_wp2_with fail
 have hk:Keep (fun k=>k≠ge∧k≠ga) w ((((w.setCell ⟨ge,0,none⟩ (.int .i64 err)).setCell ⟨ga,0,none⟩ (.int .i64 pc)).alloc (.cells #[.int .i64 err] 206)).drew):=
  ((((Keep.refl _ w).setCell (p:=⟨ge,0,none⟩) (by simp) _).setCell (p:=⟨ga,0,none⟩) (by simp) _).alloc _).drew
 have hb1:AQ ((((w.setCell ⟨ge,0,none⟩ (.int .i64 err)).setCell ⟨ga,0,none⟩ (.int .i64 pc)).alloc (.cells #[.int .i64 err] 206)).drew) ge 41 [.int .i64 err]:=
  (((He.out.set 0 (.int .i64 err)).far (p:=⟨ga,0,none⟩) hne _).alloc _).drewN 1
 have hb2:AQ ((((w.setCell ⟨ge,0,none⟩ (.int .i64 err)).setCell ⟨ga,0,none⟩ (.int .i64 pc)).alloc (.cells #[.int .i64 err] 206)).drew) ga 3 [.int .i64 pc]:=
  (((Ha.out.far (p:=⟨ge,0,none⟩) (Ne.symm hne) _).set 0 (.int .i64 pc)).alloc _).drewN 1
 refine⟨rfl,_,rfl,.tuple #[],?_,rfl,rfl,hk,hb1,hb2⟩
 simp [results,results132]
section
variable {h1 g:Nat} {y:Fy} {m:AP} {f:Bt} {c:Ai} {vF vS:Value} {fl:List Int} {sh:List ByteArray}
theorem D7.OZ {w:World} (h:D7 w h1 g y m f c vF vS fl sh) {q:Nat} {v:Int} (hq:c.BF[q]?=some v): ∃b o d,y.BF= .slice (some ⟨b,o,none⟩) f.code.length d∧ ∀(p:Nat) (v:Int),c.BF[p]?=some v→w.cell? ⟨b,o+p,none⟩=some (.int .i64 v)∧p<f.code.length:=by
 obtain⟨A,d,e,r⟩:=h.ow
 obtain⟨b,o,rfl,_⟩:=Dj r hq
 refine⟨b,o,d,e,fun p v hp=> ?_⟩
 obtain⟨b',o',he,_,_,cs,hc,hr⟩:=Dj r hp
 injection he with he
 injection he with e1 e2 _
 subst e1 e2
 obtain⟨rfl,_⟩:=hr
 have hl:=Dp r
 exact⟨by have:=hc 0 _ rfl;simpa [Rd.i64,Rd.one] using this,by rw [hl];exact(List.getElem?_eq_some_iff.1 hp).1⟩
theorem Uy (n:Int) (pc:Nat) (l:List Nat) (w:World) (h:D7 w h1 g y m f c vF vS fl sh) (ho:c.BF[pc]?=some (EF l)) (hch:Chain c.BF l) (hl:l.length≤1000) (hn: -9223372036854775808≤n∧n<9223372036854775808) (hm:f.code.length≤1000000):
 Calls prog 181 #[.pointer (some ⟨g,0,none⟩),.int .i64 pc,.int .i64 n] w fun e w'=>w=w'∧e= .returned (.tuple #[.int .i64 (EF (l.drop n.toNat)),.bool (zA n l.length)]):=by
 obtain⟨b,o,d,e,hc⟩:=h.OZ ho
 have iW:w.cell? ⟨g,13,none⟩=some (.slice (some ⟨b,o,none⟩) f.code.length d):=(h.blk.cell 13).trans (by rw [←e];rfl)
 obtain⟨ch,hpl⟩:=hc pc _ ho
 have hp0:(0:Int)≤pc:=by omega
 have hp1:(pc:Int)<f.code.length:=by omega
 have HC:=AA hc;have HCH:=AA hch
 clear h hc hch ho e hpl
 go_enter func181,ntmps181
 go_wp2_with fail
 go_loop [2,8] (fun nn oo=> ∃j:Nat,j≤l.length∧(j=0∨(j:Int)≤n)∧nn= .int .i64 (n-j)∧oo= .int .i64 (EF (l.drop j))) (fun nn _=>(intOf nn).toNat)
 case atStart=>exact⟨0,Nat.zero_le _,.inl rfl,by simp,rfl⟩
 case round=>
  obtain⟨j,hj,hjn,rfl,rfl⟩:=hrel
  clear ch
  by_cases h0:0<n-j
  ·have d0:decide (0<n-(j:Int))=true:=decide_eq_true h0
   by_cases h1:j<l.length
   ·obtain⟨p,hp⟩: ∃p,l[j]?=some p:=⟨_,List.getElem?_eq_getElem h1⟩
    obtain⟨cq,hpl⟩:=HC.out p _ (Chain.up HCH.out hp)
    have hq0:(0:Int)≤p:=by omega
    have hq1:(p:Int)<f.code.length:=by omega
    have et:=Uw hp
    rw [et]
    clear hp et
    go_wp2_with fail
    go_round
    case rel=>exact⟨j+1,h1,.inr (by omega),by go_num,rfl⟩
    case measure=>simp [intOf];omega
   ·have et:=SV (l:=l) (j:=j) (by omega)
    rw [et]
    have E1:Hid (EF (l.drop n.toNat)= -1):=AA (SV (by omega))
    have E2:Hid (zA n l.length=false):=AA (decide_eq_false (by omega))
    have hz:((n-(j:Int))==0)=false:=by simp;omega
    clear et
    go_wp2_with fail
    go_ret2
    rw [E1.out,E2.out]
    exact⟨rfl,rfl⟩
  ·have d0:decide (0<n-(j:Int))=false:=decide_eq_false h0
   have E0:j=n.toNat:=by omega
   have E2:Hid (zA n l.length=((n-(j:Int))==0)):=AA (by unfold zA;rw [Bool.eq_iff_iff];simp only [decide_eq_true_eq,beq_iff_eq];omega)
   have E1:=AA E0
   clear E0
   go_wp2_with fail
   go_ret2
   rw [E2.out,←E1.out]
   exact⟨rfl,rfl⟩
theorem JI (n:Int) (k:Nat) (w:World) (hn: -9223372036854775808≤n∧n<9223372036854775808) (hk:k≤1000000):
 Calls prog 180 #[.int .i64 n,.int .i64 k] w fun e w'=>w=w'∧e= .returned (.bool (Eo n k)):=by
 by_cases h0:0≤n
 ·have E:Hid (Eo n k=decide (n<(k:Int))):=AA (by unfold Eo;simp [h0])
  have d0:decide (0≤n)=true:=decide_eq_true h0
  go_enter func180,ntmps180
  go_wp2_with fail
  go_ret
  rw [E.out]
  exact⟨rfl,rfl⟩
 ·have E:Hid (Eo n k=false):=AA (by unfold Eo;exact decide_eq_false (by omega))
  have d0:decide (0≤n)=false:=decide_eq_false h0
  go_enter func180,ntmps180
  go_wp2_with fail
  go_ret
  rw [E.out]
  exact⟨rfl,rfl⟩
end
end Go.Proofs.YtlagonfamllgjaaGreatDoor
