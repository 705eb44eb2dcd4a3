/- Part 8 of the proof: EqI Eq EqW EqA OpsA OpsB -/
import Derived.Deep.QuietTactic
import Derived.Laws.StructEq
import Derived.Test.YtebgikflpgcnlaaGreatDoorP03
namespace Go.Proofs.YtebgikflpgcnlaaGreatDoor
set_option linter.unusedVariables false
set_option linter.unusedSimpArgs false
set_option maxRecDepth 100000
set_option maxHeartbeats 4000000
open Go.RowKit Tryz
def AB3 (l l':List Int) (w:World) (n:Nat) (i:Value) (wr:World):Prop:=
 ∃k m:Nat,k≤n∧i= .int .i64 k∧wr=w.drewN m∧l.take k=l'.take k
theorem yZ (A A':Option Addr) (n n' c c' B B':Nat) (w:World) (l l':List Int) (hn:n=l.length) (hn':n'=l'.length) (h47:n≤140737488351232) (hr:Row w B A (Yn l)) (hr':Row w B' A' (Yn l')):
 Calls prog 45 #[.slice A n c,.slice A' n' c'] w fun e w'=>(∃k,w'=w.drewN k)∧e= .returned (.bool (decide (l=l'))):=by
 by_cases hnn:n=n'
 ·subst hnn
  have Hr:=AA hr;clear hr
  have Hn:=AA hn;clear hn
  have Hr':=AA hr';clear hr'
  have VZ:=AA hn';clear hn'
  go_enter func45,ntmps45
  go_wp2
  go_loopw [5] (fun i wr=>AB3 l l' w n i wr) (fun i _=>n-(intOf i).toNat)
  case atStart=>exact⟨0,0,by omega,rfl,rfl,rfl⟩
  case round=>
   obtain⟨k,m,hk,rfl,rfl,hR⟩:=hrel
   have HR:=AA hR;clear hR
   by_cases hlt:k<n
   ·obtain⟨b,o,rfl,_,hcell⟩:=Wn Hr.out (k:=k) (by rw [←Hn.out];exact hlt)
    obtain⟨b',o',rfl,_,hcell'⟩:=Wn Hr'.out (k:=k) (by rw [←VZ.out];exact hlt)
    have hi:(0:Int)≤k:=by omega
    have hlk:l[k]?=some (l[k]?.getD 0):=by rw [List.getElem?_eq_getElem (by rw [←Hn.out];exact hlt)];rfl
    have tO:l'[k]?=some (l'[k]?.getD 0):=by rw [List.getElem?_eq_getElem (by rw [←VZ.out];exact hlt)];rfl
    have Hlk:=AA hlk;clear hlk
    have gY:=AA tO;clear tO
    by_cases hq:l[k]?.getD 0=l'[k]?.getD 0
    ·have HT:Hid (l.take (k+1)=l'.take (k+1)):=by
      have h1:=Hlk.out
      rw [hq,←gY.out] at h1
      refine AA ?_
      rw [List.take_add_one,List.take_add_one,HR.out,h1]
     rw [hq] at hcell
     clear hq Hlk gY
     generalize l'[k]?.getD 0=x at*
     have hne:(x !=x)=false:=by simp
     go_wp2
     go_quiet (fail)
     go_wp2
     exact⟨⟨k+1,m+nq,by omega,by go_num,rfl,HT.out⟩,by simp [intOf];omega⟩
    ·have hF:Hid (decide (l=l')=false):=by
      refine AA (decide_eq_false fun h=>hq ?_)
      rw [h]
     have hq':l[k]?.getD 0≠l'[k]?.getD 0:=hq
     clear hq Hlk gY
     generalize l'[k]?.getD 0=x at*
     generalize l[k]?.getD 0=y at*
     have hne:(y !=x)=true:=by simp;omega
     clear hq'
     go_wp2
     go_quiet (fail)
     go_wp2
     go_ret
     exact⟨⟨m+nq,World.drewN_drewN _ _ _⟩,by rw [hF.out];rfl⟩
   ·obtain rfl:k=n:=by omega
    have hT:Hid (decide (l=l')=true):=by
     have:=HR.out
     rw [List.take_of_length_le (by rw [Hn.out];exact Nat.le_refl _),List.take_of_length_le (by rw [VZ.out];exact Nat.le_refl _)] at this
     exact AA (decide_eq_true this)
    go_wp2
    go_ret
    exact⟨⟨_,rfl⟩,by rw [hT.out];rfl⟩
 ·have hF:Hid (decide (l=l')=false):=AA (decide_eq_false fun h=>hnn (by rw [hn,hn',h]))
  have hne:((n:Int) !=n')=true:=by simp;omega
  clear hr hr' hn hn'
  go_enter func45,ntmps45
  go_wp2
  go_ret
  exact⟨⟨0,rfl⟩,by rw [hF.out];rfl⟩
def AD9 (l l':List UInt8) (w:World) (n:Nat) (i:Value) (wr:World):Prop:=
 ∃k m:Nat,k≤n∧i= .int .i64 k∧wr=w.drewN m∧l.take k=l'.take k
theorem tN (A A':Option Addr) (n n' c c' B B':Nat) (w:World) (l l':List UInt8) (hn:n=l.length) (hn':n'=l'.length) (h47:n≤140737488351232) (hr:Row w B A (l.map bv)) (hr':Row w B' A' (l'.map bv)):
 Calls prog 19 #[.slice A n c,.slice A' n' c'] w fun e w'=>(∃k,w'=w.drewN k)∧e= .returned (.bool (decide (l=l'))):=by
 by_cases hnn:n=n'
 ·subst hnn
  have Hr:=Lib.hid hr;clear hr
  have Hn:=Lib.hid hn;clear hn
  have Hr':=Lib.hid hr';clear hr'
  have VZ:=Lib.hid hn';clear hn'
  go_enter func19,ntmps19
  go_wp2
  go_loopw [5] (fun i wr=>AD9 l l' w n i wr) (fun i _=>n-(intOf i).toNat)
  case atStart=>exact⟨0,0,by omega,rfl,rfl,rfl⟩
  case round=>
   obtain⟨k,m,hk,rfl,rfl,hR⟩:=hrel
   have HR:=Lib.hid hR;clear hR
   by_cases hlt:k<n
   ·obtain⟨b,o,rfl,_,hcell⟩:=Hr.out.byte (j:=k) (by rw [←Hn.out];exact hlt)
    obtain⟨b',o',rfl,_,hcell'⟩:=Hr'.out.byte (j:=k) (by rw [←VZ.out];exact hlt)
    have hB:(l[k]?.getD 0).toNat<256:=UInt8.toNat_lt _
    have hB':(l'[k]?.getD 0).toNat<256:=UInt8.toNat_lt _
    have hi:(0:Int)≤k:=by omega
    have hlk:l[k]?=some (l[k]?.getD 0):=by rw [List.getElem?_eq_getElem (by rw [←Hn.out];exact hlt)];rfl
    have tO:l'[k]?=some (l'[k]?.getD 0):=by rw [List.getElem?_eq_getElem (by rw [←VZ.out];exact hlt)];rfl
    have Hlk:=Lib.hid hlk;clear hlk
    have gY:=Lib.hid tO;clear tO
    by_cases hq:l[k]?.getD 0=l'[k]?.getD 0
    ·have HT:Hid (l.take (k+1)=l'.take (k+1)):=by
      have h1:=Hlk.out
      rw [hq,←gY.out] at h1
      refine Lib.hid ?_
      rw [List.take_add_one,List.take_add_one,HR.out,h1]
     rw [hq] at hcell
     clear hq hB Hlk gY
     generalize (l'[k]?.getD 0).toNat=x at*
     have hne:((x:Int) !=x)=false:=by simp
     go_wp2
     go_quiet (fail)
     go_wp2
     exact⟨⟨k+1,m+nq,by omega,by go_num,rfl,HT.out⟩,by simp [intOf];omega⟩
    ·have hF:Hid (decide (l=l')=false):=by
      refine Lib.hid (decide_eq_false fun h=>hq ?_)
      rw [h]
     have hq':(l[k]?.getD 0).toNat≠(l'[k]?.getD 0).toNat:=fun h=>hq (UInt8.toNat_inj.1 h)
     clear hq Hlk gY
     generalize (l'[k]?.getD 0).toNat=x at*
     generalize (l[k]?.getD 0).toNat=y at*
     have hne:((y:Int) !=x)=true:=by simp;omega
     clear hq'
     go_wp2
     go_quiet (fail)
     go_wp2
     go_ret
     exact⟨⟨m+nq,World.drewN_drewN _ _ _⟩,by rw [hF.out];rfl⟩
   ·obtain rfl:k=n:=by omega
    have hT:Hid (decide (l=l')=true):=by
     have:=HR.out
     rw [List.take_of_length_le (by rw [Hn.out];exact Nat.le_refl _),List.take_of_length_le (by rw [VZ.out];exact Nat.le_refl _)] at this
     exact Lib.hid (decide_eq_true this)
    go_wp2
    go_ret
    exact⟨⟨_,rfl⟩,by rw [hT.out];rfl⟩
 ·have hF:Hid (decide (l=l')=false):=Lib.hid (decide_eq_false fun h=>hnn (by rw [hn,hn',h]))
  have hne:((n:Int) !=n')=true:=by simp;omega
  clear hr hr' hn hn'
  go_enter func19,ntmps19
  go_wp2
  go_ret
  exact⟨⟨0,rfl⟩,by rw [hF.out];rfl⟩

def JV {α:Type} (l l':α) (w:World) (e:Ending) (w':World):Prop:=Below w.heap.size w w'∧ ∃b,e= .returned (.bool b)∧(b=true↔l=l')
theorem Qv {a b:ByteArray} (h:a≠b):(a.toList==b.toList)=false:=by
 rw [beq_eq_false_iff_ne]
 intro he
 rw [ByteArray.toList_eq,ByteArray.toList_eq] at he
 exact h (ByteArray.ext (Array.toList_inj.1 he))
theorem int_ne {a b:Nat} (h:a≠b):((a:Int)==(b:Int))=false:=by rw [beq_eq_false_iff_ne];omega
theorem int_ne' {a b:Int} (h:a≠b):(a==b)=false:=by rw [beq_eq_false_iff_ne];exact h
theorem AA4 {a b:UInt8} (h:a≠b):((a.toNat:Int)==(b.toNat:Int))=false:=by
 rw [beq_eq_false_iff_ne]
 intro he
 exact h (UInt8.toNat_inj.1 (by omega))
theorem yc {a b:Bool} (h:a≠b):(a==b)=false:=by cases a<;>cases b<;>simp_all
theorem dF (l:List UInt8):(l.flatMap fun x=> [bv x])=l.map bv:=by induction l with | nil=>rfl | cons a l ih=>rw [List.flatMap_cons,ih];rfl
theorem Y4 (l:List Int):(l.flatMap fun x=> [Value.int .i64 x])=Yn l:=by unfold Yn;induction l with | nil=>rfl | cons a l ih=>rw [List.flatMap_cons,ih];rfl
theorem tQ {P:Program} {f:FuncId} {args:Array Value} {w:World} {α:Type} [DecidableEq α] {l l':α} (h:Calls P f args w fun e w'=>(∃k,w'=w.drewN k)∧e= .returned (.bool (decide (l=l')))):Calls P f args w (JV l l' w):=
 h.mono fun e w' ⟨⟨k,hk⟩,he⟩=>⟨by rw [hk];exact below_drewN (Below.refl _ _) k,_,he,decide_eq_true_iff⟩
theorem tT (A A':Option Addr) (n n' c c' hi hi':Nat) (l l':List UInt8) (w:World) (h:(Rd.u8.sl false).R w 0 hi [.slice A n c] l) (h':(Rd.u8.sl false).R w 0 hi' [.slice A' n' c'] l') (h47:n≤140737488351232):
 Calls prog 19 #[.slice A n c,.slice A' n' c'] w (JV l l' w):=
 tQ (tN A A' n n' c c' hi hi' w l l' (D5 h) (D5 h') h47 (by rw [←dF];exact jY.row h) (by rw [←dF];exact jY.row h'))
theorem kC (A A':Option Addr) (n n' c c' hi hi':Nat) (l l':List Int) (w:World) (h:(Rd.i64.sl false).R w 0 hi [.slice A n c] l) (h':(Rd.i64.sl false).R w 0 hi' [.slice A' n' c'] l') (h47:n≤140737488351232):
 Calls prog 45 #[.slice A n c,.slice A' n' c'] w (JV l l' w):=
 tQ (yZ A A' n n' c c' hi hi' w l l' (D5 h) (D5 h') h47 (by rw [←Y4];exact aV.row h) (by rw [←Y4];exact aV.row h'))
def mQ (l l':List Dl) (w:World) (n:Nat) (i:Value) (wr:World):Prop:= ∃k m:Nat,k≤n∧i= .int .i64 k∧wr=w.drewN m∧l.take k=l'.take k
theorem yg (A A':Option Addr) (n n' c c' hi hi':Nat) (l l':List Dl) (w:World) (h:(Mr.sl false).R w 0 hi [.slice A n c] l) (h':(Mr.sl false).R w 0 hi' [.slice A' n' c'] l') (h47:n≤140737488351232):
 Calls prog 44 #[.slice A n c,.slice A' n' c'] w (JV l l' w):=by
 have hn:=D5 h
 have hn':=D5 h'
 by_cases hnn:n=n'
 ·subst hnn
  have Hh:=AA h;clear h
  have tV:=AA h';clear h'
  have Hn:=AA hn;clear hn
  have VZ:=AA hn';clear hn'
  go_enter func44,ntmps44
  go_wp2
  go_loopw [5] (fun i wr=>mQ l l' w n i wr) (fun i _=>n-(intOf i).toNat)
  case atStart=>exact⟨0,0,by omega,rfl,rfl,rfl⟩
  case round=>
   obtain⟨k,m,hk,rfl,rfl,hR⟩:=hrel
   have HR:=AA hR;clear hR
   by_cases hlt:k<n
   ·obtain⟨x,hx⟩: ∃x,l[k]?=some x:=⟨_,List.getElem?_eq_getElem (by rw [←Hn.out];exact hlt)⟩
    obtain⟨y,hy⟩: ∃y,l'[k]?=some y:=⟨_,List.getElem?_eq_getElem (by rw [←VZ.out];exact hlt)⟩
    obtain⟨b,o,rfl,_,_,hc0,hc1,tX,tY⟩:=Ii Hh.out hx
    obtain⟨b',o',rfl,_,_,hd0,hd1,qo_p,qo_r⟩:=Ii tV.out hy
    have hi:(0:Int)≤k:=by omega
    have HT:Hid (x=y→l.take (k+1)=l'.take (k+1)):=AA (fun e=>by rw [List.take_add_one,List.take_add_one,HR.out,hx,hy,e])
    have HF:Hid (x≠y→l≠l'):=AA (fun e he=>e (by rw [he,hy] at hx;exact(Option.some.inj hx).symm))
    clear hx hy tX qo_p tY qo_r
    by_cases h0:x.p=y.p
    case neg=>
     have HX:Hid (x≠y):=AA (fun e=>h0 (by rw [e]))
     have hne:=Qv h0
     clear h0
     go_wp2
     go_quiet (fail)
     go_wp2
     go_ret
     exact⟨below_drewN (below_drewN (Below.refl _ _) _) _,false,rfl,by simp;exact HF.out HX.out⟩
    rw [h0] at hc0
    by_cases h1:x.r=y.r
    case neg=>
     have HX:Hid (x≠y):=AA (fun e=>h1 (by rw [e]))
     have hne:=Qv h1
     clear h1
     go_wp2
     go_quiet (fail)
     go_wp2
     go_ret
     exact⟨below_drewN (below_drewN (Below.refl _ _) _) _,false,rfl,by simp;exact HF.out HX.out⟩
    rw [h1] at hc1
    have HX:Hid (x=y):=AA (by cases x;cases y;simp_all)
    clear h0 h1
    go_wp2
    go_quiet (fail)
    go_wp2
    exact⟨⟨k+1,m+nq,by omega,by go_num,rfl,HT.out HX.out⟩,by simp [intOf];omega⟩
   ·obtain rfl:k=n:=by omega
    have hT:Hid (l=l'):=by
     have:=HR.out
     rw [List.take_of_length_le (by rw [Hn.out];exact Nat.le_refl _),List.take_of_length_le (by rw [VZ.out];exact Nat.le_refl _)] at this
     exact AA this
    go_wp2
    go_ret
    exact⟨below_drewN (Below.refl _ _) _,true,rfl,by simp;exact hT.out⟩
 ·have hF:Hid (l≠l'):=AA (fun h=>hnn (by rw [hn,hn',h]))
  have hne:((n:Int) !=n')=true:=by simp;omega
  clear h h' hn hn'
  go_enter func44,ntmps44
  go_wp2
  go_ret
  exact⟨Below.refl _ _,false,rfl,by simp;exact hF.out⟩
def Zq (l l':List Ep) (w:World) (n:Nat) (i:Value) (wr:World):Prop:= ∃k m:Nat,k≤n∧i= .int .i64 k∧wr=w.drewN m∧l.take k=l'.take k
theorem gZ (A A':Option Addr) (n n' c c' hi hi':Nat) (l l':List Ep) (w:World) (h:(JG.sl false).R w 0 hi [.slice A n c] l) (h':(JG.sl false).R w 0 hi' [.slice A' n' c'] l') (h47:n≤140737488351232):
 Calls prog 46 #[.slice A n c,.slice A' n' c'] w (JV l l' w):=by
 have hn:=D5 h
 have hn':=D5 h'
 by_cases hnn:n=n'
 ·subst hnn
  have Hh:=AA h;clear h
  have tV:=AA h';clear h'
  have Hn:=AA hn;clear hn
  have VZ:=AA hn';clear hn'
  go_enter func46,ntmps46
  go_wp2
  go_loopw [5] (fun i wr=>Zq l l' w n i wr) (fun i _=>n-(intOf i).toNat)
  case atStart=>exact⟨0,0,by omega,rfl,rfl,rfl⟩
  case round=>
   obtain⟨k,m,hk,rfl,rfl,hR⟩:=hrel
   have HR:=AA hR;clear hR
   by_cases hlt:k<n
   ·obtain⟨x,hx⟩: ∃x,l[k]?=some x:=⟨_,List.getElem?_eq_getElem (by rw [←Hn.out];exact hlt)⟩
    obtain⟨y,hy⟩: ∃y,l'[k]?=some y:=⟨_,List.getElem?_eq_getElem (by rw [←VZ.out];exact hlt)⟩
    obtain⟨b,o,rfl,_,_,hc0,hc1,hc2,po_v⟩:=K_ Hh.out hx
    obtain⟨b',o',rfl,_,_,hd0,hd1,hd2,qo_v⟩:=K_ tV.out hy
    have hi:(0:Int)≤k:=by omega
    have HT:Hid (x=y→l.take (k+1)=l'.take (k+1)):=AA (fun e=>by rw [List.take_add_one,List.take_add_one,HR.out,hx,hy,e])
    have HF:Hid (x≠y→l≠l'):=AA (fun e he=>e (by rw [he,hy] at hx;exact(Option.some.inj hx).symm))
    clear hx hy po_v qo_v
    by_cases h0:x.l=y.l
    case neg=>
     have HX:Hid (x≠y):=AA (fun e=>h0 (by rw [e]))
     have hne:=AA4 h0
     clear h0
     go_wp2
     go_quiet (fail)
     go_wp2
     go_ret
     exact⟨below_drewN (below_drewN (Below.refl _ _) _) _,false,rfl,by simp;exact HF.out HX.out⟩
    rw [h0] at hc0
    by_cases h1:x.m=y.m
    case neg=>
     have HX:Hid (x≠y):=AA (fun e=>h1 (by rw [e]))
     have hne:=yc h1
     clear h1
     go_wp2
     go_quiet (fail)
     go_wp2
     go_ret
     exact⟨below_drewN (below_drewN (Below.refl _ _) _) _,false,rfl,by simp;exact HF.out HX.out⟩
    rw [h1] at hc1
    by_cases h2:x.v=y.v
    case neg=>
     have HX:Hid (x≠y):=AA (fun e=>h2 (by rw [e]))
     have hne:=int_ne h2
     clear h2
     go_wp2
     go_quiet (fail)
     go_wp2
     go_ret
     exact⟨below_drewN (below_drewN (Below.refl _ _) _) _,false,rfl,by simp;exact HF.out HX.out⟩
    rw [h2] at hc2
    have HX:Hid (x=y):=AA (by cases x;cases y;simp_all)
    clear h0 h1 h2
    go_wp2
    go_quiet (fail)
    go_wp2
    exact⟨⟨k+1,m+nq,by omega,by go_num,rfl,HT.out HX.out⟩,by simp [intOf];omega⟩
   ·obtain rfl:k=n:=by omega
    have hT:Hid (l=l'):=by
     have:=HR.out
     rw [List.take_of_length_le (by rw [Hn.out];exact Nat.le_refl _),List.take_of_length_le (by rw [VZ.out];exact Nat.le_refl _)] at this
     exact AA this
    go_wp2
    go_ret
    exact⟨below_drewN (Below.refl _ _) _,true,rfl,by simp;exact hT.out⟩
 ·have hF:Hid (l≠l'):=AA (fun h=>hnn (by rw [hn,hn',h]))
  have hne:((n:Int) !=n')=true:=by simp;omega
  clear h h' hn hn'
  go_enter func46,ntmps46
  go_wp2
  go_ret
  exact⟨Below.refl _ _,false,rfl,by simp;exact hF.out⟩
def Zr (l l':List LA) (w:World) (n:Nat) (i:Value) (wr:World):Prop:= ∃k m:Nat,k≤n∧i= .int .i64 k∧wr=w.drewN m∧l.take k=l'.take k
theorem gu (A A':Option Addr) (n n' c c' hi hi':Nat) (l l':List LA) (w:World) (h:(M_.sl false).R w 0 hi [.slice A n c] l) (h':(M_.sl false).R w 0 hi' [.slice A' n' c'] l') (h47:n≤140737488351232):
 Calls prog 49 #[.slice A n c,.slice A' n' c'] w (JV l l' w):=by
 have hn:=D5 h
 have hn':=D5 h'
 by_cases hnn:n=n'
 ·subst hnn
  have Hh:=AA h;clear h
  have tV:=AA h';clear h'
  have Hn:=AA hn;clear hn
  have VZ:=AA hn';clear hn'
  go_enter func49,ntmps49
  go_wp2
  go_loopw [5] (fun i wr=>Zr l l' w n i wr) (fun i _=>n-(intOf i).toNat)
  case atStart=>exact⟨0,0,by omega,rfl,rfl,rfl⟩
  case round=>
   obtain⟨k,m,hk,rfl,rfl,hR⟩:=hrel
   have HR:=AA hR;clear hR
   by_cases hlt:k<n
   ·obtain⟨x,hx⟩: ∃x,l[k]?=some x:=⟨_,List.getElem?_eq_getElem (by rw [←Hn.out];exact hlt)⟩
    obtain⟨y,hy⟩: ∃y,l'[k]?=some y:=⟨_,List.getElem?_eq_getElem (by rw [←VZ.out];exact hlt)⟩
    obtain⟨b,o,rfl,_,_,hc0,hc1,po_n,po_f⟩:=LB Hh.out hx
    obtain⟨b',o',rfl,_,_,hd0,hd1,qo_n,qo_f⟩:=LB tV.out hy
    have hi:(0:Int)≤k:=by omega
    have HT:Hid (x=y→l.take (k+1)=l'.take (k+1)):=AA (fun e=>by rw [List.take_add_one,List.take_add_one,HR.out,hx,hy,e])
    have HF:Hid (x≠y→l≠l'):=AA (fun e he=>e (by rw [he,hy] at hx;exact(Option.some.inj hx).symm))
    clear hx hy po_n qo_n po_f qo_f
    by_cases h0:x.n=y.n
    case neg=>
     have HX:Hid (x≠y):=AA (fun e=>h0 (by rw [e]))
     have hne:=Qv h0
     clear h0
     go_wp2
     go_quiet (fail)
     go_wp2
     go_ret
     exact⟨below_drewN (below_drewN (Below.refl _ _) _) _,false,rfl,by simp;exact HF.out HX.out⟩
    rw [h0] at hc0
    by_cases h1:x.f=y.f
    case neg=>
     have HX:Hid (x≠y):=AA (fun e=>h1 (by rw [e]))
     have hne:=int_ne' h1
     clear h1
     go_wp2
     go_quiet (fail)
     go_wp2
     go_ret
     exact⟨below_drewN (below_drewN (Below.refl _ _) _) _,false,rfl,by simp;exact HF.out HX.out⟩
    rw [h1] at hc1
    have HX:Hid (x=y):=AA (by cases x;cases y;simp_all)
    clear h0 h1
    go_wp2
    go_quiet (fail)
    go_wp2
    exact⟨⟨k+1,m+nq,by omega,by go_num,rfl,HT.out HX.out⟩,by simp [intOf];omega⟩
   ·obtain rfl:k=n:=by omega
    have hT:Hid (l=l'):=by
     have:=HR.out
     rw [List.take_of_length_le (by rw [Hn.out];exact Nat.le_refl _),List.take_of_length_le (by rw [VZ.out];exact Nat.le_refl _)] at this
     exact AA this
    go_wp2
    go_ret
    exact⟨below_drewN (Below.refl _ _) _,true,rfl,by simp;exact hT.out⟩
 ·have hF:Hid (l≠l'):=AA (fun h=>hnn (by rw [hn,hn',h]))
  have hne:((n:Int) !=n')=true:=by simp;omega
  clear h h' hn hn'
  go_enter func49,ntmps49
  go_wp2
  go_ret
  exact⟨Below.refl _ _,false,rfl,by simp;exact hF.out⟩
theorem yt {P:Program} {f:FuncId} {args:Array Value} {w:World} {a b:ByteArray} {R:Ending→World→Prop} (h:Calls P f args w fun e w'=>w=w'∧e= .returned (.tuple #[.string a,.string b])) (hr:R (.returned (.tuple #[.string a,.string b])) w):Calls P f args w R:=
 h.mono fun e w' hh=>by obtain⟨rfl,rfl⟩:=hh;exact hr
set_option maxHeartbeats 40000000 in
theorem YV (w:World): ∀r∈Dj,Calls prog 131 #[.int .u8 (r.op:Nat)] w fun e w'=>w=w'∧e= .returned (.tuple #[.string r.pops,.string r.pushes,.bool r.plain]):=by
 unfold Dj
 iterate 90
  refine List.forall_mem_cons.2 ⟨?_,?_⟩
  ·simp only [Int.cast_ofNat_Int]
   go_enter func131,ntmps131
   go_wp2_with fail
   first
    | (go_ret3;exact⟨rfl,rfl⟩)
    | (apply yt
       ·go_enter func172,ntmps172
        go_wp2_with fail
        go_ret2
        exact⟨rfl,rfl⟩
       ·go_wp2_with fail
        go_ret3
        exact⟨rfl,rfl⟩)
 exact fun _ h=>by cases h
set_option maxHeartbeats 40000000 in
theorem YW (w:World): ∀r∈Dj,Calls prog 132 #[.int .u8 (r.op:Nat)] w fun e w'=>w=w'∧e= .returned (.int .i8 r.takes):=by
 unfold Dj
 iterate 90
  refine List.forall_mem_cons.2 ⟨?_,?_⟩
  ·simp only [Int.cast_ofNat_Int]
   try simp only [Int.natCast_zero]
   go_enter func132,ntmps132
   go_wp2_with fail
   go_ret
   exact⟨rfl,rfl⟩
 exact fun _ h=>by cases h
end Go.Proofs.YtebgikflpgcnlaaGreatDoor
