/- Part 6 of the proof: Eq EqI EqW EqA R14A Keep -/
import Derived.Laws.StructEq
import Derived.Test.YtlagonfamllgjaaGreatDoorK05
namespace Go.Proofs.YtlagonfamllgjaaGreatDoor
set_option linter.unusedVariables false
set_option linter.unusedSimpArgs false
set_option maxRecDepth 100000
set_option maxHeartbeats 4000000
open Go.RowKit Tryz
def ACy (l l':List UInt8) (w:World) (n:Nat) (i:Value) (wr:World):Prop:=
 ∃k m:Nat,k≤n∧i= .int .i64 k∧wr=w.drewN m∧l.take k=l'.take k
theorem Xb (A A':Option Addr) (n n' c c' B B':Nat) (w:World) (l l':List UInt8) (hn:n=l.length) (hn':n'=l'.length) (h47:n≤140737488351232) (hr:Row w B A (l.map bv)) (hr':Row w B' A' (l'.map bv)):
 Calls prog 14 #[.slice A n c,.slice A' n' c'] w fun e w'=>(∃k,w'=w.drewN k)∧e= .returned (.bool (decide (l=l'))):=by
 by_cases hnn:n=n'
 ·subst hnn
  have Hr:=Lib.hid hr;clear hr
  have Hn:=Lib.hid hn;clear hn
  have Hr':=Lib.hid hr';clear hr'
  have MS:=Lib.hid hn';clear hn'
  go_enter func14,ntmps14
  go_wp2
  go_loopw [5] (fun i wr=>ACy l l' w n i wr) (fun i _=>n-(intOf i).toNat)
  case atStart=>exact⟨0,0,by omega,rfl,rfl,rfl⟩
  case round=>
   obtain⟨k,m,hk,rfl,rfl,hR⟩:=hrel
   have HR:=Lib.hid hR;clear hR
   by_cases hlt:k<n
   ·obtain⟨b,o,rfl,_,hcell⟩:=Hr.out.byte (j:=k) (by rw [←Hn.out];exact hlt)
    obtain⟨b',o',rfl,_,hcell'⟩:=Hr'.out.byte (j:=k) (by rw [←MS.out];exact hlt)
    have hB:(l[k]?.getD 0).toNat<256:=UInt8.toNat_lt _
    have hB':(l'[k]?.getD 0).toNat<256:=UInt8.toNat_lt _
    have hi:(0:Int)≤k:=by omega
    have hlk:l[k]?=some (l[k]?.getD 0):=by rw [List.getElem?_eq_getElem (by rw [←Hn.out];exact hlt)];rfl
    have Xc:l'[k]?=some (l'[k]?.getD 0):=by rw [List.getElem?_eq_getElem (by rw [←MS.out];exact hlt)];rfl
    have kS:=Lib.hid hlk;clear hlk
    have SE:=Lib.hid Xc;clear Xc
    by_cases hq:l[k]?.getD 0=l'[k]?.getD 0
    ·have HT:Hid (l.take (k+1)=l'.take (k+1)):=by
      have h1:=kS.out
      rw [hq,←SE.out] at h1
      refine Lib.hid ?_
      rw [List.take_add_one,List.take_add_one,HR.out,h1]
     rw [hq] at hcell
     clear hq hB kS SE
     generalize (l'[k]?.getD 0).toNat=x at*
     have hne:((x:Int) !=x)=false:=by simp
     go_wp2
     go_quiet (fail)
     go_wp2
     exact⟨⟨k+1,m+nq,by omega,by go_num,rfl,HT.out⟩,by simp [intOf];omega⟩
    ·have hF:Hid (decide (l=l')=false):=by
      refine Lib.hid (decide_eq_false fun h=>hq ?_)
      rw [h]
     have hq':(l[k]?.getD 0).toNat≠(l'[k]?.getD 0).toNat:=fun h=>hq (UInt8.toNat_inj.1 h)
     clear hq kS SE
     generalize (l'[k]?.getD 0).toNat=x at*
     generalize (l[k]?.getD 0).toNat=y at*
     have hne:((y:Int) !=x)=true:=by simp;omega
     clear hq'
     go_wp2
     go_quiet (fail)
     go_wp2
     go_ret
     exact⟨⟨m+nq,World.drewN_drewN _ _ _⟩,by rw [hF.out];rfl⟩
   ·obtain rfl:k=n:=by omega
    have hT:Hid (decide (l=l')=true):=by
     have:=HR.out
     rw [List.take_of_length_le (by rw [Hn.out];exact Nat.le_refl _),List.take_of_length_le (by rw [MS.out];exact Nat.le_refl _)] at this
     exact Lib.hid (decide_eq_true this)
    go_wp2
    go_ret
    exact⟨⟨_,rfl⟩,by rw [hT.out];rfl⟩
 ·have hF:Hid (decide (l=l')=false):=Lib.hid (decide_eq_false fun h=>hnn (by rw [hn,hn',h]))
  have hne:((n:Int) !=n')=true:=by simp;omega
  clear hr hr' hn hn'
  go_enter func14,ntmps14
  go_wp2
  go_ret
  exact⟨⟨0,rfl⟩,by rw [hF.out];rfl⟩
def zY (l l':List Int) (w:World) (n:Nat) (i:Value) (wr:World):Prop:=
 ∃k m:Nat,k≤n∧i= .int .i64 k∧wr=w.drewN m∧l.take k=l'.take k
theorem r_ (A A':Option Addr) (n n' c c' B B':Nat) (w:World) (l l':List Int) (hn:n=l.length) (hn':n'=l'.length) (h47:n≤140737488351232) (hr:Row w B A (Us l)) (hr':Row w B' A' (Us l')):
 Calls prog 38 #[.slice A n c,.slice A' n' c'] w fun e w'=>(∃k,w'=w.drewN k)∧e= .returned (.bool (decide (l=l'))):=by
 by_cases hnn:n=n'
 ·subst hnn
  have Hr:=AA hr;clear hr
  have Hn:=AA hn;clear hn
  have Hr':=AA hr';clear hr'
  have MS:=AA hn';clear hn'
  go_enter func38,ntmps38
  go_wp2
  go_loopw [5] (fun i wr=>zY l l' w n i wr) (fun i _=>n-(intOf i).toNat)
  case atStart=>exact⟨0,0,by omega,rfl,rfl,rfl⟩
  case round=>
   obtain⟨k,m,hk,rfl,rfl,hR⟩:=hrel
   have HR:=AA hR;clear hR
   by_cases hlt:k<n
   ·obtain⟨b,o,rfl,_,hcell⟩:=Ry Hr.out (k:=k) (by rw [←Hn.out];exact hlt)
    obtain⟨b',o',rfl,_,hcell'⟩:=Ry Hr'.out (k:=k) (by rw [←MS.out];exact hlt)
    have hi:(0:Int)≤k:=by omega
    have hlk:l[k]?=some (l[k]?.getD 0):=by rw [List.getElem?_eq_getElem (by rw [←Hn.out];exact hlt)];rfl
    have Xc:l'[k]?=some (l'[k]?.getD 0):=by rw [List.getElem?_eq_getElem (by rw [←MS.out];exact hlt)];rfl
    have kS:=AA hlk;clear hlk
    have SE:=AA Xc;clear Xc
    by_cases hq:l[k]?.getD 0=l'[k]?.getD 0
    ·have HT:Hid (l.take (k+1)=l'.take (k+1)):=by
      have h1:=kS.out
      rw [hq,←SE.out] at h1
      refine AA ?_
      rw [List.take_add_one,List.take_add_one,HR.out,h1]
     rw [hq] at hcell
     clear hq kS SE
     generalize l'[k]?.getD 0=x at*
     have hne:(x !=x)=false:=by simp
     go_wp2
     go_quiet (fail)
     go_wp2
     exact⟨⟨k+1,m+nq,by omega,by go_num,rfl,HT.out⟩,by simp [intOf];omega⟩
    ·have hF:Hid (decide (l=l')=false):=by
      refine AA (decide_eq_false fun h=>hq ?_)
      rw [h]
     have hq':l[k]?.getD 0≠l'[k]?.getD 0:=hq
     clear hq kS SE
     generalize l'[k]?.getD 0=x at*
     generalize l[k]?.getD 0=y at*
     have hne:(y !=x)=true:=by simp;omega
     clear hq'
     go_wp2
     go_quiet (fail)
     go_wp2
     go_ret
     exact⟨⟨m+nq,World.drewN_drewN _ _ _⟩,by rw [hF.out];rfl⟩
   ·obtain rfl:k=n:=by omega
    have hT:Hid (decide (l=l')=true):=by
     have:=HR.out
     rw [List.take_of_length_le (by rw [Hn.out];exact Nat.le_refl _),List.take_of_length_le (by rw [MS.out];exact Nat.le_refl _)] at this
     exact AA (decide_eq_true this)
    go_wp2
    go_ret
    exact⟨⟨_,rfl⟩,by rw [hT.out];rfl⟩
 ·have hF:Hid (decide (l=l')=false):=AA (decide_eq_false fun h=>hnn (by rw [hn,hn',h]))
  have hne:((n:Int) !=n')=true:=by simp;omega
  clear hr hr' hn hn'
  go_enter func38,ntmps38
  go_wp2
  go_ret
  exact⟨⟨0,rfl⟩,by rw [hF.out];rfl⟩
def zZ (l l':List Nat) (w:World) (n:Nat) (i:Value) (wr:World):Prop:=
 ∃k m:Nat,k≤n∧i= .int .i64 k∧wr=w.drewN m∧l.take k=l'.take k
theorem kT (A A':Option Addr) (n n' c c' B B':Nat) (w:World) (l l':List Nat) (hn:n=l.length) (hn':n'=l'.length) (h47:n≤140737488351232) (hr:Row w B A (l.map uv)) (hr':Row w B' A' (l'.map uv)):
 Calls prog 44 #[.slice A n c,.slice A' n' c'] w fun e w'=>(∃k,w'=w.drewN k)∧e= .returned (.bool (decide (l=l'))):=by
 by_cases hnn:n=n'
 ·subst hnn
  have Hr:=AA hr;clear hr
  have Hn:=AA hn;clear hn
  have Hr':=AA hr';clear hr'
  have MS:=AA hn';clear hn'
  go_enter func44,ntmps44
  go_wp2
  go_loopw [5] (fun i wr=>zZ l l' w n i wr) (fun i _=>n-(intOf i).toNat)
  case atStart=>exact⟨0,0,by omega,rfl,rfl,rfl⟩
  case round=>
   obtain⟨k,m,hk,rfl,rfl,hR⟩:=hrel
   have HR:=AA hR;clear hR
   by_cases hlt:k<n
   ·obtain⟨b,o,rfl,_,hcell⟩:=Hr.out.word (j:=k) (by rw [←Hn.out];exact hlt)
    obtain⟨b',o',rfl,_,hcell'⟩:=Hr'.out.word (j:=k) (by rw [←MS.out];exact hlt)
    have hi:(0:Int)≤k:=by omega
    have hlk:l[k]?=some (l[k]?.getD 0):=by rw [List.getElem?_eq_getElem (by rw [←Hn.out];exact hlt)];rfl
    have Xc:l'[k]?=some (l'[k]?.getD 0):=by rw [List.getElem?_eq_getElem (by rw [←MS.out];exact hlt)];rfl
    have kS:=AA hlk;clear hlk
    have SE:=AA Xc;clear Xc
    by_cases hq:l[k]?.getD 0=l'[k]?.getD 0
    ·have HT:Hid (l.take (k+1)=l'.take (k+1)):=by
      have h1:=kS.out
      rw [hq,←SE.out] at h1
      refine AA ?_
      rw [List.take_add_one,List.take_add_one,HR.out,h1]
     rw [hq] at hcell
     clear hq kS SE
     generalize l'[k]?.getD 0=x at*
     have hne:(x !=x)=false:=by simp
     go_wp2
     go_quiet (fail)
     go_wp2
     exact⟨⟨k+1,m+nq,by omega,by go_num,rfl,HT.out⟩,by simp [intOf];omega⟩
    ·have hF:Hid (decide (l=l')=false):=by
      refine AA (decide_eq_false fun h=>hq ?_)
      rw [h]
     have hq':l[k]?.getD 0≠l'[k]?.getD 0:=hq
     clear hq kS SE
     generalize l'[k]?.getD 0=x at*
     generalize l[k]?.getD 0=y at*
     have hne:(y !=x)=true:=by simp;omega
     clear hq'
     go_wp2
     go_quiet (fail)
     go_wp2
     go_ret
     exact⟨⟨m+nq,World.drewN_drewN _ _ _⟩,by rw [hF.out];rfl⟩
   ·obtain rfl:k=n:=by omega
    have hT:Hid (decide (l=l')=true):=by
     have:=HR.out
     rw [List.take_of_length_le (by rw [Hn.out];exact Nat.le_refl _),List.take_of_length_le (by rw [MS.out];exact Nat.le_refl _)] at this
     exact AA (decide_eq_true this)
    go_wp2
    go_ret
    exact⟨⟨_,rfl⟩,by rw [hT.out];rfl⟩
 ·have hF:Hid (decide (l=l')=false):=AA (decide_eq_false fun h=>hnn (by rw [hn,hn',h]))
  have hne:((n:Int) !=n')=true:=by simp;omega
  clear hr hr' hn hn'
  go_enter func44,ntmps44
  go_wp2
  go_ret
  exact⟨⟨0,rfl⟩,by rw [hF.out];rfl⟩
def Dw {α:Type} (l l':α) (w:World) (e:Ending) (w':World):Prop:=Below w.heap.size w w'∧ ∃b,e= .returned (.bool b)∧(b=true↔l=l')
theorem MU {a b:ByteArray} (h:a≠b):(a.toList==b.toList)=false:=by
 rw [beq_eq_false_iff_ne]
 intro he
 rw [ByteArray.toList_eq,ByteArray.toList_eq] at he
 exact h (ByteArray.ext (Array.toList_inj.1 he))
theorem int_ne {a b:Nat} (h:a≠b):((a:Int)==(b:Int))=false:=by rw [beq_eq_false_iff_ne];omega
theorem int_ne' {a b:Int} (h:a≠b):(a==b)=false:=by rw [beq_eq_false_iff_ne];exact h
theorem xZ {a b:UInt8} (h:a≠b):((a.toNat:Int)==(b.toNat:Int))=false:=by
 rw [beq_eq_false_iff_ne]
 intro he
 exact h (UInt8.toNat_inj.1 (by omega))
theorem sD {a b:Bool} (h:a≠b):(a==b)=false:=by cases a<;>cases b<;>simp_all
theorem Xd (l:List UInt8):(l.flatMap fun x=> [bv x])=l.map bv:=by induction l with | nil=>rfl | cons a l ih=>rw [List.flatMap_cons,ih];rfl
theorem U0 (l:List Int):(l.flatMap fun x=> [Value.int .i64 x])=Us l:=by unfold Us;induction l with | nil=>rfl | cons a l ih=>rw [List.flatMap_cons,ih];rfl
theorem U1 (l:List Nat):(l.flatMap fun x=> [uv x])=l.map uv:=by induction l with | nil=>rfl | cons a l ih=>rw [List.flatMap_cons,ih];rfl
theorem ZX {P:Program} {f:FuncId} {args:Array Value} {w:World} {α:Type} [DecidableEq α] {l l':α} (h:Calls P f args w fun e w'=>(∃k,w'=w.drewN k)∧e= .returned (.bool (decide (l=l')))):Calls P f args w (Dw l l' w):=
 h.mono fun e w' ⟨⟨k,hk⟩,he⟩=>⟨by rw [hk];exact below_drewN (Below.refl _ _) k,_,he,decide_eq_true_iff⟩
theorem Xe (A A':Option Addr) (n n' c c' hi hi':Nat) (l l':List UInt8) (w:World) (h:(Rd.u8.sl false).R w 0 hi [.slice A n c] l) (h':(Rd.u8.sl false).R w 0 hi' [.slice A' n' c'] l') (h47:n≤140737488351232):
 Calls prog 14 #[.slice A n c,.slice A' n' c'] w (Dw l l' w):=
 ZX (Xb A A' n n' c c' hi hi' w l l' (Bq h) (Bq h') h47 (by rw [←Xd];exact LB.row h) (by rw [←Xd];exact LB.row h'))
theorem bS (A A':Option Addr) (n n' c c' hi hi':Nat) (l l':List Int) (w:World) (h:(Rd.i64.sl false).R w 0 hi [.slice A n c] l) (h':(Rd.i64.sl false).R w 0 hi' [.slice A' n' c'] l') (h47:n≤140737488351232):
 Calls prog 38 #[.slice A n c,.slice A' n' c'] w (Dw l l' w):=
 ZX (r_ A A' n n' c c' hi hi' w l l' (Bq h) (Bq h') h47 (by rw [←U0];exact JW.row h) (by rw [←U0];exact JW.row h'))
theorem O4 (A A':Option Addr) (n n' c c' hi hi':Nat) (l l':List Nat) (w:World) (h:(Rd.u64.sl false).R w 0 hi [.slice A n c] l) (h':(Rd.u64.sl false).R w 0 hi' [.slice A' n' c'] l') (h47:n≤140737488351232):
 Calls prog 44 #[.slice A n c,.slice A' n' c'] w (Dw l l' w):=
 ZX (kT A A' n n' c c' hi hi' w l l' (Bq h) (Bq h') h47 (by rw [←U1];exact JX.row h) (by rw [←U1];exact JX.row h'))
def fI (l l':List Cg) (w:World) (n:Nat) (i:Value) (wr:World):Prop:= ∃k m:Nat,k≤n∧i= .int .i64 k∧wr=w.drewN m∧l.take k=l'.take k
theorem sF (A A':Option Addr) (n n' c c' hi hi':Nat) (l l':List Cg) (w:World) (h:(Py.sl false).R w 0 hi [.slice A n c] l) (h':(Py.sl false).R w 0 hi' [.slice A' n' c'] l') (h47:n≤140737488351232):
 Calls prog 37 #[.slice A n c,.slice A' n' c'] w (Dw l l' w):=by
 have hn:=Bq h
 have hn':=Bq h'
 by_cases hnn:n=n'
 ·subst hnn
  have Hh:=AA h;clear h
  have ZY:=AA h';clear h'
  have Hn:=AA hn;clear hn
  have MS:=AA hn';clear hn'
  go_enter func37,ntmps37
  go_wp2
  go_loopw [5] (fun i wr=>fI l l' w n i wr) (fun i _=>n-(intOf i).toNat)
  case atStart=>exact⟨0,0,by omega,rfl,rfl,rfl⟩
  case round=>
   obtain⟨k,m,hk,rfl,rfl,hR⟩:=hrel
   have HR:=AA hR;clear hR
   by_cases hlt:k<n
   ·obtain⟨x,hx⟩: ∃x,l[k]?=some x:=⟨_,List.getElem?_eq_getElem (by rw [←Hn.out];exact hlt)⟩
    obtain⟨y,hy⟩: ∃y,l'[k]?=some y:=⟨_,List.getElem?_eq_getElem (by rw [←MS.out];exact hlt)⟩
    obtain⟨b,o,rfl,_,_,hc0,hc1,kU,kV⟩:=CZ Hh.out hx
    obtain⟨b',o',rfl,_,_,hd0,hd1,qo_p,qo_r⟩:=CZ ZY.out hy
    have hi:(0:Int)≤k:=by omega
    have HT:Hid (x=y→l.take (k+1)=l'.take (k+1)):=AA (fun e=>by rw [List.take_add_one,List.take_add_one,HR.out,hx,hy,e])
    have HF:Hid (x≠y→l≠l'):=AA (fun e he=>e (by rw [he,hy] at hx;exact(Option.some.inj hx).symm))
    clear hx hy kU qo_p kV qo_r
    by_cases h0:x.p=y.p
    case neg=>
     have HX:Hid (x≠y):=AA (fun e=>h0 (by rw [e]))
     have hne:=MU h0
     clear h0
     go_wp2
     go_quiet (fail)
     go_wp2
     go_ret
     exact⟨below_drewN (below_drewN (Below.refl _ _) _) _,false,rfl,by simp;exact HF.out HX.out⟩
    rw [h0] at hc0
    by_cases h1:x.r=y.r
    case neg=>
     have HX:Hid (x≠y):=AA (fun e=>h1 (by rw [e]))
     have hne:=MU h1
     clear h1
     go_wp2
     go_quiet (fail)
     go_wp2
     go_ret
     exact⟨below_drewN (below_drewN (Below.refl _ _) _) _,false,rfl,by simp;exact HF.out HX.out⟩
    rw [h1] at hc1
    have HX:Hid (x=y):=AA (by cases x;cases y;simp_all)
    clear h0 h1
    go_wp2
    go_quiet (fail)
    go_wp2
    exact⟨⟨k+1,m+nq,by omega,by go_num,rfl,HT.out HX.out⟩,by simp [intOf];omega⟩
   ·obtain rfl:k=n:=by omega
    have hT:Hid (l=l'):=by
     have:=HR.out
     rw [List.take_of_length_le (by rw [Hn.out];exact Nat.le_refl _),List.take_of_length_le (by rw [MS.out];exact Nat.le_refl _)] at this
     exact AA this
    go_wp2
    go_ret
    exact⟨below_drewN (Below.refl _ _) _,true,rfl,by simp;exact hT.out⟩
 ·have hF:Hid (l≠l'):=AA (fun h=>hnn (by rw [hn,hn',h]))
  have hne:((n:Int) !=n')=true:=by simp;omega
  clear h h' hn hn'
  go_enter func37,ntmps37
  go_wp2
  go_ret
  exact⟨Below.refl _ _,false,rfl,by simp;exact hF.out⟩
def Vn (l l':List ED) (w:World) (n:Nat) (i:Value) (wr:World):Prop:= ∃k m:Nat,k≤n∧i= .int .i64 k∧wr=w.drewN m∧l.take k=l'.take k
theorem Za (A A':Option Addr) (n n' c c' hi hi':Nat) (l l':List ED) (w:World) (h:(Lm.sl false).R w 0 hi [.slice A n c] l) (h':(Lm.sl false).R w 0 hi' [.slice A' n' c'] l') (h47:n≤140737488351232):
 Calls prog 39 #[.slice A n c,.slice A' n' c'] w (Dw l l' w):=by
 have hn:=Bq h
 have hn':=Bq h'
 by_cases hnn:n=n'
 ·subst hnn
  have Hh:=AA h;clear h
  have ZY:=AA h';clear h'
  have Hn:=AA hn;clear hn
  have MS:=AA hn';clear hn'
  go_enter func39,ntmps39
  go_wp2
  go_loopw [5] (fun i wr=>Vn l l' w n i wr) (fun i _=>n-(intOf i).toNat)
  case atStart=>exact⟨0,0,by omega,rfl,rfl,rfl⟩
  case round=>
   obtain⟨k,m,hk,rfl,rfl,hR⟩:=hrel
   have HR:=AA hR;clear hR
   by_cases hlt:k<n
   ·obtain⟨x,hx⟩: ∃x,l[k]?=some x:=⟨_,List.getElem?_eq_getElem (by rw [←Hn.out];exact hlt)⟩
    obtain⟨y,hy⟩: ∃y,l'[k]?=some y:=⟨_,List.getElem?_eq_getElem (by rw [←MS.out];exact hlt)⟩
    obtain⟨b,o,rfl,_,_,hc0,hc1,hc2,po_v⟩:=Eh Hh.out hx
    obtain⟨b',o',rfl,_,_,hd0,hd1,hd2,qo_v⟩:=Eh ZY.out hy
    have hi:(0:Int)≤k:=by omega
    have HT:Hid (x=y→l.take (k+1)=l'.take (k+1)):=AA (fun e=>by rw [List.take_add_one,List.take_add_one,HR.out,hx,hy,e])
    have HF:Hid (x≠y→l≠l'):=AA (fun e he=>e (by rw [he,hy] at hx;exact(Option.some.inj hx).symm))
    clear hx hy po_v qo_v
    by_cases h0:x.l=y.l
    case neg=>
     have HX:Hid (x≠y):=AA (fun e=>h0 (by rw [e]))
     have hne:=xZ h0
     clear h0
     go_wp2
     go_quiet (fail)
     go_wp2
     go_ret
     exact⟨below_drewN (below_drewN (Below.refl _ _) _) _,false,rfl,by simp;exact HF.out HX.out⟩
    rw [h0] at hc0
    by_cases h1:x.m=y.m
    case neg=>
     have HX:Hid (x≠y):=AA (fun e=>h1 (by rw [e]))
     have hne:=sD h1
     clear h1
     go_wp2
     go_quiet (fail)
     go_wp2
     go_ret
     exact⟨below_drewN (below_drewN (Below.refl _ _) _) _,false,rfl,by simp;exact HF.out HX.out⟩
    rw [h1] at hc1
    by_cases h2:x.v=y.v
    case neg=>
     have HX:Hid (x≠y):=AA (fun e=>h2 (by rw [e]))
     have hne:=int_ne h2
     clear h2
     go_wp2
     go_quiet (fail)
     go_wp2
     go_ret
     exact⟨below_drewN (below_drewN (Below.refl _ _) _) _,false,rfl,by simp;exact HF.out HX.out⟩
    rw [h2] at hc2
    have HX:Hid (x=y):=AA (by cases x;cases y;simp_all)
    clear h0 h1 h2
    go_wp2
    go_quiet (fail)
    go_wp2
    exact⟨⟨k+1,m+nq,by omega,by go_num,rfl,HT.out HX.out⟩,by simp [intOf];omega⟩
   ·obtain rfl:k=n:=by omega
    have hT:Hid (l=l'):=by
     have:=HR.out
     rw [List.take_of_length_le (by rw [Hn.out];exact Nat.le_refl _),List.take_of_length_le (by rw [MS.out];exact Nat.le_refl _)] at this
     exact AA this
    go_wp2
    go_ret
    exact⟨below_drewN (Below.refl _ _) _,true,rfl,by simp;exact hT.out⟩
 ·have hF:Hid (l≠l'):=AA (fun h=>hnn (by rw [hn,hn',h]))
  have hne:((n:Int) !=n')=true:=by simp;omega
  clear h h' hn hn'
  go_enter func39,ntmps39
  go_wp2
  go_ret
  exact⟨Below.refl _ _,false,rfl,by simp;exact hF.out⟩
def Vo (l l':List KU) (w:World) (n:Nat) (i:Value) (wr:World):Prop:= ∃k m:Nat,k≤n∧i= .int .i64 k∧wr=w.drewN m∧l.take k=l'.take k
theorem Zb (A A':Option Addr) (n n' c c' hi hi':Nat) (l l':List KU) (w:World) (h:(Q8.sl false).R w 0 hi [.slice A n c] l) (h':(Q8.sl false).R w 0 hi' [.slice A' n' c'] l') (h47:n≤140737488351232):
 Calls prog 42 #[.slice A n c,.slice A' n' c'] w (Dw l l' w):=by
 have hn:=Bq h
 have hn':=Bq h'
 by_cases hnn:n=n'
 ·subst hnn
  have Hh:=AA h;clear h
  have ZY:=AA h';clear h'
  have Hn:=AA hn;clear hn
  have MS:=AA hn';clear hn'
  go_enter func42,ntmps42
  go_wp2
  go_loopw [5] (fun i wr=>Vo l l' w n i wr) (fun i _=>n-(intOf i).toNat)
  case atStart=>exact⟨0,0,by omega,rfl,rfl,rfl⟩
  case round=>
   obtain⟨k,m,hk,rfl,rfl,hR⟩:=hrel
   have HR:=AA hR;clear hR
   by_cases hlt:k<n
   ·obtain⟨x,hx⟩: ∃x,l[k]?=some x:=⟨_,List.getElem?_eq_getElem (by rw [←Hn.out];exact hlt)⟩
    obtain⟨y,hy⟩: ∃y,l'[k]?=some y:=⟨_,List.getElem?_eq_getElem (by rw [←MS.out];exact hlt)⟩
    obtain⟨b,o,rfl,_,_,hc0,hc1,po_n,po_f⟩:=Jw Hh.out hx
    obtain⟨b',o',rfl,_,_,hd0,hd1,qo_n,qo_f⟩:=Jw ZY.out hy
    have hi:(0:Int)≤k:=by omega
    have HT:Hid (x=y→l.take (k+1)=l'.take (k+1)):=AA (fun e=>by rw [List.take_add_one,List.take_add_one,HR.out,hx,hy,e])
    have HF:Hid (x≠y→l≠l'):=AA (fun e he=>e (by rw [he,hy] at hx;exact(Option.some.inj hx).symm))
    clear hx hy po_n qo_n po_f qo_f
    by_cases h0:x.n=y.n
    case neg=>
     have HX:Hid (x≠y):=AA (fun e=>h0 (by rw [e]))
     have hne:=MU h0
     clear h0
     go_wp2
     go_quiet (fail)
     go_wp2
     go_ret
     exact⟨below_drewN (below_drewN (Below.refl _ _) _) _,false,rfl,by simp;exact HF.out HX.out⟩
    rw [h0] at hc0
    by_cases h1:x.f=y.f
    case neg=>
     have HX:Hid (x≠y):=AA (fun e=>h1 (by rw [e]))
     have hne:=int_ne' h1
     clear h1
     go_wp2
     go_quiet (fail)
     go_wp2
     go_ret
     exact⟨below_drewN (below_drewN (Below.refl _ _) _) _,false,rfl,by simp;exact HF.out HX.out⟩
    rw [h1] at hc1
    have HX:Hid (x=y):=AA (by cases x;cases y;simp_all)
    clear h0 h1
    go_wp2
    go_quiet (fail)
    go_wp2
    exact⟨⟨k+1,m+nq,by omega,by go_num,rfl,HT.out HX.out⟩,by simp [intOf];omega⟩
   ·obtain rfl:k=n:=by omega
    have hT:Hid (l=l'):=by
     have:=HR.out
     rw [List.take_of_length_le (by rw [Hn.out];exact Nat.le_refl _),List.take_of_length_le (by rw [MS.out];exact Nat.le_refl _)] at this
     exact AA this
    go_wp2
    go_ret
    exact⟨below_drewN (Below.refl _ _) _,true,rfl,by simp;exact hT.out⟩
 ·have hF:Hid (l≠l'):=AA (fun h=>hnn (by rw [hn,hn',h]))
  have hne:((n:Int) !=n')=true:=by simp;omega
  clear h h' hn hn'
  go_enter func42,ntmps42
  go_wp2
  go_ret
  exact⟨Below.refl _ _,false,rfl,by simp;exact hF.out⟩
theorem GN {m:AP} {s:FH} {i n:Nat} (hi:i<n) (h0: ∀j,j<i→Ct m s j=true) (h:Ct m s i=false):Aa n (Bz m s)=(i:Int)+1:=by
 have hat:Bz m s i=(i:Int)+1:=by unfold Bz;rw [h];rfl
 have hz: ∀k,k≤i→Aa k (Bz m s)=0:=fun k=>by
  induction k with
  | zero=>intro _;rfl
  | succ k ih=>intro hk;exact Cc (ih (by omega)) (by unfold Bz;rw [h0 k (by omega)];rfl)
 rw [Dc (hz i (Nat.le_refl _)) (by rw [hat];omega) n hi,hat]
theorem SF {m:AP} {s:FH} {n:Nat} (h0: ∀j,j<n→Ct m s j=true):Aa n (Bz m s)=0:=by
 induction n with
 | zero=>rfl
 | succ k ih=>exact Cc (ih (fun j hj=>h0 j (by omega))) (by unfold Bz;rw [h0 k (by omega)];rfl)
theorem za {P:Nat→Prop} (h:P 0): ∀j,j<1→P j:=fun j hj=>by
 obtain rfl:j=0:=by omega
 exact h
theorem lt2 {P:Nat→Prop} (h:P 0) (h1:P 1): ∀j,j<2→P j:=fun j hj=>by
 by_cases e:j=1
 ·subst e;exact h1
 ·exact za h j (by omega)
theorem lt3 {P:Nat→Prop} (h:P 0) (h1:P 1) (h2:P 2): ∀j,j<3→P j:=fun j hj=>by
 by_cases e:j=2
 ·subst e;exact h2
 ·exact lt2 h h1 j (by omega)
theorem ze {P:Nat→Prop} (h:P 0) (h1:P 1) (h2:P 2) (h3:P 3): ∀j,j<4→P j:=fun j hj=>by
 by_cases e:j=3
 ·subst e;exact h3
 ·exact lt3 h h1 h2 j (by omega)
theorem sG {w w1:World} {v1 v2 v3 v4:Value} {a b c d:Int} (h:w.alloc (.cells #[v1,v2,v3,.int .i64 a,.int .i8 b,v4,.int .i8 c,.int .i64 d] 35)=w1):Below w.heap.size w w1∧AQ w1 w.heap.size 35 [v1,v2,v3,.int .i64 a,.int .i8 b,v4,.int .i8 c,.int .i64 d]:=by
 have hb:=AQ.new w 35 [v1,v2,v3,.int .i64 a,.int .i8 b,v4,.int .i8 c,.int .i64 d]
 change AQ (w.alloc (.cells #[v1,v2,v3,.int .i64 a,.int .i8 b,v4,.int .i8 c,.int .i64 d] 35)) _ _ _ at hb
 rw [h] at hb
 exact⟨by rw [←h];exact(Below.refl _ _).alloc (Nat.le_refl _) _,hb⟩
theorem fJ (cs:List Value) (hi:Nat) (m:AP) (s:FH) (w:World) (h:K7.R w 0 hi cs s):
 Calls prog 70 #[.agg cs.toArray] w fun e w'=>Below w.heap.size w w'∧e= .returned (.int .i64 (Aa 4 (Bz m s))):=by
 obtain⟨v1,v2,v3,v4,rfl,h0,_,_,_,he,h5,ht,_⟩:=CU.1 h
 obtain⟨A0,c0,rfl⟩:=AB h0
 obtain⟨A5,c5,rfl⟩:=AB h5
 unfold Rd.B8 at he ht
 clear h h0 h5
 obtain⟨r,hr⟩: ∃r,Aa 4 (Bz m s)=r:=⟨_,rfl⟩
 rw [hr]
 have HR:=AA hr
 clear hr
 go_enter func70,ntmps70
 go_upto_region 1 with fail
 generalize hw1:w.alloc (.cells #[.slice A0 s.frames.length c0,v2,v3,.int .i64 s.Bj,.int .i8 s.end_,.slice A5 s.res.length c5,.int .i8 s.trap,.int .i64 s.used] 35)=w1
 obtain⟨hb1,hx1⟩:=sG hw1
 have HB1:=AA hb1
 have q0:=hx1.q 0 rfl
 have q4:=hx1.q 4 rfl
 have q5:=hx1.q 5 rfl
 have q6:=hx1.q 6 rfl
 clear hw1 hb1 hx1
 by_cases hE1:s.end_=1
 ·skip
  have a1:(s.end_==1)=true:=by rw [beq_iff_eq];omega
  have b1:(s.end_ !=1)=false:=by rw [bne_eq_false_iff_eq];omega
  have a2:(s.end_==2)=false:=by rw [beq_eq_false_iff_ne];omega
  have b2:(s.end_ !=2)=true:=by rw [bne_iff_ne];omega
  have a3:(s.end_==3)=false:=by rw [beq_eq_false_iff_ne];omega
  have b3:(s.end_ !=3)=true:=by rw [bne_iff_ne];omega
  have A0:Ct m s 0=true:=decide_eq_true (by omega)
  by_cases hF:s.frames.length=0
  ·skip
   have f0:((s.frames.length:Int)==0)=true:=by rw [beq_iff_eq];omega
   have f0n:((s.frames.length:Int) !=0)=false:=by rw [bne_eq_false_iff_eq];omega
   have g0:(s.frames.length==0)=true:=by rw [beq_iff_eq];omega
   have A1:Ct m s 1=false:=decide_eq_false (by omega)
   have HX:Hid (r=2):=AA (by rw [←HR.out,GN (i:=1) (by decide) (za A0) A1];rfl)
   clear hE1 hF A0 A1
   go_wp2_with fail
   go_ret
   exact⟨HB1.out,by rw [HX.out];rfl⟩
  have f0:((s.frames.length:Int)==0)=false:=by rw [beq_eq_false_iff_ne];omega
  have f0n:((s.frames.length:Int) !=0)=true:=by rw [bne_iff_ne];omega
  have g0:(s.frames.length==0)=false:=by rw [beq_eq_false_iff_ne];omega
  by_cases hG:64<s.frames.length
  ·skip
   have f64:decide ((64:Int)<(s.frames.length:Int))=true:=decide_eq_true (by omega)
   have f64n:decide (64<s.frames.length)=true:=decide_eq_true (by omega)
   have A1:Ct m s 1=false:=decide_eq_false (by omega)
   have HX:Hid (r=2):=AA (by rw [←HR.out,GN (i:=1) (by decide) (za A0) A1];rfl)
   clear hE1 hF hG A0 A1
   go_wp2_with fail
   go_ret
   exact⟨HB1.out,by rw [HX.out];rfl⟩
  have f64:decide ((64:Int)<(s.frames.length:Int))=false:=decide_eq_false (by omega)
  have f64n:decide (64<s.frames.length)=false:=decide_eq_false (by omega)
  have A1:Ct m s 1=true:=decide_eq_true (by omega)
  by_cases hS:s.res.length=0
  ·skip
   have r0:((s.res.length:Int) !=0)=false:=by rw [bne_eq_false_iff_eq];omega
   have r0n:(s.res.length !=0)=false:=by rw [bne_eq_false_iff_eq];omega
   have A2:Ct m s 2=true:=decide_eq_true (by omega)
   by_cases hT:s.trap=0
   ·skip
    have t0:(s.trap !=0)=false:=by rw [bne_eq_false_iff_eq];omega
    have A3:Ct m s 3=true:=decide_eq_true (by omega)
    have HX:Hid (r=0):=AA (by rw [←HR.out,SF (ze A0 A1 A2 A3)])
    clear hE1 hF hG hS A0 A1 A2 hT A3
    go_wp2_with fail
    go_ret
    exact⟨HB1.out,by rw [HX.out];rfl⟩
   ·skip
    have t0:(s.trap !=0)=true:=by rw [bne_iff_ne];omega
    have A3:Ct m s 3=false:=decide_eq_false (by omega)
    have HX:Hid (r=4):=AA (by rw [←HR.out,GN (i:=3) (by decide) (lt3 A0 A1 A2) A3];rfl)
    clear hE1 hF hG hS A0 A1 A2 hT A3
    go_wp2_with fail
    go_ret
    exact⟨HB1.out,by rw [HX.out];rfl⟩
  have r0:((s.res.length:Int) !=0)=true:=by rw [bne_iff_ne];omega
  have r0n:(s.res.length !=0)=true:=by rw [bne_iff_ne];omega
  have A2:Ct m s 2=false:=decide_eq_false (by omega)
  have HX:Hid (r=3):=AA (by rw [←HR.out,GN (i:=2) (by decide) (lt2 A0 A1) A2];rfl)
  clear hE1 hF hG hS A0 A1 A2
  go_wp2_with fail
  go_ret
  exact⟨HB1.out,by rw [HX.out];rfl⟩
 by_cases hE2:s.end_=2
 ·skip
  have a1:(s.end_==1)=false:=by rw [beq_eq_false_iff_ne];omega
  have b1:(s.end_ !=1)=true:=by rw [bne_iff_ne];omega
  have a2:(s.end_==2)=true:=by rw [beq_iff_eq];omega
  have b2:(s.end_ !=2)=false:=by rw [bne_eq_false_iff_eq];omega
  have a3:(s.end_==3)=false:=by rw [beq_eq_false_iff_ne];omega
  have b3:(s.end_ !=3)=true:=by rw [bne_iff_ne];omega
  have A0:Ct m s 0=true:=decide_eq_true (by omega)
  by_cases hF:s.frames.length=0
  case neg=>
   have f0n:((s.frames.length:Int) !=0)=true:=by rw [bne_iff_ne];omega
   have g0:(s.frames.length !=0)=true:=by rw [bne_iff_ne];omega
   have A1:Ct m s 1=false:=decide_eq_false (by omega)
   have HX:Hid (r=2):=AA (by rw [←HR.out,GN (i:=1) (by decide) (za A0) A1];rfl)
   clear hE1 hE2 hF A0 A1
   go_wp2_with fail
   go_ret
   exact⟨HB1.out,by rw [HX.out];rfl⟩
  have f0n:((s.frames.length:Int) !=0)=false:=by rw [bne_eq_false_iff_eq];omega
  have g0:(s.frames.length !=0)=false:=by rw [bne_eq_false_iff_eq];omega
  have A1:Ct m s 1=true:=decide_eq_true (by omega)
  by_cases hS:s.res.length≤8
  case neg=>
   have r8:decide ((8:Int)<(s.res.length:Int))=true:=decide_eq_true (by omega)
   have r8n:decide (8<s.res.length)=true:=decide_eq_true (by omega)
   have A2:Ct m s 2=false:=decide_eq_false (by omega)
   have HX:Hid (r=3):=AA (by rw [←HR.out,GN (i:=2) (by decide) (lt2 A0 A1) A2];rfl)
   clear hE1 hE2 hF hS A0 A1 A2
   go_wp2_with fail
   go_ret
   exact⟨HB1.out,by rw [HX.out];rfl⟩
  have r8:decide ((8:Int)<(s.res.length:Int))=false:=decide_eq_false (by omega)
  have r8n:decide (8<s.res.length)=false:=decide_eq_false (by omega)
  have A2:Ct m s 2=true:=decide_eq_true (by omega)
  by_cases hT:s.trap=0
  ·skip
   have t0:(s.trap !=0)=false:=by rw [bne_eq_false_iff_eq];omega
   have A3:Ct m s 3=true:=decide_eq_true (by omega)
   have HX:Hid (r=0):=AA (by rw [←HR.out,SF (ze A0 A1 A2 A3)])
   clear hE1 hE2 hF hS A0 A1 A2 hT A3
   go_wp2_with fail
   go_ret
   exact⟨HB1.out,by rw [HX.out];rfl⟩
  ·skip
   have t0:(s.trap !=0)=true:=by rw [bne_iff_ne];omega
   have A3:Ct m s 3=false:=decide_eq_false (by omega)
   have HX:Hid (r=4):=AA (by rw [←HR.out,GN (i:=3) (by decide) (lt3 A0 A1 A2) A3];rfl)
   clear hE1 hE2 hF hS A0 A1 A2 hT A3
   go_wp2_with fail
   go_ret
   exact⟨HB1.out,by rw [HX.out];rfl⟩
 by_cases hE3:s.end_=3
 ·skip
  have a1:(s.end_==1)=false:=by rw [beq_eq_false_iff_ne];omega
  have b1:(s.end_ !=1)=true:=by rw [bne_iff_ne];omega
  have a2:(s.end_==2)=false:=by rw [beq_eq_false_iff_ne];omega
  have b2:(s.end_ !=2)=true:=by rw [bne_iff_ne];omega
  have a3:(s.end_==3)=true:=by rw [beq_iff_eq];omega
  have b3:(s.end_ !=3)=false:=by rw [bne_eq_false_iff_eq];omega
  have A0:Ct m s 0=true:=decide_eq_true (by omega)
  by_cases hF:s.frames.length=0
  case neg=>
   have f0n:((s.frames.length:Int) !=0)=true:=by rw [bne_iff_ne];omega
   have g0:(s.frames.length !=0)=true:=by rw [bne_iff_ne];omega
   have A1:Ct m s 1=false:=decide_eq_false (by omega)
   have HX:Hid (r=2):=AA (by rw [←HR.out,GN (i:=1) (by decide) (za A0) A1];rfl)
   clear hE1 hE2 hE3 hF A0 A1
   go_wp2_with fail
   go_ret
   exact⟨HB1.out,by rw [HX.out];rfl⟩
  have f0n:((s.frames.length:Int) !=0)=false:=by rw [bne_eq_false_iff_eq];omega
  have g0:(s.frames.length !=0)=false:=by rw [bne_eq_false_iff_eq];omega
  have A1:Ct m s 1=true:=decide_eq_true (by omega)
  by_cases hS:s.res.length=0
  case neg=>
   have r0:((s.res.length:Int) !=0)=true:=by rw [bne_iff_ne];omega
   have r0n:(s.res.length !=0)=true:=by rw [bne_iff_ne];omega
   have A2:Ct m s 2=false:=decide_eq_false (by omega)
   have HX:Hid (r=3):=AA (by rw [←HR.out,GN (i:=2) (by decide) (lt2 A0 A1) A2];rfl)
   clear hE1 hE2 hE3 hF hS A0 A1 A2
   go_wp2_with fail
   go_ret
   exact⟨HB1.out,by rw [HX.out];rfl⟩
  have r0:((s.res.length:Int) !=0)=false:=by rw [bne_eq_false_iff_eq];omega
  have r0n:(s.res.length !=0)=false:=by rw [bne_eq_false_iff_eq];omega
  have A2:Ct m s 2=true:=decide_eq_true (by omega)
  by_cases hT1:s.trap<1
  ·skip
   have t1:decide (s.trap<1)=true:=decide_eq_true (by omega)
   have A3:Ct m s 3=false:=decide_eq_false (by omega)
   have HX:Hid (r=4):=AA (by rw [←HR.out,GN (i:=3) (by decide) (lt3 A0 A1 A2) A3];rfl)
   clear hE1 hE2 hE3 hF hS hT1 A0 A1 A2 A3
   go_wp2_with fail
   go_ret
   exact⟨HB1.out,by rw [HX.out];rfl⟩
  have t1:decide (s.trap<1)=false:=decide_eq_false (by omega)
  by_cases hT6:6<s.trap
  ·skip
   have t6:decide (6<s.trap)=true:=decide_eq_true (by omega)
   have A3:Ct m s 3=false:=decide_eq_false (by omega)
   have HX:Hid (r=4):=AA (by rw [←HR.out,GN (i:=3) (by decide) (lt3 A0 A1 A2) A3];rfl)
   clear hE1 hE2 hE3 hF hS hT1 hT6 A0 A1 A2 A3
   go_wp2_with fail
   go_ret
   exact⟨HB1.out,by rw [HX.out];rfl⟩
  have t6:decide (6<s.trap)=false:=decide_eq_false (by omega)
  have A3:Ct m s 3=true:=decide_eq_true (by omega)
  have HX:Hid (r=0):=AA (by rw [←HR.out,SF (ze A0 A1 A2 A3)])
  clear hE1 hE2 hE3 hF hS hT1 hT6 A0 A1 A2 A3
  go_wp2_with fail
  go_ret
  exact⟨HB1.out,by rw [HX.out];rfl⟩
 have a1:(s.end_==1)=false:=by rw [beq_eq_false_iff_ne];omega
 have b1:(s.end_ !=1)=true:=by rw [bne_iff_ne];omega
 have a2:(s.end_==2)=false:=by rw [beq_eq_false_iff_ne];omega
 have b2:(s.end_ !=2)=true:=by rw [bne_iff_ne];omega
 have a3:(s.end_==3)=false:=by rw [beq_eq_false_iff_ne];omega
 have b3:(s.end_ !=3)=true:=by rw [bne_iff_ne];omega
 have A0:Ct m s 0=false:=decide_eq_false (by omega)
 have HX:Hid (r=1):=AA (by rw [←HR.out,GN (i:=0) (by decide) (fun j hj=>absurd hj (Nat.not_lt_zero _)) A0];rfl)
 clear hE1 hE2 hE3 A0
 go_wp2_with fail
 go_ret
 exact⟨HB1.out,by rw [HX.out];rfl⟩
structure Keep (K:Nat→Prop) (w w':World):Prop where
 os:w'.os=w.os
 tape:w'.tape=w.tape
 output:w'.output=w.output
 size:w.heap.size≤w'.heap.size
 block: ∀k,k<w.heap.size→K k→w'.heap[k]?=w.heap[k]?
section
variable {K K':Nat→Prop} {w w' w'':World}
theorem Keep.refl (K:Nat→Prop) (w:World):Keep K w w:=⟨rfl,rfl,rfl,Nat.le_refl _,fun _ _ _=>rfl⟩
theorem Keep.trans (h:Keep K w w') (h':Keep K w' w''):Keep K w w'':=
 ⟨h'.os.trans h.os,h'.tape.trans h.tape,h'.output.trans h.output,Nat.le_trans h.size h'.size,fun k hk hK=>(h'.block k (Nat.lt_of_lt_of_le hk h.size) hK).trans (h.block k hk hK)⟩
theorem Keep.mono (h:Keep K w w') (hk: ∀k,K' k→K k):Keep K' w w':=⟨h.os,h.tape,h.output,h.size,fun k h1 h2=>h.block k h1 (hk k h2)⟩
theorem Keep.of_below {B:Nat} (h:Below B w w') (hk: ∀k,K k→k<w.heap.size→k<B):Keep K w w':=⟨h.os,h.tape,h.output,h.size,fun k h1 h2=>h.block k (hk k h2 h1)⟩
theorem Keep.DK (h:Below w.heap.size w w'):Keep K w w':=Keep.of_below h (fun _ _ h=>h)
theorem Keep.below {B:Nat} (h:Keep K w w') (hB:B≤w.heap.size) (hk: ∀k,k<B→K k):Below B w w':=⟨h.os,h.tape,h.output,h.size,fun k h1=>h.block k (by omega) (hk k h1)⟩
theorem Keep.alloc (h:Keep K w w') (o:Obj):Keep K w (w'.alloc o):=h.trans (Keep.DK ((Below.refl _ _).alloc (Nat.le_refl _) o))
theorem Keep.drewN (h:Keep K w w') (n:Nat):Keep K w (w'.drewN n):=⟨h.os,h.tape,h.output,h.size,h.block⟩
theorem Keep.drew (h:Keep K w w'):Keep K w w'.drew:=⟨h.os,h.tape,h.output,h.size,h.block⟩
theorem Keep.setCell (h:Keep K w w') {p:Addr} (hp: ¬K p.block) (u:Value):Keep K w (w'.setCell p u):=
 h.trans ⟨rfl,rfl,rfl,by simp [World.setCell],fun k _ hK=>Below.heap_setCell _ _ _ _ (fun e=>hp (e▸hK))⟩
theorem Keep.grown (h:Keep K w w') {row:Option Nat} (hg:w'.grownBy w'' row) (hr: ∀k,row=some k→ ¬K k):Keep K w w'':=
 h.trans ⟨hg.os,hg.tape,hg.output,hg.size,fun k h1 h2=>hg.block k h1 (fun e=>hr k e.symm h2)⟩
theorem Keep.all (h:Keep K w w') (hb:Below w'.heap.size w' w''):Keep K w w'':=h.trans (Keep.DK hb)
theorem AQ.keep {g:Nat} {t:TypeId} {xs:List Value} (hb:AQ w g t xs) (h:Keep K w w') (hg:K g):AQ w' g t xs:=(h.block g hb.lt hg).trans hb
theorem DZ {base size:Nat} {e:TypeId} {v:Value} {n:Nat} {xs:List Value} (ho:w.ownsRow base e size v n xs) (h:Keep K w w') (hg: ∀k,v.ownBlock=some k→K k):w'.ownsRow base e size v n xs:=by
 obtain⟨h1,h2⟩:=ho
 refine⟨h1,?_⟩
 rcases h2 with h2 | ⟨g,cap,cur,rfl,hb,hh,hr⟩
 ·exact .inl h2
 ·have hlt:g<w.heap.size:=(Array.getElem?_eq_some_iff.1 hh).1
  exact .inr ⟨g,cap,cur,rfl,hb,(h.block g hlt (hg g rfl)).trans hh,hr⟩
theorem Rd.C8 {α:Type} {r:Rd α} {lo hi:Nat} {cs:List Value} {x:α} (hr:r.R w lo hi cs x) (h:Keep K w w') (hhi:hi≤w.heap.size) (hk: ∀k,lo≤k→k<hi→K k):r.R w' lo hi cs x:=
 r.keep (fun p h1 h2=>by
  have hb:=h.block p.block (by omega) (hk _ h1 h2)
  simp [World.cell?,hb]) hr
theorem BD {base size:Nat} {e:TypeId} {v:Value} {n:Nat} {xs:List Value} (ho:w.ownsRow base e size v n xs) {p:Addr} (hp:v.ownBlock≠some p.block) (u:Value):(w.setCell p u).ownsRow base e size v n xs:=
 DZ (K:=fun k=>k≠p.block) ho ((Keep.refl _ _).setCell (by simp) u) (fun k hk e=>hp (by rw [hk,e]))
end
end Go.Proofs.YtlagonfamllgjaaGreatDoor
