/- Part 12 of the proof: Eq EqW EqI EqA OpsA -/
import Derived.Laws.StructEq
import Derived.Test.YtebgikflpgcnlaaGreatDoorT03
import Derived.Test.YtebgikflpgcnlaaGreatDoorT06
namespace Go.Proofs.YtebgikflpgcnlaaGreatDoor
set_option linter.unusedVariables false
set_option linter.unusedSimpArgs false
set_option maxRecDepth 100000
set_option maxHeartbeats 4000000
open Go.RowKit Tryz
def EqRel (l l':List UInt8) (w:World) (n:Nat) (i:Value) (wr:World):Prop:=
 ∃k m:Nat,k≤n∧i= .int .i64 k∧wr=w.drewN m∧l.take k=l'.take k
theorem eq_bytes (A A':Option Addr) (n n' c c' B B':Nat) (w:World) (l l':List UInt8) (hn:n=l.length) (hn':n'=l'.length) (h47:n≤140737488351232) (hr:Row w B A (l.map bv)) (hr':Row w B' A' (l'.map bv)):
 Calls prog 19 #[.slice A n c,.slice A' n' c'] w fun e w'=>(∃k,w'=w.drewN k)∧e= .returned (.bool (decide (l=l'))):=by
 by_cases hnn:n=n'
 ·subst hnn
  have Hr:=Lib.hid hr;clear hr
  have Hn:=Lib.hid hn;clear hn
  have Hr':=Lib.hid hr';clear hr'
  have Hn':=Lib.hid hn';clear hn'
  go_enter func19,ntmps19
  go_wp2
  go_loopw [5] (fun i wr=>EqRel l l' w n i wr) (fun i _=>n-(intOf i).toNat)
  case atStart=>exact⟨0,0,by omega,rfl,rfl,rfl⟩
  case round=>
   obtain⟨k,m,hk,rfl,rfl,hR⟩:=hrel
   have HR:=Lib.hid hR;clear hR
   by_cases hlt:k<n
   ·obtain⟨b,o,rfl,_,hcell⟩:=Hr.out.byte (j:=k) (by rw [←Hn.out];exact hlt)
    obtain⟨b',o',rfl,_,hcell'⟩:=Hr'.out.byte (j:=k) (by rw [←Hn'.out];exact hlt)
    have hB:(l[k]?.getD 0).toNat<256:=UInt8.toNat_lt _
    have hB':(l'[k]?.getD 0).toNat<256:=UInt8.toNat_lt _
    have hi:(0:Int)≤k:=by omega
    have hlk:l[k]?=some (l[k]?.getD 0):=by rw [List.getElem?_eq_getElem (by rw [←Hn.out];exact hlt)];rfl
    have hlk':l'[k]?=some (l'[k]?.getD 0):=by rw [List.getElem?_eq_getElem (by rw [←Hn'.out];exact hlt)];rfl
    have Hlk:=Lib.hid hlk;clear hlk
    have Hlk':=Lib.hid hlk';clear hlk'
    by_cases hq:l[k]?.getD 0=l'[k]?.getD 0
    ·have HT:Hid (l.take (k+1)=l'.take (k+1)):=by
      have h1:=Hlk.out
      rw [hq,←Hlk'.out] at h1
      refine Lib.hid ?_
      rw [List.take_add_one,List.take_add_one,HR.out,h1]
     rw [hq] at hcell
     clear hq hB Hlk Hlk'
     generalize (l'[k]?.getD 0).toNat=x at*
     have hne:((x:Int) !=x)=false:=by simp
     go_wp2
     go_quiet (fail)
     go_wp2
     exact⟨⟨k+1,m+nq,by omega,by go_num,rfl,HT.out⟩,by simp [intOf];omega⟩
    ·have hF:Hid (decide (l=l')=false):=by
      refine Lib.hid (decide_eq_false fun h=>hq ?_)
      rw [h]
     have hq':(l[k]?.getD 0).toNat≠(l'[k]?.getD 0).toNat:=fun h=>hq (UInt8.toNat_inj.1 h)
     clear hq Hlk Hlk'
     generalize (l'[k]?.getD 0).toNat=x at*
     generalize (l[k]?.getD 0).toNat=y at*
     have hne:((y:Int) !=x)=true:=by simp;omega
     clear hq'
     go_wp2
     go_quiet (fail)
     go_wp2
     go_ret
     exact⟨⟨m+nq,World.drewN_drewN _ _ _⟩,by rw [hF.out];rfl⟩
   ·obtain rfl:k=n:=by omega
    have hT:Hid (decide (l=l')=true):=by
     have:=HR.out
     rw [List.take_of_length_le (by rw [Hn.out];exact Nat.le_refl _),List.take_of_length_le (by rw [Hn'.out];exact Nat.le_refl _)] at this
     exact Lib.hid (decide_eq_true this)
    go_wp2
    go_ret
    exact⟨⟨_,rfl⟩,by rw [hT.out];rfl⟩
 ·have hF:Hid (decide (l=l')=false):=Lib.hid (decide_eq_false fun h=>hnn (by rw [hn,hn',h]))
  have hne:((n:Int) !=n')=true:=by simp;omega
  clear hr hr' hn hn'
  go_enter func19,ntmps19
  go_wp2
  go_ret
  exact⟨⟨0,rfl⟩,by rw [hF.out];rfl⟩
def EqWRel (l l':List Nat) (w:World) (n:Nat) (i:Value) (wr:World):Prop:=
 ∃k m:Nat,k≤n∧i= .int .i64 k∧wr=w.drewN m∧l.take k=l'.take k
def EqIRel (l l':List Int) (w:World) (n:Nat) (i:Value) (wr:World):Prop:=
 ∃k m:Nat,k≤n∧i= .int .i64 k∧wr=w.drewN m∧l.take k=l'.take k
theorem eq_ints (A A':Option Addr) (n n' c c' B B':Nat) (w:World) (l l':List Int) (hn:n=l.length) (hn':n'=l'.length) (h47:n≤140737488351232) (hr:Row w B A (ivals l)) (hr':Row w B' A' (ivals l')):
 Calls prog 45 #[.slice A n c,.slice A' n' c'] w fun e w'=>(∃k,w'=w.drewN k)∧e= .returned (.bool (decide (l=l'))):=by
 by_cases hnn:n=n'
 ·subst hnn
  have Hr:=hideIt hr;clear hr
  have Hn:=hideIt hn;clear hn
  have Hr':=hideIt hr';clear hr'
  have Hn':=hideIt hn';clear hn'
  go_enter func45,ntmps45
  go_wp2
  go_loopw [5] (fun i wr=>EqIRel l l' w n i wr) (fun i _=>n-(intOf i).toNat)
  case atStart=>exact⟨0,0,by omega,rfl,rfl,rfl⟩
  case round=>
   obtain⟨k,m,hk,rfl,rfl,hR⟩:=hrel
   have HR:=hideIt hR;clear hR
   by_cases hlt:k<n
   ·obtain⟨b,o,rfl,_,hcell⟩:=ivals_cell Hr.out (k:=k) (by rw [←Hn.out];exact hlt)
    obtain⟨b',o',rfl,_,hcell'⟩:=ivals_cell Hr'.out (k:=k) (by rw [←Hn'.out];exact hlt)
    have hi:(0:Int)≤k:=by omega
    have hlk:l[k]?=some (l[k]?.getD 0):=by rw [List.getElem?_eq_getElem (by rw [←Hn.out];exact hlt)];rfl
    have hlk':l'[k]?=some (l'[k]?.getD 0):=by rw [List.getElem?_eq_getElem (by rw [←Hn'.out];exact hlt)];rfl
    have Hlk:=hideIt hlk;clear hlk
    have Hlk':=hideIt hlk';clear hlk'
    by_cases hq:l[k]?.getD 0=l'[k]?.getD 0
    ·have HT:Hid (l.take (k+1)=l'.take (k+1)):=by
      have h1:=Hlk.out
      rw [hq,←Hlk'.out] at h1
      refine hideIt ?_
      rw [List.take_add_one,List.take_add_one,HR.out,h1]
     rw [hq] at hcell
     clear hq Hlk Hlk'
     generalize l'[k]?.getD 0=x at*
     have hne:(x !=x)=false:=by simp
     go_wp2
     go_quiet (fail)
     go_wp2
     exact⟨⟨k+1,m+nq,by omega,by go_num,rfl,HT.out⟩,by simp [intOf];omega⟩
    ·have hF:Hid (decide (l=l')=false):=by
      refine hideIt (decide_eq_false fun h=>hq ?_)
      rw [h]
     have hq':l[k]?.getD 0≠l'[k]?.getD 0:=hq
     clear hq Hlk Hlk'
     generalize l'[k]?.getD 0=x at*
     generalize l[k]?.getD 0=y at*
     have hne:(y !=x)=true:=by simp;omega
     clear hq'
     go_wp2
     go_quiet (fail)
     go_wp2
     go_ret
     exact⟨⟨m+nq,World.drewN_drewN _ _ _⟩,by rw [hF.out];rfl⟩
   ·obtain rfl:k=n:=by omega
    have hT:Hid (decide (l=l')=true):=by
     have:=HR.out
     rw [List.take_of_length_le (by rw [Hn.out];exact Nat.le_refl _),List.take_of_length_le (by rw [Hn'.out];exact Nat.le_refl _)] at this
     exact hideIt (decide_eq_true this)
    go_wp2
    go_ret
    exact⟨⟨_,rfl⟩,by rw [hT.out];rfl⟩
 ·have hF:Hid (decide (l=l')=false):=hideIt (decide_eq_false fun h=>hnn (by rw [hn,hn',h]))
  have hne:((n:Int) !=n')=true:=by simp;omega
  clear hr hr' hn hn'
  go_enter func45,ntmps45
  go_wp2
  go_ret
  exact⟨⟨0,rfl⟩,by rw [hF.out];rfl⟩
def EqPost {α:Type} (l l':α) (w:World) (e:Ending) (w':World):Prop:=Below w.heap.size w w'∧ ∃b,e= .returned (.bool b)∧(b=true↔l=l')
theorem str_ne {a b:ByteArray} (h:a≠b):(a.toList==b.toList)=false:=by
 rw [beq_eq_false_iff_ne]
 intro he
 rw [ByteArray.toList_eq,ByteArray.toList_eq] at he
 exact h (ByteArray.ext (Array.toList_inj.1 he))
theorem int_ne {a b:Nat} (h:a≠b):((a:Int)==(b:Int))=false:=by rw [beq_eq_false_iff_ne];omega
theorem int_ne' {a b:Int} (h:a≠b):(a==b)=false:=by rw [beq_eq_false_iff_ne];exact h
theorem u8_ne {a b:UInt8} (h:a≠b):((a.toNat:Int)==(b.toNat:Int))=false:=by
 rw [beq_eq_false_iff_ne]
 intro he
 exact h (UInt8.toNat_inj.1 (by omega))
theorem bool_ne {a b:Bool} (h:a≠b):(a==b)=false:=by cases a<;>cases b<;>simp_all
theorem flat1_u8 (l:List UInt8):(l.flatMap fun x=> [bv x])=l.map bv:=by induction l with | nil=>rfl | cons a l ih=>rw [List.flatMap_cons,ih];rfl
theorem flat1_i64 (l:List Int):(l.flatMap fun x=> [Value.int .i64 x])=ivals l:=by unfold ivals;induction l with | nil=>rfl | cons a l ih=>rw [List.flatMap_cons,ih];rfl
theorem flat1_u64 (l:List Nat):(l.flatMap fun x=> [uv x])=l.map uv:=by induction l with | nil=>rfl | cons a l ih=>rw [List.flatMap_cons,ih];rfl
theorem eqx_of {P:Program} {f:FuncId} {args:Array Value} {w:World} {α:Type} [DecidableEq α] {l l':α} (h:Calls P f args w fun e w'=>(∃k,w'=w.drewN k)∧e= .returned (.bool (decide (l=l')))):Calls P f args w (EqPost l l' w):=
 h.mono fun e w' ⟨⟨k,hk⟩,he⟩=>⟨by rw [hk];exact below_drewN (Below.refl _ _) k,_,he,decide_eq_true_iff⟩
theorem ex_bytes (A A':Option Addr) (n n' c c' hi hi':Nat) (l l':List UInt8) (w:World) (h:(Rd.u8.sl false).R w 0 hi [.slice A n c] l) (h':(Rd.u8.sl false).R w 0 hi' [.slice A' n' c'] l') (h47:n≤140737488351232):
 Calls prog 19 #[.slice A n c,.slice A' n' c'] w (EqPost l l' w):=
 eqx_of (eq_bytes A A' n n' c c' hi hi' w l l' (sl_len h) (sl_len h') h47 (by rw [←flat1_u8];exact flat_u8.row h) (by rw [←flat1_u8];exact flat_u8.row h'))
theorem ex_ints (A A':Option Addr) (n n' c c' hi hi':Nat) (l l':List Int) (w:World) (h:(Rd.i64.sl false).R w 0 hi [.slice A n c] l) (h':(Rd.i64.sl false).R w 0 hi' [.slice A' n' c'] l') (h47:n≤140737488351232):
 Calls prog 45 #[.slice A n c,.slice A' n' c'] w (EqPost l l' w):=
 eqx_of (eq_ints A A' n n' c c' hi hi' w l l' (sl_len h) (sl_len h') h47 (by rw [←flat1_i64];exact flat_i64.row h) (by rw [←flat1_i64];exact flat_i64.row h'))
def EqSigsRel (l l':List SigV) (w:World) (n:Nat) (i:Value) (wr:World):Prop:= ∃k m:Nat,k≤n∧i= .int .i64 k∧wr=w.drewN m∧l.take k=l'.take k
theorem ex_sigs (A A':Option Addr) (n n' c c' hi hi':Nat) (l l':List SigV) (w:World) (h:(rSig.sl false).R w 0 hi [.slice A n c] l) (h':(rSig.sl false).R w 0 hi' [.slice A' n' c'] l') (h47:n≤140737488351232):
 Calls prog 44 #[.slice A n c,.slice A' n' c'] w (EqPost l l' w):=by
 have hn:=sl_len h
 have hn':=sl_len h'
 by_cases hnn:n=n'
 ·subst hnn
  have Hh:=hideIt h;clear h
  have Hh':=hideIt h';clear h'
  have Hn:=hideIt hn;clear hn
  have Hn':=hideIt hn';clear hn'
  go_enter func44,ntmps44
  go_wp2
  go_loopw [5] (fun i wr=>EqSigsRel l l' w n i wr) (fun i _=>n-(intOf i).toNat)
  case atStart=>exact⟨0,0,by omega,rfl,rfl,rfl⟩
  case round=>
   obtain⟨k,m,hk,rfl,rfl,hR⟩:=hrel
   have HR:=hideIt hR;clear hR
   by_cases hlt:k<n
   ·obtain⟨x,hx⟩: ∃x,l[k]?=some x:=⟨_,List.getElem?_eq_getElem (by rw [←Hn.out];exact hlt)⟩
    obtain⟨y,hy⟩: ∃y,l'[k]?=some y:=⟨_,List.getElem?_eq_getElem (by rw [←Hn'.out];exact hlt)⟩
    obtain⟨b,o,rfl,_,_,hc0,hc1,po_p,po_r⟩:=rSig_at Hh.out hx
    obtain⟨b',o',rfl,_,_,hd0,hd1,qo_p,qo_r⟩:=rSig_at Hh'.out hy
    have hi:(0:Int)≤k:=by omega
    have HT:Hid (x=y→l.take (k+1)=l'.take (k+1)):=hideIt (fun e=>by rw [List.take_add_one,List.take_add_one,HR.out,hx,hy,e])
    have HF:Hid (x≠y→l≠l'):=hideIt (fun e he=>e (by rw [he,hy] at hx;exact(Option.some.inj hx).symm))
    clear hx hy po_p qo_p po_r qo_r
    by_cases h0:x.p=y.p
    case neg=>
     have HX:Hid (x≠y):=hideIt (fun e=>h0 (by rw [e]))
     have hne:=str_ne h0
     clear h0
     go_wp2
     go_quiet (fail)
     go_wp2
     go_ret
     exact⟨below_drewN (below_drewN (Below.refl _ _) _) _,false,rfl,by simp;exact HF.out HX.out⟩
    rw [h0] at hc0
    by_cases h1:x.r=y.r
    case neg=>
     have HX:Hid (x≠y):=hideIt (fun e=>h1 (by rw [e]))
     have hne:=str_ne h1
     clear h1
     go_wp2
     go_quiet (fail)
     go_wp2
     go_ret
     exact⟨below_drewN (below_drewN (Below.refl _ _) _) _,false,rfl,by simp;exact HF.out HX.out⟩
    rw [h1] at hc1
    have HX:Hid (x=y):=hideIt (by cases x;cases y;simp_all)
    clear h0 h1
    go_wp2
    go_quiet (fail)
    go_wp2
    exact⟨⟨k+1,m+nq,by omega,by go_num,rfl,HT.out HX.out⟩,by simp [intOf];omega⟩
   ·obtain rfl:k=n:=by omega
    have hT:Hid (l=l'):=by
     have:=HR.out
     rw [List.take_of_length_le (by rw [Hn.out];exact Nat.le_refl _),List.take_of_length_le (by rw [Hn'.out];exact Nat.le_refl _)] at this
     exact hideIt this
    go_wp2
    go_ret
    exact⟨below_drewN (Below.refl _ _) _,true,rfl,by simp;exact hT.out⟩
 ·have hF:Hid (l≠l'):=hideIt (fun h=>hnn (by rw [hn,hn',h]))
  have hne:((n:Int) !=n')=true:=by simp;omega
  clear h h' hn hn'
  go_enter func44,ntmps44
  go_wp2
  go_ret
  exact⟨Below.refl _ _,false,rfl,by simp;exact hF.out⟩
def EqGlobalsRel (l l':List GlobV) (w:World) (n:Nat) (i:Value) (wr:World):Prop:= ∃k m:Nat,k≤n∧i= .int .i64 k∧wr=w.drewN m∧l.take k=l'.take k
theorem ex_globals (A A':Option Addr) (n n' c c' hi hi':Nat) (l l':List GlobV) (w:World) (h:(rGlob.sl false).R w 0 hi [.slice A n c] l) (h':(rGlob.sl false).R w 0 hi' [.slice A' n' c'] l') (h47:n≤140737488351232):
 Calls prog 46 #[.slice A n c,.slice A' n' c'] w (EqPost l l' w):=by
 have hn:=sl_len h
 have hn':=sl_len h'
 by_cases hnn:n=n'
 ·subst hnn
  have Hh:=hideIt h;clear h
  have Hh':=hideIt h';clear h'
  have Hn:=hideIt hn;clear hn
  have Hn':=hideIt hn';clear hn'
  go_enter func46,ntmps46
  go_wp2
  go_loopw [5] (fun i wr=>EqGlobalsRel l l' w n i wr) (fun i _=>n-(intOf i).toNat)
  case atStart=>exact⟨0,0,by omega,rfl,rfl,rfl⟩
  case round=>
   obtain⟨k,m,hk,rfl,rfl,hR⟩:=hrel
   have HR:=hideIt hR;clear hR
   by_cases hlt:k<n
   ·obtain⟨x,hx⟩: ∃x,l[k]?=some x:=⟨_,List.getElem?_eq_getElem (by rw [←Hn.out];exact hlt)⟩
    obtain⟨y,hy⟩: ∃y,l'[k]?=some y:=⟨_,List.getElem?_eq_getElem (by rw [←Hn'.out];exact hlt)⟩
    obtain⟨b,o,rfl,_,_,hc0,hc1,hc2,po_v⟩:=rGlob_at Hh.out hx
    obtain⟨b',o',rfl,_,_,hd0,hd1,hd2,qo_v⟩:=rGlob_at Hh'.out hy
    have hi:(0:Int)≤k:=by omega
    have HT:Hid (x=y→l.take (k+1)=l'.take (k+1)):=hideIt (fun e=>by rw [List.take_add_one,List.take_add_one,HR.out,hx,hy,e])
    have HF:Hid (x≠y→l≠l'):=hideIt (fun e he=>e (by rw [he,hy] at hx;exact(Option.some.inj hx).symm))
    clear hx hy po_v qo_v
    by_cases h0:x.l=y.l
    case neg=>
     have HX:Hid (x≠y):=hideIt (fun e=>h0 (by rw [e]))
     have hne:=u8_ne h0
     clear h0
     go_wp2
     go_quiet (fail)
     go_wp2
     go_ret
     exact⟨below_drewN (below_drewN (Below.refl _ _) _) _,false,rfl,by simp;exact HF.out HX.out⟩
    rw [h0] at hc0
    by_cases h1:x.m=y.m
    case neg=>
     have HX:Hid (x≠y):=hideIt (fun e=>h1 (by rw [e]))
     have hne:=bool_ne h1
     clear h1
     go_wp2
     go_quiet (fail)
     go_wp2
     go_ret
     exact⟨below_drewN (below_drewN (Below.refl _ _) _) _,false,rfl,by simp;exact HF.out HX.out⟩
    rw [h1] at hc1
    by_cases h2:x.v=y.v
    case neg=>
     have HX:Hid (x≠y):=hideIt (fun e=>h2 (by rw [e]))
     have hne:=int_ne h2
     clear h2
     go_wp2
     go_quiet (fail)
     go_wp2
     go_ret
     exact⟨below_drewN (below_drewN (Below.refl _ _) _) _,false,rfl,by simp;exact HF.out HX.out⟩
    rw [h2] at hc2
    have HX:Hid (x=y):=hideIt (by cases x;cases y;simp_all)
    clear h0 h1 h2
    go_wp2
    go_quiet (fail)
    go_wp2
    exact⟨⟨k+1,m+nq,by omega,by go_num,rfl,HT.out HX.out⟩,by simp [intOf];omega⟩
   ·obtain rfl:k=n:=by omega
    have hT:Hid (l=l'):=by
     have:=HR.out
     rw [List.take_of_length_le (by rw [Hn.out];exact Nat.le_refl _),List.take_of_length_le (by rw [Hn'.out];exact Nat.le_refl _)] at this
     exact hideIt this
    go_wp2
    go_ret
    exact⟨below_drewN (Below.refl _ _) _,true,rfl,by simp;exact hT.out⟩
 ·have hF:Hid (l≠l'):=hideIt (fun h=>hnn (by rw [hn,hn',h]))
  have hne:((n:Int) !=n')=true:=by simp;omega
  clear h h' hn hn'
  go_enter func46,ntmps46
  go_wp2
  go_ret
  exact⟨Below.refl _ _,false,rfl,by simp;exact hF.out⟩
def EqExportsRel (l l':List ExpV) (w:World) (n:Nat) (i:Value) (wr:World):Prop:= ∃k m:Nat,k≤n∧i= .int .i64 k∧wr=w.drewN m∧l.take k=l'.take k
theorem ex_exports (A A':Option Addr) (n n' c c' hi hi':Nat) (l l':List ExpV) (w:World) (h:(rExp.sl false).R w 0 hi [.slice A n c] l) (h':(rExp.sl false).R w 0 hi' [.slice A' n' c'] l') (h47:n≤140737488351232):
 Calls prog 49 #[.slice A n c,.slice A' n' c'] w (EqPost l l' w):=by
 have hn:=sl_len h
 have hn':=sl_len h'
 by_cases hnn:n=n'
 ·subst hnn
  have Hh:=hideIt h;clear h
  have Hh':=hideIt h';clear h'
  have Hn:=hideIt hn;clear hn
  have Hn':=hideIt hn';clear hn'
  go_enter func49,ntmps49
  go_wp2
  go_loopw [5] (fun i wr=>EqExportsRel l l' w n i wr) (fun i _=>n-(intOf i).toNat)
  case atStart=>exact⟨0,0,by omega,rfl,rfl,rfl⟩
  case round=>
   obtain⟨k,m,hk,rfl,rfl,hR⟩:=hrel
   have HR:=hideIt hR;clear hR
   by_cases hlt:k<n
   ·obtain⟨x,hx⟩: ∃x,l[k]?=some x:=⟨_,List.getElem?_eq_getElem (by rw [←Hn.out];exact hlt)⟩
    obtain⟨y,hy⟩: ∃y,l'[k]?=some y:=⟨_,List.getElem?_eq_getElem (by rw [←Hn'.out];exact hlt)⟩
    obtain⟨b,o,rfl,_,_,hc0,hc1,po_n,po_f⟩:=rExp_at Hh.out hx
    obtain⟨b',o',rfl,_,_,hd0,hd1,qo_n,qo_f⟩:=rExp_at Hh'.out hy
    have hi:(0:Int)≤k:=by omega
    have HT:Hid (x=y→l.take (k+1)=l'.take (k+1)):=hideIt (fun e=>by rw [List.take_add_one,List.take_add_one,HR.out,hx,hy,e])
    have HF:Hid (x≠y→l≠l'):=hideIt (fun e he=>e (by rw [he,hy] at hx;exact(Option.some.inj hx).symm))
    clear hx hy po_n qo_n po_f qo_f
    by_cases h0:x.n=y.n
    case neg=>
     have HX:Hid (x≠y):=hideIt (fun e=>h0 (by rw [e]))
     have hne:=str_ne h0
     clear h0
     go_wp2
     go_quiet (fail)
     go_wp2
     go_ret
     exact⟨below_drewN (below_drewN (Below.refl _ _) _) _,false,rfl,by simp;exact HF.out HX.out⟩
    rw [h0] at hc0
    by_cases h1:x.f=y.f
    case neg=>
     have HX:Hid (x≠y):=hideIt (fun e=>h1 (by rw [e]))
     have hne:=int_ne' h1
     clear h1
     go_wp2
     go_quiet (fail)
     go_wp2
     go_ret
     exact⟨below_drewN (below_drewN (Below.refl _ _) _) _,false,rfl,by simp;exact HF.out HX.out⟩
    rw [h1] at hc1
    have HX:Hid (x=y):=hideIt (by cases x;cases y;simp_all)
    clear h0 h1
    go_wp2
    go_quiet (fail)
    go_wp2
    exact⟨⟨k+1,m+nq,by omega,by go_num,rfl,HT.out HX.out⟩,by simp [intOf];omega⟩
   ·obtain rfl:k=n:=by omega
    have hT:Hid (l=l'):=by
     have:=HR.out
     rw [List.take_of_length_le (by rw [Hn.out];exact Nat.le_refl _),List.take_of_length_le (by rw [Hn'.out];exact Nat.le_refl _)] at this
     exact hideIt this
    go_wp2
    go_ret
    exact⟨below_drewN (Below.refl _ _) _,true,rfl,by simp;exact hT.out⟩
 ·have hF:Hid (l≠l'):=hideIt (fun h=>hnn (by rw [hn,hn',h]))
  have hne:((n:Int) !=n')=true:=by simp;omega
  clear h h' hn hn'
  go_enter func49,ntmps49
  go_wp2
  go_ret
  exact⟨Below.refl _ _,false,rfl,by simp;exact hF.out⟩
theorem num_use {P:Program} {f:FuncId} {args:Array Value} {w:World} {a b:ByteArray} {R:Ending→World→Prop} (h:Calls P f args w fun e w'=>w=w'∧e= .returned (.tuple #[.string a,.string b])) (hr:R (.returned (.tuple #[.string a,.string b])) w):Calls P f args w R:=
 h.mono fun e w' hh=>by obtain⟨rfl,rfl⟩:=hh;exact hr
set_option maxHeartbeats 40000000 in
theorem ops_plain_all (w:World): ∀r∈opTab,Calls prog 131 #[.int .u8 (r.op:Nat)] w fun e w'=>w=w'∧e= .returned (.tuple #[.string r.pops,.string r.pushes,.bool r.plain]):=by
 unfold opTab
 iterate 90
  refine List.forall_mem_cons.2 ⟨?_,?_⟩
  ·simp only [Int.cast_ofNat_Int]
   go_enter func131,ntmps131
   go_wp2_with fail
   first
    | (go_ret3;exact⟨rfl,rfl⟩)
    | (apply num_use
       ·go_enter func172,ntmps172
        go_wp2_with fail
        go_ret2
        exact⟨rfl,rfl⟩
       ·go_wp2_with fail
        go_ret3
        exact⟨rfl,rfl⟩)
 exact fun _ h=>by cases h
end Go.Proofs.YtebgikflpgcnlaaGreatDoor
