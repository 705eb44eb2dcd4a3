/- Part 24 of the proof: EqB -/
import Derived.Deep.RegionHeld3
import Derived.Test.YtebgikflpgcnlaaGreatDoorT09
import Derived.Test.YtebgikflpgcnlaaGreatDoorT12
namespace Go.Proofs.YtebgikflpgcnlaaGreatDoor
set_option linter.unusedVariables false
set_option linter.unusedSimpArgs false
set_option maxRecDepth 100000
set_option maxHeartbeats 4000000
open Go.RowKit Tryz
theorem eqp_true {P:Program} {f:FuncId} {args:Array Value} {w:World} {α:Type} {x y:α} (h:Calls P f args w (EqPost x y w)) (hq:x=y):Calls P f args w fun e w'=>Below w.heap.size w w'∧e= .returned (.bool true):=
 h.mono fun e w' ⟨h1,b,h2,h3⟩=>⟨h1,by rw [h2,h3.2 hq]⟩
theorem eqp_false {P:Program} {f:FuncId} {args:Array Value} {w:World} {α:Type} {x y:α} (h:Calls P f args w (EqPost x y w)) (hq:x≠y):Calls P f args w fun e w'=>Below w.heap.size w w'∧e= .returned (.bool false):=
 h.mono fun e w' ⟨h1,b,h2,h3⟩=>⟨h1,by cases b with | false=>exact h2 | true=>exact absurd (h3.1 rfl) hq⟩
theorem below_cell {w w':World} {b:Nat} {o:Nat} {v:Value} (h:Below w.heap.size w w') (hb:b<w.heap.size) (hc:w.cell? ⟨b,o,none⟩=some v):w'.cell? ⟨b,o,none⟩=some v:=by rw [h.cell hb];exact hc
theorem eq_no {α:Type} {x y:α} {w w':World} (h:Below w.heap.size w w') (hn:x≠y):EqPost x y w (.returned (.bool false)) w':=⟨h,false,rfl,by simp only [Bool.false_eq_true,false_iff];exact hn⟩
theorem eq_yes {α:Type} {x y:α} {w w':World} (h:Below w.heap.size w w') (hn:x=y):EqPost x y w (.returned (.bool true)) w':=⟨h,true,rfl,by simp only [true_iff];exact hn⟩
theorem eq_of {α:Type} [DecidableEq α] {a b:α} {t:Bool} (f:a≠b→t=false) (s:t=true):a=b:=Decidable.byContradiction fun h=>by rw [f h] at s;cases s
theorem two_boxes {w:World} {o o':Obj}:Below w.heap.size w ((w.alloc o).alloc o'):=((Below.refl _ _).alloc (Nat.le_refl _) _).alloc (by simp) _
theorem eq_ins (cs cs':List Value) (hi hi':Nat) (x y:InsV) (w:World) (h:rIns.R w 0 hi cs x) (h':rIns.R w 0 hi' cs' y) (hhi:hi≤w.heap.size) (hhi':hi'≤w.heap.size) (hle:InsLe x):
 Calls prog 182 #[.agg cs.toArray,.agg cs'.toArray] w (EqPost x y w):=by
 obtain⟨v_l,rfl,h_a,h_l⟩:=rIns_iff.1 h
 obtain⟨v_l',rfl,h_a',h_l'⟩:=rIns_iff.1 h'
 obtain⟨A_l,c_l,rfl⟩:=sl_form h_l
 obtain⟨A_l',c_l',rfl⟩:=sl_form h_l'
 have H_l:=hideIt h_l;have H_l':=hideIt h_l'
 have Hle:=hideIt hle
 clear h h' hle h_a h_a' h_l h_l'
 try unfold bv
 try unfold uv
 refine(Bool.eq_false_or_eq_true ((x.op.toNat:Int)==(y.op.toNat:Int))).elim (fun s0=> ?_) (fun hne=> ?_)
 refine(Bool.eq_false_or_eq_true (x.a==y.a)).elim (fun s1=> ?_) (fun hne=> ?_)
 rotate_left
 iterate 2
  ·have HX:Hid (x≠y):=hideIt (fun he=>by subst he;simp at hne)
   go_enter func182,ntmps182
   go_wp2_with fail
   go_ret
   exact eq_no two_boxes HX.out
 have E_op:=hideIt (eq_of u8_ne s0)
 have E_a:=hideIt (eq_of int_ne' s1)
 go_enter func182,ntmps182
 go_wp2_with fail
 generalize hw:(w.alloc _).alloc _=w1
 have S:Hid (CpS 53 w w1 [.int .u8 (x.op.toNat:Int),.int .i64 x.a,.slice A_l x.l.length c_l] [.int .u8 (y.op.toNat:Int),.int .i64 y.a,.slice A_l' y.l.length c_l'] fun _=>True):=by rw [←hw];exact hideIt (CpS.init _ _ _ _)
 clear hw
 refine(ex_ints A_l A_l' x.l.length y.l.length c_l c_l' hi hi' x.l y.l w1 (Rd.below H_l.out S.out.H hhi) (Rd.below H_l'.out S.out.H hhi') (by have:=Hle.out;unfold InsLe at this;omega)).mono ?_
 rintro e w2 ⟨hbe,b,rfl,hb⟩
 replace S:=hideIt (S.out.below hbe)
 clear hbe
 cases b
 case false=>
  have HX:Hid (x≠y):=hideIt (fun he=>by cases hb.2 (by rw [he]))
  clear hb
  go_wp2_with fail
  go_ret
  exact eq_no S.out.H HX.out
 have E_l:=hideIt (hb.1 rfl);clear hb
 go_wp2_with fail
 go_ret
 exact eq_yes S.out.H (by
  have e_op:=E_op.out;have e_a:=E_a.out;have e_l:=E_l.out
  cases x;cases y;congr)
def EqCodeRel (l l':List InsV) (w:World) (n:Nat) (i:Value) (wr:World):Prop:= ∃k:Nat,k≤n∧i= .int .i64 k∧Below w.heap.size w wr∧l.take k=l'.take k
theorem ex_code (A A':Option Addr) (n n' c c' hi hi':Nat) (l l':List InsV) (w:World) (h:(rIns.sl false).R w 0 hi [.slice A n c] l) (h':(rIns.sl false).R w 0 hi' [.slice A' n' c'] l') (hhi:hi≤w.heap.size) (hhi':hi'≤w.heap.size) (hle:l.length≤2147483647∧ ∀x∈l,InsLe x):
 Calls prog 137 #[.slice A n c,.slice A' n' c'] w (EqPost l l' w):=by
 have hn:=sl_len h
 have hn':=sl_len h'
 have hlen:n≤2147483647:=by rw [hn];exact hle.1
 by_cases hnn:n=n'
 ·subst hnn
  have Hle:=hideIt hle.2
  have Hh:=hideIt h
  have Hh':=hideIt h'
  have Hn:=hideIt hn
  have Hn':=hideIt hn'
  clear h h' hn hn' hle
  go_enter func137,ntmps137
  go_wp2_with fail
  go_loopw [5] (fun i wr=>EqCodeRel l l' w n i wr) (fun i _=>n-(intOf i).toNat)
  case atStart=>exact⟨0,by omega,rfl,Below.refl _ _,rfl⟩
  case round=>
   obtain⟨k,hk,rfl,hbel,hR⟩:=hrel
   have HR:=hideIt hR;clear hR
   have Hbel:=hideIt hbel;clear hbel
   by_cases hlt:k<n
   ·obtain⟨x,hx⟩: ∃x,l[k]?=some x:=⟨_,List.getElem?_eq_getElem (by rw [←Hn.out];exact hlt)⟩
    obtain⟨y,hy⟩: ∃y,l'[k]?=some y:=⟨_,List.getElem?_eq_getElem (by rw [←Hn'.out];exact hlt)⟩
    obtain⟨b,o,A_l,c_l,rfl,_,hbhi,hc0,hc1,hc2,h_a,h_l⟩:=rIns_at ((rIns.sl false).below Hh.out Hbel.out hhi) hx
    obtain⟨b',o',A_l',c_l',rfl,_,hbhi',hd0,hd1,hd2,h_a',h_l'⟩:=rIns_at ((rIns.sl false).below Hh'.out Hbel.out hhi') hy
    have hsz:w.heap.size≤wr.heap.size:=Hbel.out.size
    have hs1:b<wr.heap.size:=by omega
    have hs2:b'<wr.heap.size:=by omega
    have hs3:hi≤wr.heap.size:=by omega
    have hs4:hi'≤wr.heap.size:=by omega
    have hi0:(0:Int)≤k:=by omega
    have HT:Hid (x=y→l.take (k+1)=l'.take (k+1)):=hideIt (fun e=>by rw [List.take_add_one,List.take_add_one,HR.out,hx,hy,e])
    have HF:Hid (x≠y→l≠l'):=hideIt (fun e he=>e (by rw [he,hy] at hx;exact(Option.some.inj hx).symm))
    have HE:Hid (rIns.R wr 0 hi [.int .u8 (x.op.toNat:Int),.int .i64 x.a,.slice A_l x.l.length c_l] x):=hideIt (rIns_iff.2 ⟨.slice A_l x.l.length c_l,rfl,h_a,h_l⟩)
    have HE':Hid (rIns.R wr 0 hi' [.int .u8 (y.op.toNat:Int),.int .i64 y.a,.slice A_l' y.l.length c_l'] y):=hideIt (rIns_iff.2 ⟨.slice A_l' y.l.length c_l',rfl,h_a',h_l'⟩)
    have HC:=hideIt (fun W (hW:Below wr.heap.size wr W)=>eq_ins _ _ hi hi' x y W (rIns.below HE.out hW hs3) (rIns.below HE'.out hW hs4) (Nat.le_trans hs3 hW.size) (Nat.le_trans hs4 hW.size) (Hle.out x (List.mem_of_getElem? hx)))
    clear hx hy HE HE' h_a h_a' h_l h_l'
    by_cases hq:x=y
    case' pos=>
     have HT2:=hideIt (HT.out hq)
     have HC2:=hideIt (fun W hW=>eqp_true (HC.out W hW) hq)
    case' neg=>
     have HF2:=hideIt (HF.out hq)
     have HC2:=hideIt (fun W hW=>eqp_false (HC.out W hW) hq)
    all_goals
     clear hq HT HF HC
     go_wp2_with fail
     go_region_held3 (fun w'=>w'.cell? ⟨b,o+k*3,none⟩=some (.int .u8 (x.op.toNat:Int))∧w'.cell? ⟨b,o+k*3+1,none⟩=some (.int .i64 x.a)∧w'.cell? ⟨b,o+k*3+2,none⟩=some (.slice A_l x.l.length c_l)∧w'.cell? ⟨b',o'+k*3,none⟩=some (.int .u8 (y.op.toNat:Int))∧w'.cell? ⟨b',o'+k*3+1,none⟩=some (.int .i64 y.a)∧w'.cell? ⟨b',o'+k*3+2,none⟩=some (.slice A_l' y.l.length c_l')∧Below wr.heap.size wr w')
      (first | exact⟨hc0,hc1,hc2,hd0,hd1,hd2,Below.refl _ _⟩ | exact⟨hc0,hc1,hc2,hd0,hd1,hd2,(Below.refl _ _).drew⟩ | exact⟨below_cell hS2 hs1 hc0,below_cell hS2 hs1 hc1,below_cell hS2 hs1 hc2,below_cell hS2 hs2 hd0,below_cell hS2 hs2 hd1,below_cell hS2 hs2 hd2,hS2⟩)
      (first | (go_at_call 182;refine(HC2.out _ (by exact(Below.refl _ _).drew)).mono ?_;rintro e W1 ⟨hS1,rfl⟩;have hS2:Below wr.heap.size wr W1:=((Below.refl wr.heap.size wr).drew).trans hS1;clear hS1))
     have hS3:Hid (Below w.heap.size w _):=hideIt (Hbel.out.trans (hS2.mono hsz))
     clear hS2 hc0 hc1 hc2 hd0 hd1 hd2
     go_wp2_with fail
    ·go_ret
     exact⟨hS3.out,false,rfl,by simp only [Bool.false_eq_true,false_iff];exact HF2.out⟩
    ·exact⟨⟨k+1,by omega,by go_num,hS3.out,HT2.out⟩,by simp [intOf];omega⟩
   ·obtain rfl:k=n:=by omega
    have hT:Hid (l=l'):=by
     have:=HR.out
     rw [List.take_of_length_le (by rw [Hn.out];exact Nat.le_refl _),List.take_of_length_le (by rw [Hn'.out];exact Nat.le_refl _)] at this
     exact hideIt this
    go_wp2_with fail
    go_ret
    exact⟨Hbel.out,true,rfl,by simp only [true_iff];exact hT.out⟩
 ·have hF:Hid (l≠l'):=hideIt (fun h=>hnn (by rw [hn,hn',h]))
  have hne:((n:Int) !=n')=true:=by simp;omega
  clear h h' hn hn' hle
  go_enter func137,ntmps137
  go_wp2_with fail
  go_ret
  exact⟨Below.refl _ _,false,rfl,by simp only [Bool.false_eq_true,false_iff];exact hF.out⟩
theorem eq_function (cs cs':List Value) (hi hi':Nat) (x y:FnV) (w:World) (h:rFn.R w 0 hi cs x) (h':rFn.R w 0 hi' cs' y) (hhi:hi≤w.heap.size) (hhi':hi'≤w.heap.size) (hle:FnLe x):
 Calls prog 84 #[.agg cs.toArray,.agg cs'.toArray] w (EqPost x y w):=by
 obtain⟨v_code,rfl,h_t,h_loc,h_code⟩:=rFn_iff.1 h
 obtain⟨v_code',rfl,h_t',h_loc',h_code'⟩:=rFn_iff.1 h'
 obtain⟨A_code,c_code,rfl⟩:=sl_form h_code
 obtain⟨A_code',c_code',rfl⟩:=sl_form h_code'
 have H_code:=hideIt h_code;have H_code':=hideIt h_code'
 have Hle:=hideIt hle
 clear h h' hle h_t h_t' h_loc h_loc' h_code h_code'
 try unfold bv
 try unfold uv
 refine(Bool.eq_false_or_eq_true (x.t==y.t)).elim (fun s0=> ?_) (fun hne=> ?_)
 refine(Bool.eq_false_or_eq_true (x.loc.toList==y.loc.toList)).elim (fun s1=> ?_) (fun hne=> ?_)
 rotate_left
 iterate 2
  ·have HX:Hid (x≠y):=hideIt (fun he=>by subst he;simp at hne)
   go_enter func84,ntmps84
   go_wp2_with fail
   go_ret
   exact eq_no two_boxes HX.out
 have E_t:=hideIt (eq_of int_ne' s0)
 have E_loc:=hideIt (eq_of str_ne s1)
 go_enter func84,ntmps84
 go_wp2_with fail
 generalize hw:(w.alloc _).alloc _=w1
 have S:Hid (CpS 56 w w1 [.int .i64 x.t,.string x.loc,.slice A_code x.code.length c_code] [.int .i64 y.t,.string y.loc,.slice A_code' y.code.length c_code'] fun _=>True):=by rw [←hw];exact hideIt (CpS.init _ _ _ _)
 clear hw
 refine(ex_code A_code A_code' x.code.length y.code.length c_code c_code' hi hi' x.code y.code w1 (Rd.below H_code.out S.out.H hhi) (Rd.below H_code'.out S.out.H hhi') (Nat.le_trans hhi S.out.H.size) (Nat.le_trans hhi' S.out.H.size) Hle.out).mono ?_
 rintro e w2 ⟨hbe,b,rfl,hb⟩
 replace S:=hideIt (S.out.below hbe)
 clear hbe
 cases b
 case false=>
  have HX:Hid (x≠y):=hideIt (fun he=>by cases hb.2 (by rw [he]))
  clear hb
  go_wp2_with fail
  go_ret
  exact eq_no S.out.H HX.out
 have E_code:=hideIt (hb.1 rfl);clear hb
 go_wp2_with fail
 go_ret
 exact eq_yes S.out.H (by
  have e_t:=E_t.out;have e_loc:=E_loc.out;have e_code:=E_code.out
  cases x;cases y;congr)
def EqFunctionsRel (l l':List FnV) (w:World) (n:Nat) (i:Value) (wr:World):Prop:= ∃k:Nat,k≤n∧i= .int .i64 k∧Below w.heap.size w wr∧l.take k=l'.take k
theorem ex_functions (A A':Option Addr) (n n' c c' hi hi':Nat) (l l':List FnV) (w:World) (h:(rFn.sl false).R w 0 hi [.slice A n c] l) (h':(rFn.sl false).R w 0 hi' [.slice A' n' c'] l') (hhi:hi≤w.heap.size) (hhi':hi'≤w.heap.size) (hle:l.length≤2147483647∧ ∀x∈l,FnLe x):
 Calls prog 47 #[.slice A n c,.slice A' n' c'] w (EqPost l l' w):=by
 have hn:=sl_len h
 have hn':=sl_len h'
 have hlen:n≤2147483647:=by rw [hn];exact hle.1
 by_cases hnn:n=n'
 ·subst hnn
  have Hle:=hideIt hle.2
  have Hh:=hideIt h
  have Hh':=hideIt h'
  have Hn:=hideIt hn
  have Hn':=hideIt hn'
  clear h h' hn hn' hle
  go_enter func47,ntmps47
  go_wp2_with fail
  go_loopw [5] (fun i wr=>EqFunctionsRel l l' w n i wr) (fun i _=>n-(intOf i).toNat)
  case atStart=>exact⟨0,by omega,rfl,Below.refl _ _,rfl⟩
  case round=>
   obtain⟨k,hk,rfl,hbel,hR⟩:=hrel
   have HR:=hideIt hR;clear hR
   have Hbel:=hideIt hbel;clear hbel
   by_cases hlt:k<n
   ·obtain⟨x,hx⟩: ∃x,l[k]?=some x:=⟨_,List.getElem?_eq_getElem (by rw [←Hn.out];exact hlt)⟩
    obtain⟨y,hy⟩: ∃y,l'[k]?=some y:=⟨_,List.getElem?_eq_getElem (by rw [←Hn'.out];exact hlt)⟩
    obtain⟨b,o,A_code,c_code,rfl,_,hbhi,hc0,hc1,hc2,h_t,h_loc,h_code⟩:=rFn_at ((rFn.sl false).below Hh.out Hbel.out hhi) hx
    obtain⟨b',o',A_code',c_code',rfl,_,hbhi',hd0,hd1,hd2,h_t',h_loc',h_code'⟩:=rFn_at ((rFn.sl false).below Hh'.out Hbel.out hhi') hy
    have hsz:w.heap.size≤wr.heap.size:=Hbel.out.size
    have hs1:b<wr.heap.size:=by omega
    have hs2:b'<wr.heap.size:=by omega
    have hs3:hi≤wr.heap.size:=by omega
    have hs4:hi'≤wr.heap.size:=by omega
    have hi0:(0:Int)≤k:=by omega
    have HT:Hid (x=y→l.take (k+1)=l'.take (k+1)):=hideIt (fun e=>by rw [List.take_add_one,List.take_add_one,HR.out,hx,hy,e])
    have HF:Hid (x≠y→l≠l'):=hideIt (fun e he=>e (by rw [he,hy] at hx;exact(Option.some.inj hx).symm))
    have HE:Hid (rFn.R wr 0 hi [.int .i64 x.t,.string x.loc,.slice A_code x.code.length c_code] x):=hideIt (rFn_iff.2 ⟨.slice A_code x.code.length c_code,rfl,h_t,h_loc,h_code⟩)
    have HE':Hid (rFn.R wr 0 hi' [.int .i64 y.t,.string y.loc,.slice A_code' y.code.length c_code'] y):=hideIt (rFn_iff.2 ⟨.slice A_code' y.code.length c_code',rfl,h_t',h_loc',h_code'⟩)
    have HC:=hideIt (fun W (hW:Below wr.heap.size wr W)=>eq_function _ _ hi hi' x y W (rFn.below HE.out hW hs3) (rFn.below HE'.out hW hs4) (Nat.le_trans hs3 hW.size) (Nat.le_trans hs4 hW.size) (Hle.out x (List.mem_of_getElem? hx)))
    clear hx hy HE HE' h_t h_t' h_loc h_loc' h_code h_code'
    by_cases hq:x=y
    case' pos=>
     have HT2:=hideIt (HT.out hq)
     have HC2:=hideIt (fun W hW=>eqp_true (HC.out W hW) hq)
    case' neg=>
     have HF2:=hideIt (HF.out hq)
     have HC2:=hideIt (fun W hW=>eqp_false (HC.out W hW) hq)
    all_goals
     clear hq HT HF HC
     go_wp2_with fail
     go_region_held3 (fun w'=>w'.cell? ⟨b,o+k*3,none⟩=some (.int .i64 x.t)∧w'.cell? ⟨b,o+k*3+1,none⟩=some (.string x.loc)∧w'.cell? ⟨b,o+k*3+2,none⟩=some (.slice A_code x.code.length c_code)∧w'.cell? ⟨b',o'+k*3,none⟩=some (.int .i64 y.t)∧w'.cell? ⟨b',o'+k*3+1,none⟩=some (.string y.loc)∧w'.cell? ⟨b',o'+k*3+2,none⟩=some (.slice A_code' y.code.length c_code')∧Below wr.heap.size wr w')
      (first | exact⟨hc0,hc1,hc2,hd0,hd1,hd2,Below.refl _ _⟩ | exact⟨hc0,hc1,hc2,hd0,hd1,hd2,(Below.refl _ _).drew⟩ | exact⟨below_cell hS2 hs1 hc0,below_cell hS2 hs1 hc1,below_cell hS2 hs1 hc2,below_cell hS2 hs2 hd0,below_cell hS2 hs2 hd1,below_cell hS2 hs2 hd2,hS2⟩)
      (first | (go_at_call 84;refine(HC2.out _ (by exact(Below.refl _ _).drew)).mono ?_;rintro e W1 ⟨hS1,rfl⟩;have hS2:Below wr.heap.size wr W1:=((Below.refl wr.heap.size wr).drew).trans hS1;clear hS1))
     have hS3:Hid (Below w.heap.size w _):=hideIt (Hbel.out.trans (hS2.mono hsz))
     clear hS2 hc0 hc1 hc2 hd0 hd1 hd2
     go_wp2_with fail
    ·go_ret
     exact⟨hS3.out,false,rfl,by simp only [Bool.false_eq_true,false_iff];exact HF2.out⟩
    ·exact⟨⟨k+1,by omega,by go_num,hS3.out,HT2.out⟩,by simp [intOf];omega⟩
   ·obtain rfl:k=n:=by omega
    have hT:Hid (l=l'):=by
     have:=HR.out
     rw [List.take_of_length_le (by rw [Hn.out];exact Nat.le_refl _),List.take_of_length_le (by rw [Hn'.out];exact Nat.le_refl _)] at this
     exact hideIt this
    go_wp2_with fail
    go_ret
    exact⟨Hbel.out,true,rfl,by simp only [true_iff];exact hT.out⟩
 ·have hF:Hid (l≠l'):=hideIt (fun h=>hnn (by rw [hn,hn',h]))
  have hne:((n:Int) !=n')=true:=by simp;omega
  clear h h' hn hn' hle
  go_enter func47,ntmps47
  go_wp2_with fail
  go_ret
  exact⟨Below.refl _ _,false,rfl,by simp only [Bool.false_eq_true,false_iff];exact hF.out⟩
theorem eq_data (cs cs':List Value) (hi hi':Nat) (x y:DatV) (w:World) (h:rDat.R w 0 hi cs x) (h':rDat.R w 0 hi' cs' y) (hhi:hi≤w.heap.size) (hhi':hi'≤w.heap.size) (hle:DatLe x):
 Calls prog 85 #[.agg cs.toArray,.agg cs'.toArray] w (EqPost x y w):=by
 obtain⟨v_b,rfl,h_at_,h_b⟩:=rDat_iff.1 h
 obtain⟨v_b',rfl,h_at_',h_b'⟩:=rDat_iff.1 h'
 obtain⟨A_b,c_b,rfl⟩:=sl_form h_b
 obtain⟨A_b',c_b',rfl⟩:=sl_form h_b'
 have H_b:=hideIt h_b;have H_b':=hideIt h_b'
 have Hle:=hideIt hle
 clear h h' hle h_at_ h_at_' h_b h_b'
 try unfold bv
 try unfold uv
 refine(Bool.eq_false_or_eq_true (x.at_==y.at_)).elim (fun s0=> ?_) (fun hne=> ?_)
 rotate_left
 iterate 1
  ·have HX:Hid (x≠y):=hideIt (fun he=>by subst he;simp at hne)
   go_enter func85,ntmps85
   go_wp2_with fail
   go_ret
   exact eq_no two_boxes HX.out
 have E_at_:=hideIt (eq_of int_ne' s0)
 go_enter func85,ntmps85
 go_wp2_with fail
 generalize hw:(w.alloc _).alloc _=w1
 have S:Hid (CpS 59 w w1 [.int .i64 x.at_,.slice A_b x.b.length c_b] [.int .i64 y.at_,.slice A_b' y.b.length c_b'] fun _=>True):=by rw [←hw];exact hideIt (CpS.init _ _ _ _)
 clear hw
 refine(ex_bytes A_b A_b' x.b.length y.b.length c_b c_b' hi hi' x.b y.b w1 (Rd.below H_b.out S.out.H hhi) (Rd.below H_b'.out S.out.H hhi') (by have:=Hle.out;unfold DatLe at this;omega)).mono ?_
 rintro e w2 ⟨hbe,b,rfl,hb⟩
 replace S:=hideIt (S.out.below hbe)
 clear hbe
 cases b
 case false=>
  have HX:Hid (x≠y):=hideIt (fun he=>by cases hb.2 (by rw [he]))
  clear hb
  go_wp2_with fail
  go_ret
  exact eq_no S.out.H HX.out
 have E_b:=hideIt (hb.1 rfl);clear hb
 go_wp2_with fail
 go_ret
 exact eq_yes S.out.H (by
  have e_at_:=E_at_.out;have e_b:=E_b.out
  cases x;cases y;congr)
def EqDatasRel (l l':List DatV) (w:World) (n:Nat) (i:Value) (wr:World):Prop:= ∃k:Nat,k≤n∧i= .int .i64 k∧Below w.heap.size w wr∧l.take k=l'.take k
theorem ex_datas (A A':Option Addr) (n n' c c' hi hi':Nat) (l l':List DatV) (w:World) (h:(rDat.sl false).R w 0 hi [.slice A n c] l) (h':(rDat.sl false).R w 0 hi' [.slice A' n' c'] l') (hhi:hi≤w.heap.size) (hhi':hi'≤w.heap.size) (hle:l.length≤2147483647∧ ∀x∈l,DatLe x):
 Calls prog 48 #[.slice A n c,.slice A' n' c'] w (EqPost l l' w):=by
 have hn:=sl_len h
 have hn':=sl_len h'
 have hlen:n≤2147483647:=by rw [hn];exact hle.1
 by_cases hnn:n=n'
 ·subst hnn
  have Hle:=hideIt hle.2
  have Hh:=hideIt h
  have Hh':=hideIt h'
  have Hn:=hideIt hn
  have Hn':=hideIt hn'
  clear h h' hn hn' hle
  go_enter func48,ntmps48
  go_wp2_with fail
  go_loopw [5] (fun i wr=>EqDatasRel l l' w n i wr) (fun i _=>n-(intOf i).toNat)
  case atStart=>exact⟨0,by omega,rfl,Below.refl _ _,rfl⟩
  case round=>
   obtain⟨k,hk,rfl,hbel,hR⟩:=hrel
   have HR:=hideIt hR;clear hR
   have Hbel:=hideIt hbel;clear hbel
   by_cases hlt:k<n
   ·obtain⟨x,hx⟩: ∃x,l[k]?=some x:=⟨_,List.getElem?_eq_getElem (by rw [←Hn.out];exact hlt)⟩
    obtain⟨y,hy⟩: ∃y,l'[k]?=some y:=⟨_,List.getElem?_eq_getElem (by rw [←Hn'.out];exact hlt)⟩
    obtain⟨b,o,A_b,c_b,rfl,_,hbhi,hc0,hc1,h_at_,h_b⟩:=rDat_at ((rDat.sl false).below Hh.out Hbel.out hhi) hx
    obtain⟨b',o',A_b',c_b',rfl,_,hbhi',hd0,hd1,h_at_',h_b'⟩:=rDat_at ((rDat.sl false).below Hh'.out Hbel.out hhi') hy
    have hsz:w.heap.size≤wr.heap.size:=Hbel.out.size
    have hs1:b<wr.heap.size:=by omega
    have hs2:b'<wr.heap.size:=by omega
    have hs3:hi≤wr.heap.size:=by omega
    have hs4:hi'≤wr.heap.size:=by omega
    have hi0:(0:Int)≤k:=by omega
    have HT:Hid (x=y→l.take (k+1)=l'.take (k+1)):=hideIt (fun e=>by rw [List.take_add_one,List.take_add_one,HR.out,hx,hy,e])
    have HF:Hid (x≠y→l≠l'):=hideIt (fun e he=>e (by rw [he,hy] at hx;exact(Option.some.inj hx).symm))
    have HE:Hid (rDat.R wr 0 hi [.int .i64 x.at_,.slice A_b x.b.length c_b] x):=hideIt (rDat_iff.2 ⟨.slice A_b x.b.length c_b,rfl,h_at_,h_b⟩)
    have HE':Hid (rDat.R wr 0 hi' [.int .i64 y.at_,.slice A_b' y.b.length c_b'] y):=hideIt (rDat_iff.2 ⟨.slice A_b' y.b.length c_b',rfl,h_at_',h_b'⟩)
    have HC:=hideIt (fun W (hW:Below wr.heap.size wr W)=>eq_data _ _ hi hi' x y W (rDat.below HE.out hW hs3) (rDat.below HE'.out hW hs4) (Nat.le_trans hs3 hW.size) (Nat.le_trans hs4 hW.size) (Hle.out x (List.mem_of_getElem? hx)))
    clear hx hy HE HE' h_at_ h_at_' h_b h_b'
    by_cases hq:x=y
    case' pos=>
     have HT2:=hideIt (HT.out hq)
     have HC2:=hideIt (fun W hW=>eqp_true (HC.out W hW) hq)
    case' neg=>
     have HF2:=hideIt (HF.out hq)
     have HC2:=hideIt (fun W hW=>eqp_false (HC.out W hW) hq)
    all_goals
     clear hq HT HF HC
     go_wp2_with fail
     go_region_held3 (fun w'=>w'.cell? ⟨b,o+k*2,none⟩=some (.int .i64 x.at_)∧w'.cell? ⟨b,o+k*2+1,none⟩=some (.slice A_b x.b.length c_b)∧w'.cell? ⟨b',o'+k*2,none⟩=some (.int .i64 y.at_)∧w'.cell? ⟨b',o'+k*2+1,none⟩=some (.slice A_b' y.b.length c_b')∧Below wr.heap.size wr w')
      (first | exact⟨hc0,hc1,hd0,hd1,Below.refl _ _⟩ | exact⟨hc0,hc1,hd0,hd1,(Below.refl _ _).drew⟩ | exact⟨below_cell hS2 hs1 hc0,below_cell hS2 hs1 hc1,below_cell hS2 hs2 hd0,below_cell hS2 hs2 hd1,hS2⟩)
      (first | (go_at_call 85;refine(HC2.out _ (by exact(Below.refl _ _).drew)).mono ?_;rintro e W1 ⟨hS1,rfl⟩;have hS2:Below wr.heap.size wr W1:=((Below.refl wr.heap.size wr).drew).trans hS1;clear hS1))
     have hS3:Hid (Below w.heap.size w _):=hideIt (Hbel.out.trans (hS2.mono hsz))
     clear hS2 hc0 hc1 hd0 hd1
     go_wp2_with fail
    ·go_ret
     exact⟨hS3.out,false,rfl,by simp only [Bool.false_eq_true,false_iff];exact HF2.out⟩
    ·exact⟨⟨k+1,by omega,by go_num,hS3.out,HT2.out⟩,by simp [intOf];omega⟩
   ·obtain rfl:k=n:=by omega
    have hT:Hid (l=l'):=by
     have:=HR.out
     rw [List.take_of_length_le (by rw [Hn.out];exact Nat.le_refl _),List.take_of_length_le (by rw [Hn'.out];exact Nat.le_refl _)] at this
     exact hideIt this
    go_wp2_with fail
    go_ret
    exact⟨Hbel.out,true,rfl,by simp only [true_iff];exact hT.out⟩
 ·have hF:Hid (l≠l'):=hideIt (fun h=>hnn (by rw [hn,hn',h]))
  have hne:((n:Int) !=n')=true:=by simp;omega
  clear h h' hn hn' hle
  go_enter func48,ntmps48
  go_wp2_with fail
  go_ret
  exact⟨Below.refl _ _,false,rfl,by simp only [Bool.false_eq_true,false_iff];exact hF.out⟩
def EqFramesRel (l l':List FrV) (w:World) (n:Nat) (i:Value) (wr:World):Prop:= ∃k:Nat,k≤n∧i= .int .i64 k∧Below w.heap.size w wr∧l.take k=l'.take k
def EqPagesRelR (l l':List (List UInt8)) (w:World) (n:Nat) (i:Value) (wr:World):Prop:= ∃k:Nat,k≤n∧i= .int .i64 k∧Below w.heap.size w wr∧l.take k=l'.take k
theorem eq_module (cs cs':List Value) (hi hi':Nat) (x y:ModV) (w:World) (h:rMod.R w 0 hi cs x) (h':rMod.R w 0 hi' cs' y) (hhi:hi≤w.heap.size) (hhi':hi'≤w.heap.size) (hle:ModLe x):
 Calls prog 12 #[.agg cs.toArray,.agg cs'.toArray] w (EqPost x y w):=by
 obtain⟨v_types,v_hosts,v_globs,v_fns,v_dat,v_exps,rfl,h_types,h_hosts,h_globs,h_first,h_most,h_fns,h_dat,h_exps⟩:=rMod_iff.1 h
 obtain⟨v_types',v_hosts',v_globs',v_fns',v_dat',v_exps',rfl,h_types',h_hosts',h_globs',h_first',h_most',h_fns',h_dat',h_exps'⟩:=rMod_iff.1 h'
 obtain⟨A_types,c_types,rfl⟩:=sl_form h_types
 obtain⟨A_types',c_types',rfl⟩:=sl_form h_types'
 have H_types:=hideIt h_types;have H_types':=hideIt h_types'
 obtain⟨A_hosts,c_hosts,rfl⟩:=sl_form h_hosts
 obtain⟨A_hosts',c_hosts',rfl⟩:=sl_form h_hosts'
 have H_hosts:=hideIt h_hosts;have H_hosts':=hideIt h_hosts'
 obtain⟨A_globs,c_globs,rfl⟩:=sl_form h_globs
 obtain⟨A_globs',c_globs',rfl⟩:=sl_form h_globs'
 have H_globs:=hideIt h_globs;have H_globs':=hideIt h_globs'
 obtain⟨A_fns,c_fns,rfl⟩:=sl_form h_fns
 obtain⟨A_fns',c_fns',rfl⟩:=sl_form h_fns'
 have H_fns:=hideIt h_fns;have H_fns':=hideIt h_fns'
 obtain⟨A_dat,c_dat,rfl⟩:=sl_form h_dat
 obtain⟨A_dat',c_dat',rfl⟩:=sl_form h_dat'
 have H_dat:=hideIt h_dat;have H_dat':=hideIt h_dat'
 obtain⟨A_exps,c_exps,rfl⟩:=sl_form h_exps
 obtain⟨A_exps',c_exps',rfl⟩:=sl_form h_exps'
 have H_exps:=hideIt h_exps;have H_exps':=hideIt h_exps'
 have Hle:=hideIt hle
 clear h h' hle h_types h_types' h_hosts h_hosts' h_globs h_globs' h_first h_first' h_most h_most' h_fns h_fns' h_dat h_dat' h_exps h_exps'
 try unfold bv
 try unfold uv
 refine(Bool.eq_false_or_eq_true (x.first==y.first)).elim (fun s0=> ?_) (fun hne=> ?_)
 refine(Bool.eq_false_or_eq_true (x.most==y.most)).elim (fun s1=> ?_) (fun hne=> ?_)
 rotate_left
 iterate 2
  ·have HX:Hid (x≠y):=hideIt (fun he=>by subst he;simp at hne)
   go_enter func12,ntmps12
   go_wp2_with fail
   go_ret
   exact eq_no two_boxes HX.out
 have E_first:=hideIt (eq_of int_ne' s0)
 have E_most:=hideIt (eq_of int_ne' s1)
 go_enter func12,ntmps12
 go_wp2_with fail
 generalize hw:(w.alloc _).alloc _=w1
 have S:Hid (CpS 29 w w1 [.slice A_types x.types.length c_types,.slice A_hosts x.hosts.length c_hosts,.slice A_globs x.globs.length c_globs,.int .i64 x.first,.int .i64 x.most,.slice A_fns x.fns.length c_fns,.slice A_dat x.dat.length c_dat,.slice A_exps x.exps.length c_exps] [.slice A_types' y.types.length c_types',.slice A_hosts' y.hosts.length c_hosts',.slice A_globs' y.globs.length c_globs',.int .i64 y.first,.int .i64 y.most,.slice A_fns' y.fns.length c_fns',.slice A_dat' y.dat.length c_dat',.slice A_exps' y.exps.length c_exps'] fun _=>True):=by rw [←hw];exact hideIt (CpS.init _ _ _ _)
 clear hw
 refine(ex_sigs A_types A_types' x.types.length y.types.length c_types c_types' hi hi' x.types y.types w1 (Rd.below H_types.out S.out.H hhi) (Rd.below H_types'.out S.out.H hhi') (by have:=Hle.out.1;omega)).mono ?_
 rintro e w2 ⟨hbe,b,rfl,hb⟩
 replace S:=hideIt (S.out.below hbe)
 clear hbe
 cases b
 case false=>
  have HX:Hid (x≠y):=hideIt (fun he=>by cases hb.2 (by rw [he]))
  clear hb
  go_wp2_with fail
  go_ret
  exact eq_no S.out.H HX.out
 have E_types:=hideIt (hb.1 rfl);clear hb
 have hc:=S.out.b.q 1 rfl;have hd:=S.out.r.q 1 rfl
 go_wp2_with fail
 clear hc hd
 refine(ex_ints A_hosts A_hosts' x.hosts.length y.hosts.length c_hosts c_hosts' hi hi' x.hosts y.hosts w2 (Rd.below H_hosts.out S.out.H hhi) (Rd.below H_hosts'.out S.out.H hhi') (by have:=Hle.out.2.1;omega)).mono ?_
 rintro e w3 ⟨hbe,b,rfl,hb⟩
 replace S:=hideIt (S.out.below hbe)
 clear hbe
 cases b
 case false=>
  have HX:Hid (x≠y):=hideIt (fun he=>by cases hb.2 (by rw [he]))
  clear hb
  go_wp2_with fail
  go_ret
  exact eq_no S.out.H HX.out
 have E_hosts:=hideIt (hb.1 rfl);clear hb
 have hc:=S.out.b.q 2 rfl;have hd:=S.out.r.q 2 rfl
 go_wp2_with fail
 clear hc hd
 refine(ex_globals A_globs A_globs' x.globs.length y.globs.length c_globs c_globs' hi hi' x.globs y.globs w3 (Rd.below H_globs.out S.out.H hhi) (Rd.below H_globs'.out S.out.H hhi') (by have:=Hle.out.2.2.1;omega)).mono ?_
 rintro e w4 ⟨hbe,b,rfl,hb⟩
 replace S:=hideIt (S.out.below hbe)
 clear hbe
 cases b
 case false=>
  have HX:Hid (x≠y):=hideIt (fun he=>by cases hb.2 (by rw [he]))
  clear hb
  go_wp2_with fail
  go_ret
  exact eq_no S.out.H HX.out
 have E_globs:=hideIt (hb.1 rfl);clear hb
 have hc:=S.out.b.q 5 rfl;have hd:=S.out.r.q 5 rfl
 go_wp2_with fail
 clear hc hd
 refine(ex_functions A_fns A_fns' x.fns.length y.fns.length c_fns c_fns' hi hi' x.fns y.fns w4 (Rd.below H_fns.out S.out.H hhi) (Rd.below H_fns'.out S.out.H hhi') (Nat.le_trans hhi S.out.H.size) (Nat.le_trans hhi' S.out.H.size) Hle.out.2.2.2.1).mono ?_
 rintro e w5 ⟨hbe,b,rfl,hb⟩
 replace S:=hideIt (S.out.below hbe)
 clear hbe
 cases b
 case false=>
  have HX:Hid (x≠y):=hideIt (fun he=>by cases hb.2 (by rw [he]))
  clear hb
  go_wp2_with fail
  go_ret
  exact eq_no S.out.H HX.out
 have E_fns:=hideIt (hb.1 rfl);clear hb
 have hc:=S.out.b.q 6 rfl;have hd:=S.out.r.q 6 rfl
 go_wp2_with fail
 clear hc hd
 refine(ex_datas A_dat A_dat' x.dat.length y.dat.length c_dat c_dat' hi hi' x.dat y.dat w5 (Rd.below H_dat.out S.out.H hhi) (Rd.below H_dat'.out S.out.H hhi') (Nat.le_trans hhi S.out.H.size) (Nat.le_trans hhi' S.out.H.size) Hle.out.2.2.2.2.1).mono ?_
 rintro e w6 ⟨hbe,b,rfl,hb⟩
 replace S:=hideIt (S.out.below hbe)
 clear hbe
 cases b
 case false=>
  have HX:Hid (x≠y):=hideIt (fun he=>by cases hb.2 (by rw [he]))
  clear hb
  go_wp2_with fail
  go_ret
  exact eq_no S.out.H HX.out
 have E_dat:=hideIt (hb.1 rfl);clear hb
 have hc:=S.out.b.q 7 rfl;have hd:=S.out.r.q 7 rfl
 go_wp2_with fail
 clear hc hd
 refine(ex_exports A_exps A_exps' x.exps.length y.exps.length c_exps c_exps' hi hi' x.exps y.exps w6 (Rd.below H_exps.out S.out.H hhi) (Rd.below H_exps'.out S.out.H hhi') (by have:=Hle.out.2.2.2.2.2;omega)).mono ?_
 rintro e w7 ⟨hbe,b,rfl,hb⟩
 replace S:=hideIt (S.out.below hbe)
 clear hbe
 cases b
 case false=>
  have HX:Hid (x≠y):=hideIt (fun he=>by cases hb.2 (by rw [he]))
  clear hb
  go_wp2_with fail
  go_ret
  exact eq_no S.out.H HX.out
 have E_exps:=hideIt (hb.1 rfl);clear hb
 go_wp2_with fail
 go_ret
 exact eq_yes S.out.H (by
  have e_types:=E_types.out;have e_hosts:=E_hosts.out;have e_globs:=E_globs.out;have e_first:=E_first.out;have e_most:=E_most.out;have e_fns:=E_fns.out;have e_dat:=E_dat.out;have e_exps:=E_exps.out
  cases x;cases y;congr)
end Go.Proofs.YtebgikflpgcnlaaGreatDoor
