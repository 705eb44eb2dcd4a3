/- Part 29 of the proof: EqB Par1 TxtB Ruls -/
import Derived.Deep.RegionHeld3
import Derived.Defers
import Derived.Recover
import Derived.WideMake
import Derived.Test.YtebgikflpgcnlaaGreatDoorP06
import Derived.Test.YtebgikflpgcnlaaGreatDoorP08
namespace Go.Proofs.YtebgikflpgcnlaaGreatDoor
set_option linter.unusedVariables false
set_option linter.unusedSimpArgs false
set_option maxRecDepth 100000
set_option maxHeartbeats 4000000
open Go.RowKit Tryz
theorem Xr {P:Program} {f:FuncId} {args:Array Value} {w:World} {α:Type} {x y:α} (h:Calls P f args w (JV x y w)) (hq:x=y):Calls P f args w fun e w'=>Below w.heap.size w w'∧e= .returned (.bool true):=
 h.mono fun e w' ⟨h1,b,h2,h3⟩=>⟨h1,by rw [h2,h3.2 hq]⟩
theorem Uy {P:Program} {f:FuncId} {args:Array Value} {w:World} {α:Type} {x y:α} (h:Calls P f args w (JV x y w)) (hq:x≠y):Calls P f args w fun e w'=>Below w.heap.size w w'∧e= .returned (.bool false):=
 h.mono fun e w' ⟨h1,b,h2,h3⟩=>⟨h1,by cases b with | false=>exact h2 | true=>exact absurd (h3.1 rfl) hq⟩
theorem Dr {w w':World} {b:Nat} {o:Nat} {v:Value} (h:Below w.heap.size w w') (hb:b<w.heap.size) (hc:w.cell? ⟨b,o,none⟩=some v):w'.cell? ⟨b,o,none⟩=some v:=by rw [h.cell hb];exact hc
theorem Pm {α:Type} {x y:α} {w w':World} (h:Below w.heap.size w w') (hn:x≠y):JV x y w (.returned (.bool false)) w':=⟨h,false,rfl,by simp only [Bool.false_eq_true,false_iff];exact hn⟩
theorem Z7 {α:Type} {x y:α} {w w':World} (h:Below w.heap.size w w') (hn:x=y):JV x y w (.returned (.bool true)) w':=⟨h,true,rfl,by simp only [true_iff];exact hn⟩
theorem Xt {α:Type} [DecidableEq α] {a b:α} {t:Bool} (f:a≠b→t=false) (s:t=true):a=b:=Decidable.byContradiction fun h=>by rw [f h] at s;cases s
theorem RO {w:World} {o o':Obj}:Below w.heap.size w ((w.alloc o).alloc o'):=((Below.refl _ _).alloc (Nat.le_refl _) _).alloc (by simp) _
theorem ACb (cs cs':List Value) (hi hi':Nat) (x y:Av) (w:World) (h:I_.R w 0 hi cs x) (h':I_.R w 0 hi' cs' y) (hhi:hi≤w.heap.size) (O_:hi'≤w.heap.size) (hle:Yv x):
 Calls prog 182 #[.agg cs.toArray,.agg cs'.toArray] w (JV x y w):=by
 obtain⟨fu,rfl,WI,Ql⟩:=D9.1 h
 obtain⟨v_l',rfl,zn,oW⟩:=D9.1 h'
 obtain⟨OT,Nt,rfl⟩:=AU Ql
 obtain⟨oZ,og,rfl⟩:=AU oW
 have zR:=AA Ql;have H_l':=AA oW
 have aR:=AA hle
 clear h h' hle WI zn Ql oW
 try unfold bv
 try unfold uv
 refine(Bool.eq_false_or_eq_true ((x.op.toNat:Int)==(y.op.toNat:Int))).elim (fun s0=> ?_) (fun hne=> ?_)
 refine(Bool.eq_false_or_eq_true (x.a==y.a)).elim (fun s1=> ?_) (fun hne=> ?_)
 rotate_left
 iterate 2
  ·have HX:Hid (x≠y):=AA (fun he=>by subst he;simp at hne)
   go_enter func182,ntmps182
   go_wp2_with fail
   go_ret
   exact Pm RO HX.out
 have E_op:=AA (Xt AA4 s0)
 have E_a:=AA (Xt int_ne' s1)
 go_enter func182,ntmps182
 go_wp2_with fail
 generalize hw:(w.alloc _).alloc _=w1
 have S:Hid (QA 53 w w1 [.int .u8 (x.op.toNat:Int),.int .i64 x.a,.slice OT x.l.length Nt] [.int .u8 (y.op.toNat:Int),.int .i64 y.a,.slice oZ y.l.length og] fun _=>True):=by rw [←hw];exact AA (QA.init _ _ _ _)
 clear hw
 refine(kC OT oZ x.l.length y.l.length Nt og hi hi' x.l y.l w1 (Rd.below zR.out S.out.H hhi) (Rd.below H_l'.out S.out.H O_) (by have:=aR.out;unfold Yv at this;omega)).mono ?_
 rintro e w2 ⟨hbe,b,rfl,hb⟩
 replace S:=AA (S.out.below hbe)
 clear hbe
 cases b
 case false=>
  have HX:Hid (x≠y):=AA (fun he=>by cases hb.2 (by rw [he]))
  clear hb
  go_wp2_with fail
  go_ret
  exact Pm S.out.H HX.out
 have E_l:=AA (hb.1 rfl);clear hb
 go_wp2_with fail
 go_ret
 exact Z7 S.out.H (by
  have e_op:=E_op.out;have e_a:=E_a.out;have e_l:=E_l.out
  cases x;cases y;congr)
def oh (l l':List Av) (w:World) (n:Nat) (i:Value) (wr:World):Prop:= ∃k:Nat,k≤n∧i= .int .i64 k∧Below w.heap.size w wr∧l.take k=l'.take k
theorem zo (A A':Option Addr) (n n' c c' hi hi':Nat) (l l':List Av) (w:World) (h:(I_.sl false).R w 0 hi [.slice A n c] l) (h':(I_.sl false).R w 0 hi' [.slice A' n' c'] l') (hhi:hi≤w.heap.size) (O_:hi'≤w.heap.size) (hle:l.length≤2147483647∧ ∀x∈l,Yv x):
 Calls prog 137 #[.slice A n c,.slice A' n' c'] w (JV l l' w):=by
 have hn:=D5 h
 have hn':=D5 h'
 have hlen:n≤2147483647:=by rw [hn];exact hle.1
 by_cases hnn:n=n'
 ·subst hnn
  have aR:=AA hle.2
  have Hh:=AA h
  have tV:=AA h'
  have Hn:=AA hn
  have VZ:=AA hn'
  clear h h' hn hn' hle
  go_enter func137,ntmps137
  go_wp2_with fail
  go_loopw [5] (fun i wr=>oh l l' w n i wr) (fun i _=>n-(intOf i).toNat)
  case atStart=>exact⟨0,by omega,rfl,Below.refl _ _,rfl⟩
  case round=>
   obtain⟨k,hk,rfl,hbel,hR⟩:=hrel
   have HR:=AA hR;clear hR
   have CF:=AA hbel;clear hbel
   by_cases hlt:k<n
   ·obtain⟨x,hx⟩: ∃x,l[k]?=some x:=⟨_,List.getElem?_eq_getElem (by rw [←Hn.out];exact hlt)⟩
    obtain⟨y,hy⟩: ∃y,l'[k]?=some y:=⟨_,List.getElem?_eq_getElem (by rw [←VZ.out];exact hlt)⟩
    obtain⟨b,o,OT,Nt,rfl,_,AEm,hc0,hc1,hc2,WI,Ql⟩:=Nf ((I_.sl false).below Hh.out CF.out hhi) hx
    obtain⟨b',o',oZ,og,rfl,_,ABG,hd0,hd1,hd2,zn,oW⟩:=Nf ((I_.sl false).below tV.out CF.out O_) hy
    have hsz:w.heap.size≤wr.heap.size:=CF.out.size
    have hs1:b<wr.heap.size:=by omega
    have hs2:b'<wr.heap.size:=by omega
    have hs3:hi≤wr.heap.size:=by omega
    have hs4:hi'≤wr.heap.size:=by omega
    have hi0:(0:Int)≤k:=by omega
    have HT:Hid (x=y→l.take (k+1)=l'.take (k+1)):=AA (fun e=>by rw [List.take_add_one,List.take_add_one,HR.out,hx,hy,e])
    have HF:Hid (x≠y→l≠l'):=AA (fun e he=>e (by rw [he,hy] at hx;exact(Option.some.inj hx).symm))
    have HE:Hid (I_.R wr 0 hi [.int .u8 (x.op.toNat:Int),.int .i64 x.a,.slice OT x.l.length Nt] x):=AA (D9.2 ⟨.slice OT x.l.length Nt,rfl,WI,Ql⟩)
    have HE':Hid (I_.R wr 0 hi' [.int .u8 (y.op.toNat:Int),.int .i64 y.a,.slice oZ y.l.length og] y):=AA (D9.2 ⟨.slice oZ y.l.length og,rfl,zn,oW⟩)
    have HC:=AA (fun W (hW:Below wr.heap.size wr W)=>ACb _ _ hi hi' x y W (I_.below HE.out hW hs3) (I_.below HE'.out hW hs4) (Nat.le_trans hs3 hW.size) (Nat.le_trans hs4 hW.size) (aR.out x (List.mem_of_getElem? hx)))
    clear hx hy HE HE' WI zn Ql oW
    by_cases hq:x=y
    case' pos=>
     have HT2:=AA (HT.out hq)
     have HC2:=AA (fun W hW=>Xr (HC.out W hW) hq)
    case' neg=>
     have ZC:=AA (HF.out hq)
     have HC2:=AA (fun W hW=>Uy (HC.out W hW) hq)
    all_goals
     clear hq HT HF HC
     go_wp2_with fail
     go_region_held3 (fun w'=>w'.cell? ⟨b,o+k*3,none⟩=some (.int .u8 (x.op.toNat:Int))∧w'.cell? ⟨b,o+k*3+1,none⟩=some (.int .i64 x.a)∧w'.cell? ⟨b,o+k*3+2,none⟩=some (.slice OT x.l.length Nt)∧w'.cell? ⟨b',o'+k*3,none⟩=some (.int .u8 (y.op.toNat:Int))∧w'.cell? ⟨b',o'+k*3+1,none⟩=some (.int .i64 y.a)∧w'.cell? ⟨b',o'+k*3+2,none⟩=some (.slice oZ y.l.length og)∧Below wr.heap.size wr w')
      (first | exact⟨hc0,hc1,hc2,hd0,hd1,hd2,Below.refl _ _⟩ | exact⟨hc0,hc1,hc2,hd0,hd1,hd2,(Below.refl _ _).drew⟩ | exact⟨Dr hS2 hs1 hc0,Dr hS2 hs1 hc1,Dr hS2 hs1 hc2,Dr hS2 hs2 hd0,Dr hS2 hs2 hd1,Dr hS2 hs2 hd2,hS2⟩)
      (first | (go_at_call 182;refine(HC2.out _ (by exact(Below.refl _ _).drew)).mono ?_;rintro e W1 ⟨hS1,rfl⟩;have hS2:Below wr.heap.size wr W1:=((Below.refl wr.heap.size wr).drew).trans hS1;clear hS1))
     have j5:Hid (Below w.heap.size w _):=AA (CF.out.trans (hS2.mono hsz))
     clear hS2 hc0 hc1 hc2 hd0 hd1 hd2
     go_wp2_with fail
    ·go_ret
     exact⟨j5.out,false,rfl,by simp only [Bool.false_eq_true,false_iff];exact ZC.out⟩
    ·exact⟨⟨k+1,by omega,by go_num,j5.out,HT2.out⟩,by simp [intOf];omega⟩
   ·obtain rfl:k=n:=by omega
    have hT:Hid (l=l'):=by
     have:=HR.out
     rw [List.take_of_length_le (by rw [Hn.out];exact Nat.le_refl _),List.take_of_length_le (by rw [VZ.out];exact Nat.le_refl _)] at this
     exact AA this
    go_wp2_with fail
    go_ret
    exact⟨CF.out,true,rfl,by simp only [true_iff];exact hT.out⟩
 ·have hF:Hid (l≠l'):=AA (fun h=>hnn (by rw [hn,hn',h]))
  have hne:((n:Int) !=n')=true:=by simp;omega
  clear h h' hn hn' hle
  go_enter func137,ntmps137
  go_wp2_with fail
  go_ret
  exact⟨Below.refl _ _,false,rfl,by simp only [Bool.false_eq_true,false_iff];exact hF.out⟩
theorem eD (cs cs':List Value) (hi hi':Nat) (x y:FL) (w:World) (h:Tf.R w 0 hi cs x) (h':Tf.R w 0 hi' cs' y) (hhi:hi≤w.heap.size) (O_:hi'≤w.heap.size) (hle:ABf x):
 Calls prog 84 #[.agg cs.toArray,.agg cs'.toArray] w (JV x y w):=by
 obtain⟨Ox,rfl,qB,QW,JA⟩:=Ob.1 h
 obtain⟨v_code',rfl,zq,Z8,RP⟩:=Ob.1 h'
 obtain⟨G_,Gu,rfl⟩:=AU JA
 obtain⟨RQ,RS,rfl⟩:=AU RP
 have ACc:=AA JA;have zu:=AA RP
 have aR:=AA hle
 clear h h' hle qB zq QW Z8 JA RP
 try unfold bv
 try unfold uv
 refine(Bool.eq_false_or_eq_true (x.t==y.t)).elim (fun s0=> ?_) (fun hne=> ?_)
 refine(Bool.eq_false_or_eq_true (x.loc.toList==y.loc.toList)).elim (fun s1=> ?_) (fun hne=> ?_)
 rotate_left
 iterate 2
  ·have HX:Hid (x≠y):=AA (fun he=>by subst he;simp at hne)
   go_enter func84,ntmps84
   go_wp2_with fail
   go_ret
   exact Pm RO HX.out
 have E_t:=AA (Xt int_ne' s0)
 have AEn:=AA (Xt Qv s1)
 go_enter func84,ntmps84
 go_wp2_with fail
 generalize hw:(w.alloc _).alloc _=w1
 have S:Hid (QA 56 w w1 [.int .i64 x.t,.string x.loc,.slice G_ x.code.length Gu] [.int .i64 y.t,.string y.loc,.slice RQ y.code.length RS] fun _=>True):=by rw [←hw];exact AA (QA.init _ _ _ _)
 clear hw
 refine(zo G_ RQ x.code.length y.code.length Gu RS hi hi' x.code y.code w1 (Rd.below ACc.out S.out.H hhi) (Rd.below zu.out S.out.H O_) (Nat.le_trans hhi S.out.H.size) (Nat.le_trans O_ S.out.H.size) aR.out).mono ?_
 rintro e w2 ⟨hbe,b,rfl,hb⟩
 replace S:=AA (S.out.below hbe)
 clear hbe
 cases b
 case false=>
  have HX:Hid (x≠y):=AA (fun he=>by cases hb.2 (by rw [he]))
  clear hb
  go_wp2_with fail
  go_ret
  exact Pm S.out.H HX.out
 have ACd:=AA (hb.1 rfl);clear hb
 go_wp2_with fail
 go_ret
 exact Z7 S.out.H (by
  have e_t:=E_t.out;have e_loc:=AEn.out;have e_code:=ACd.out
  cases x;cases y;congr)
def Xu (l l':List FL) (w:World) (n:Nat) (i:Value) (wr:World):Prop:= ∃k:Nat,k≤n∧i= .int .i64 k∧Below w.heap.size w wr∧l.take k=l'.take k
theorem Z9 (A A':Option Addr) (n n' c c' hi hi':Nat) (l l':List FL) (w:World) (h:(Tf.sl false).R w 0 hi [.slice A n c] l) (h':(Tf.sl false).R w 0 hi' [.slice A' n' c'] l') (hhi:hi≤w.heap.size) (O_:hi'≤w.heap.size) (hle:l.length≤2147483647∧ ∀x∈l,ABf x):
 Calls prog 47 #[.slice A n c,.slice A' n' c'] w (JV l l' w):=by
 have hn:=D5 h
 have hn':=D5 h'
 have hlen:n≤2147483647:=by rw [hn];exact hle.1
 by_cases hnn:n=n'
 ·subst hnn
  have aR:=AA hle.2
  have Hh:=AA h
  have tV:=AA h'
  have Hn:=AA hn
  have VZ:=AA hn'
  clear h h' hn hn' hle
  go_enter func47,ntmps47
  go_wp2_with fail
  go_loopw [5] (fun i wr=>Xu l l' w n i wr) (fun i _=>n-(intOf i).toNat)
  case atStart=>exact⟨0,by omega,rfl,Below.refl _ _,rfl⟩
  case round=>
   obtain⟨k,hk,rfl,hbel,hR⟩:=hrel
   have HR:=AA hR;clear hR
   have CF:=AA hbel;clear hbel
   by_cases hlt:k<n
   ·obtain⟨x,hx⟩: ∃x,l[k]?=some x:=⟨_,List.getElem?_eq_getElem (by rw [←Hn.out];exact hlt)⟩
    obtain⟨y,hy⟩: ∃y,l'[k]?=some y:=⟨_,List.getElem?_eq_getElem (by rw [←VZ.out];exact hlt)⟩
    obtain⟨b,o,G_,Gu,rfl,_,AEm,hc0,hc1,hc2,qB,QW,JA⟩:=Oy ((Tf.sl false).below Hh.out CF.out hhi) hx
    obtain⟨b',o',RQ,RS,rfl,_,ABG,hd0,hd1,hd2,zq,Z8,RP⟩:=Oy ((Tf.sl false).below tV.out CF.out O_) hy
    have hsz:w.heap.size≤wr.heap.size:=CF.out.size
    have hs1:b<wr.heap.size:=by omega
    have hs2:b'<wr.heap.size:=by omega
    have hs3:hi≤wr.heap.size:=by omega
    have hs4:hi'≤wr.heap.size:=by omega
    have hi0:(0:Int)≤k:=by omega
    have HT:Hid (x=y→l.take (k+1)=l'.take (k+1)):=AA (fun e=>by rw [List.take_add_one,List.take_add_one,HR.out,hx,hy,e])
    have HF:Hid (x≠y→l≠l'):=AA (fun e he=>e (by rw [he,hy] at hx;exact(Option.some.inj hx).symm))
    have HE:Hid (Tf.R wr 0 hi [.int .i64 x.t,.string x.loc,.slice G_ x.code.length Gu] x):=AA (Ob.2 ⟨.slice G_ x.code.length Gu,rfl,qB,QW,JA⟩)
    have HE':Hid (Tf.R wr 0 hi' [.int .i64 y.t,.string y.loc,.slice RQ y.code.length RS] y):=AA (Ob.2 ⟨.slice RQ y.code.length RS,rfl,zq,Z8,RP⟩)
    have HC:=AA (fun W (hW:Below wr.heap.size wr W)=>eD _ _ hi hi' x y W (Tf.below HE.out hW hs3) (Tf.below HE'.out hW hs4) (Nat.le_trans hs3 hW.size) (Nat.le_trans hs4 hW.size) (aR.out x (List.mem_of_getElem? hx)))
    clear hx hy HE HE' qB zq QW Z8 JA RP
    by_cases hq:x=y
    case' pos=>
     have HT2:=AA (HT.out hq)
     have HC2:=AA (fun W hW=>Xr (HC.out W hW) hq)
    case' neg=>
     have ZC:=AA (HF.out hq)
     have HC2:=AA (fun W hW=>Uy (HC.out W hW) hq)
    all_goals
     clear hq HT HF HC
     go_wp2_with fail
     go_region_held3 (fun w'=>w'.cell? ⟨b,o+k*3,none⟩=some (.int .i64 x.t)∧w'.cell? ⟨b,o+k*3+1,none⟩=some (.string x.loc)∧w'.cell? ⟨b,o+k*3+2,none⟩=some (.slice G_ x.code.length Gu)∧w'.cell? ⟨b',o'+k*3,none⟩=some (.int .i64 y.t)∧w'.cell? ⟨b',o'+k*3+1,none⟩=some (.string y.loc)∧w'.cell? ⟨b',o'+k*3+2,none⟩=some (.slice RQ y.code.length RS)∧Below wr.heap.size wr w')
      (first | exact⟨hc0,hc1,hc2,hd0,hd1,hd2,Below.refl _ _⟩ | exact⟨hc0,hc1,hc2,hd0,hd1,hd2,(Below.refl _ _).drew⟩ | exact⟨Dr hS2 hs1 hc0,Dr hS2 hs1 hc1,Dr hS2 hs1 hc2,Dr hS2 hs2 hd0,Dr hS2 hs2 hd1,Dr hS2 hs2 hd2,hS2⟩)
      (first | (go_at_call 84;refine(HC2.out _ (by exact(Below.refl _ _).drew)).mono ?_;rintro e W1 ⟨hS1,rfl⟩;have hS2:Below wr.heap.size wr W1:=((Below.refl wr.heap.size wr).drew).trans hS1;clear hS1))
     have j5:Hid (Below w.heap.size w _):=AA (CF.out.trans (hS2.mono hsz))
     clear hS2 hc0 hc1 hc2 hd0 hd1 hd2
     go_wp2_with fail
    ·go_ret
     exact⟨j5.out,false,rfl,by simp only [Bool.false_eq_true,false_iff];exact ZC.out⟩
    ·exact⟨⟨k+1,by omega,by go_num,j5.out,HT2.out⟩,by simp [intOf];omega⟩
   ·obtain rfl:k=n:=by omega
    have hT:Hid (l=l'):=by
     have:=HR.out
     rw [List.take_of_length_le (by rw [Hn.out];exact Nat.le_refl _),List.take_of_length_le (by rw [VZ.out];exact Nat.le_refl _)] at this
     exact AA this
    go_wp2_with fail
    go_ret
    exact⟨CF.out,true,rfl,by simp only [true_iff];exact hT.out⟩
 ·have hF:Hid (l≠l'):=AA (fun h=>hnn (by rw [hn,hn',h]))
  have hne:((n:Int) !=n')=true:=by simp;omega
  clear h h' hn hn' hle
  go_enter func47,ntmps47
  go_wp2_with fail
  go_ret
  exact⟨Below.refl _ _,false,rfl,by simp only [Bool.false_eq_true,false_iff];exact hF.out⟩
theorem zw (cs cs':List Value) (hi hi':Nat) (x y:EZ) (w:World) (h:Kz.R w 0 hi cs x) (h':Kz.R w 0 hi' cs' y) (hhi:hi≤w.heap.size) (O_:hi'≤w.heap.size) (hle:bQ x):
 Calls prog 85 #[.agg cs.toArray,.agg cs'.toArray] w (JV x y w):=by
 obtain⟨xX,rfl,QX,f_⟩:=N7.1 h
 obtain⟨v_b',rfl,Z_,om⟩:=N7.1 h'
 obtain⟨Sb,Rl,rfl⟩:=AU f_
 obtain⟨oo,oq,rfl⟩:=AU om
 have H_b:=AA f_;have H_b':=AA om
 have aR:=AA hle
 clear h h' hle QX Z_ f_ om
 try unfold bv
 try unfold uv
 refine(Bool.eq_false_or_eq_true (x.at_==y.at_)).elim (fun s0=> ?_) (fun hne=> ?_)
 rotate_left
 iterate 1
  ·have HX:Hid (x≠y):=AA (fun he=>by subst he;simp at hne)
   go_enter func85,ntmps85
   go_wp2_with fail
   go_ret
   exact Pm RO HX.out
 have AEo:=AA (Xt int_ne' s0)
 go_enter func85,ntmps85
 go_wp2_with fail
 generalize hw:(w.alloc _).alloc _=w1
 have S:Hid (QA 59 w w1 [.int .i64 x.at_,.slice Sb x.b.length Rl] [.int .i64 y.at_,.slice oo y.b.length oq] fun _=>True):=by rw [←hw];exact AA (QA.init _ _ _ _)
 clear hw
 refine(tT Sb oo x.b.length y.b.length Rl oq hi hi' x.b y.b w1 (Rd.below H_b.out S.out.H hhi) (Rd.below H_b'.out S.out.H O_) (by have:=aR.out;unfold bQ at this;omega)).mono ?_
 rintro e w2 ⟨hbe,b,rfl,hb⟩
 replace S:=AA (S.out.below hbe)
 clear hbe
 cases b
 case false=>
  have HX:Hid (x≠y):=AA (fun he=>by cases hb.2 (by rw [he]))
  clear hb
  go_wp2_with fail
  go_ret
  exact Pm S.out.H HX.out
 have E_b:=AA (hb.1 rfl);clear hb
 go_wp2_with fail
 go_ret
 exact Z7 S.out.H (by
  have e_at_:=AEo.out;have e_b:=E_b.out
  cases x;cases y;congr)
def ig (l l':List EZ) (w:World) (n:Nat) (i:Value) (wr:World):Prop:= ∃k:Nat,k≤n∧i= .int .i64 k∧Below w.heap.size w wr∧l.take k=l'.take k
theorem vL (A A':Option Addr) (n n' c c' hi hi':Nat) (l l':List EZ) (w:World) (h:(Kz.sl false).R w 0 hi [.slice A n c] l) (h':(Kz.sl false).R w 0 hi' [.slice A' n' c'] l') (hhi:hi≤w.heap.size) (O_:hi'≤w.heap.size) (hle:l.length≤2147483647∧ ∀x∈l,bQ x):
 Calls prog 48 #[.slice A n c,.slice A' n' c'] w (JV l l' w):=by
 have hn:=D5 h
 have hn':=D5 h'
 have hlen:n≤2147483647:=by rw [hn];exact hle.1
 by_cases hnn:n=n'
 ·subst hnn
  have aR:=AA hle.2
  have Hh:=AA h
  have tV:=AA h'
  have Hn:=AA hn
  have VZ:=AA hn'
  clear h h' hn hn' hle
  go_enter func48,ntmps48
  go_wp2_with fail
  go_loopw [5] (fun i wr=>ig l l' w n i wr) (fun i _=>n-(intOf i).toNat)
  case atStart=>exact⟨0,by omega,rfl,Below.refl _ _,rfl⟩
  case round=>
   obtain⟨k,hk,rfl,hbel,hR⟩:=hrel
   have HR:=AA hR;clear hR
   have CF:=AA hbel;clear hbel
   by_cases hlt:k<n
   ·obtain⟨x,hx⟩: ∃x,l[k]?=some x:=⟨_,List.getElem?_eq_getElem (by rw [←Hn.out];exact hlt)⟩
    obtain⟨y,hy⟩: ∃y,l'[k]?=some y:=⟨_,List.getElem?_eq_getElem (by rw [←VZ.out];exact hlt)⟩
    obtain⟨b,o,Sb,Rl,rfl,_,AEm,hc0,hc1,QX,f_⟩:=Jd ((Kz.sl false).below Hh.out CF.out hhi) hx
    obtain⟨b',o',oo,oq,rfl,_,ABG,hd0,hd1,Z_,om⟩:=Jd ((Kz.sl false).below tV.out CF.out O_) hy
    have hsz:w.heap.size≤wr.heap.size:=CF.out.size
    have hs1:b<wr.heap.size:=by omega
    have hs2:b'<wr.heap.size:=by omega
    have hs3:hi≤wr.heap.size:=by omega
    have hs4:hi'≤wr.heap.size:=by omega
    have hi0:(0:Int)≤k:=by omega
    have HT:Hid (x=y→l.take (k+1)=l'.take (k+1)):=AA (fun e=>by rw [List.take_add_one,List.take_add_one,HR.out,hx,hy,e])
    have HF:Hid (x≠y→l≠l'):=AA (fun e he=>e (by rw [he,hy] at hx;exact(Option.some.inj hx).symm))
    have HE:Hid (Kz.R wr 0 hi [.int .i64 x.at_,.slice Sb x.b.length Rl] x):=AA (N7.2 ⟨.slice Sb x.b.length Rl,rfl,QX,f_⟩)
    have HE':Hid (Kz.R wr 0 hi' [.int .i64 y.at_,.slice oo y.b.length oq] y):=AA (N7.2 ⟨.slice oo y.b.length oq,rfl,Z_,om⟩)
    have HC:=AA (fun W (hW:Below wr.heap.size wr W)=>zw _ _ hi hi' x y W (Kz.below HE.out hW hs3) (Kz.below HE'.out hW hs4) (Nat.le_trans hs3 hW.size) (Nat.le_trans hs4 hW.size) (aR.out x (List.mem_of_getElem? hx)))
    clear hx hy HE HE' QX Z_ f_ om
    by_cases hq:x=y
    case' pos=>
     have HT2:=AA (HT.out hq)
     have HC2:=AA (fun W hW=>Xr (HC.out W hW) hq)
    case' neg=>
     have ZC:=AA (HF.out hq)
     have HC2:=AA (fun W hW=>Uy (HC.out W hW) hq)
    all_goals
     clear hq HT HF HC
     go_wp2_with fail
     go_region_held3 (fun w'=>w'.cell? ⟨b,o+k*2,none⟩=some (.int .i64 x.at_)∧w'.cell? ⟨b,o+k*2+1,none⟩=some (.slice Sb x.b.length Rl)∧w'.cell? ⟨b',o'+k*2,none⟩=some (.int .i64 y.at_)∧w'.cell? ⟨b',o'+k*2+1,none⟩=some (.slice oo y.b.length oq)∧Below wr.heap.size wr w')
      (first | exact⟨hc0,hc1,hd0,hd1,Below.refl _ _⟩ | exact⟨hc0,hc1,hd0,hd1,(Below.refl _ _).drew⟩ | exact⟨Dr hS2 hs1 hc0,Dr hS2 hs1 hc1,Dr hS2 hs2 hd0,Dr hS2 hs2 hd1,hS2⟩)
      (first | (go_at_call 85;refine(HC2.out _ (by exact(Below.refl _ _).drew)).mono ?_;rintro e W1 ⟨hS1,rfl⟩;have hS2:Below wr.heap.size wr W1:=((Below.refl wr.heap.size wr).drew).trans hS1;clear hS1))
     have j5:Hid (Below w.heap.size w _):=AA (CF.out.trans (hS2.mono hsz))
     clear hS2 hc0 hc1 hd0 hd1
     go_wp2_with fail
    ·go_ret
     exact⟨j5.out,false,rfl,by simp only [Bool.false_eq_true,false_iff];exact ZC.out⟩
    ·exact⟨⟨k+1,by omega,by go_num,j5.out,HT2.out⟩,by simp [intOf];omega⟩
   ·obtain rfl:k=n:=by omega
    have hT:Hid (l=l'):=by
     have:=HR.out
     rw [List.take_of_length_le (by rw [Hn.out];exact Nat.le_refl _),List.take_of_length_le (by rw [VZ.out];exact Nat.le_refl _)] at this
     exact AA this
    go_wp2_with fail
    go_ret
    exact⟨CF.out,true,rfl,by simp only [true_iff];exact hT.out⟩
 ·have hF:Hid (l≠l'):=AA (fun h=>hnn (by rw [hn,hn',h]))
  have hne:((n:Int) !=n')=true:=by simp;omega
  clear h h' hn hn' hle
  go_enter func48,ntmps48
  go_wp2_with fail
  go_ret
  exact⟨Below.refl _ _,false,rfl,by simp only [Bool.false_eq_true,false_iff];exact hF.out⟩
theorem ZI (cs cs':List Value) (hi hi':Nat) (x y:AQ) (w:World) (h:IZ.R w 0 hi cs x) (h':IZ.R w 0 hi' cs' y) (hhi:hi≤w.heap.size) (O_:hi'≤w.heap.size) (hle:AAv x):
 Calls prog 12 #[.agg cs.toArray,.agg cs'.toArray] w (JV x y w):=by
 obtain⟨Oc,Ng,Mh,PE,Od,Kk,rfl,Je,Jf,Jg,Nh,Pv,PG,PI,MX⟩:=DF.1 h
 obtain⟨AEp,AEq,AEr,v_fns',v_dat',v_exps',rfl,Xv,Xw,Xx,vM,zx,iq,iw,aA⟩:=DF.1 h'
 obtain⟨Sz,Q9,rfl⟩:=AU Je
 obtain⟨eF,eG,rfl⟩:=AU Xv
 have TA:=AA Je;have vN:=AA Xv
 obtain⟨S9,Q_,rfl⟩:=AU Jf
 obtain⟨eH,eO,rfl⟩:=AU Xw
 have WJ:=AA Jf;have vO:=AA Xw
 obtain⟨S_,RA,rfl⟩:=AU Jg
 obtain⟨eP,eT,rfl⟩:=AU Xx
 have WK:=AA Jg;have vP:=AA Xx
 obtain⟨bJ,Yl,rfl⟩:=AU PG
 obtain⟨vQ,vR,rfl⟩:=AU iq
 have bM:=AA PG;have ACe:=AA iq
 obtain⟨bK,Ym,rfl⟩:=AU PI
 obtain⟨vS,vT,rfl⟩:=AU iw
 have bN:=AA PI;have ACf:=AA iw
 obtain⟨W9,UW,rfl⟩:=AU MX
 obtain⟨kV,kW,rfl⟩:=AU aA
 have W_:=AA MX;have zy:=AA aA
 have aR:=AA hle
 clear h h' hle Je Xv Jf Xw Jg Xx Nh vM Pv zx PG iq PI iw MX aA
 try unfold bv
 try unfold uv
 refine(Bool.eq_false_or_eq_true (x.first==y.first)).elim (fun s0=> ?_) (fun hne=> ?_)
 refine(Bool.eq_false_or_eq_true (x.most==y.most)).elim (fun s1=> ?_) (fun hne=> ?_)
 rotate_left
 iterate 2
  ·have HX:Hid (x≠y):=AA (fun he=>by subst he;simp at hne)
   go_enter func12,ntmps12
   go_wp2_with fail
   go_ret
   exact Pm RO HX.out
 have z_:=AA (Xt int_ne' s0)
 have ACg:=AA (Xt int_ne' s1)
 go_enter func12,ntmps12
 go_wp2_with fail
 generalize hw:(w.alloc _).alloc _=w1
 have S:Hid (QA 29 w w1 [.slice Sz x.types.length Q9,.slice S9 x.hosts.length Q_,.slice S_ x.globs.length RA,.int .i64 x.first,.int .i64 x.most,.slice bJ x.fns.length Yl,.slice bK x.dat.length Ym,.slice W9 x.AO.length UW] [.slice eF y.types.length eG,.slice eH y.hosts.length eO,.slice eP y.globs.length eT,.int .i64 y.first,.int .i64 y.most,.slice vQ y.fns.length vR,.slice vS y.dat.length vT,.slice kV y.AO.length kW] fun _=>True):=by rw [←hw];exact AA (QA.init _ _ _ _)
 clear hw
 refine(yg Sz eF x.types.length y.types.length Q9 eG hi hi' x.types y.types w1 (Rd.below TA.out S.out.H hhi) (Rd.below vN.out S.out.H O_) (by have:=aR.out.1;omega)).mono ?_
 rintro e w2 ⟨hbe,b,rfl,hb⟩
 replace S:=AA (S.out.below hbe)
 clear hbe
 cases b
 case false=>
  have HX:Hid (x≠y):=AA (fun he=>by cases hb.2 (by rw [he]))
  clear hb
  go_wp2_with fail
  go_ret
  exact Pm S.out.H HX.out
 have AAA:=AA (hb.1 rfl);clear hb
 have hc:=S.out.b.q 1 rfl;have hd:=S.out.r.q 1 rfl
 go_wp2_with fail
 clear hc hd
 refine(kC S9 eH x.hosts.length y.hosts.length Q_ eO hi hi' x.hosts y.hosts w2 (Rd.below WJ.out S.out.H hhi) (Rd.below vO.out S.out.H O_) (by have:=aR.out.2.1;omega)).mono ?_
 rintro e w3 ⟨hbe,b,rfl,hb⟩
 replace S:=AA (S.out.below hbe)
 clear hbe
 cases b
 case false=>
  have HX:Hid (x≠y):=AA (fun he=>by cases hb.2 (by rw [he]))
  clear hb
  go_wp2_with fail
  go_ret
  exact Pm S.out.H HX.out
 have AAB:=AA (hb.1 rfl);clear hb
 have hc:=S.out.b.q 2 rfl;have hd:=S.out.r.q 2 rfl
 go_wp2_with fail
 clear hc hd
 refine(gZ S_ eP x.globs.length y.globs.length RA eT hi hi' x.globs y.globs w3 (Rd.below WK.out S.out.H hhi) (Rd.below vP.out S.out.H O_) (by have:=aR.out.2.2.1;omega)).mono ?_
 rintro e w4 ⟨hbe,b,rfl,hb⟩
 replace S:=AA (S.out.below hbe)
 clear hbe
 cases b
 case false=>
  have HX:Hid (x≠y):=AA (fun he=>by cases hb.2 (by rw [he]))
  clear hb
  go_wp2_with fail
  go_ret
  exact Pm S.out.H HX.out
 have AAC:=AA (hb.1 rfl);clear hb
 have hc:=S.out.b.q 5 rfl;have hd:=S.out.r.q 5 rfl
 go_wp2_with fail
 clear hc hd
 refine(Z9 bJ vQ x.fns.length y.fns.length Yl vR hi hi' x.fns y.fns w4 (Rd.below bM.out S.out.H hhi) (Rd.below ACe.out S.out.H O_) (Nat.le_trans hhi S.out.H.size) (Nat.le_trans O_ S.out.H.size) aR.out.2.2.2.1).mono ?_
 rintro e w5 ⟨hbe,b,rfl,hb⟩
 replace S:=AA (S.out.below hbe)
 clear hbe
 cases b
 case false=>
  have HX:Hid (x≠y):=AA (fun he=>by cases hb.2 (by rw [he]))
  clear hb
  go_wp2_with fail
  go_ret
  exact Pm S.out.H HX.out
 have AEs:=AA (hb.1 rfl);clear hb
 have hc:=S.out.b.q 6 rfl;have hd:=S.out.r.q 6 rfl
 go_wp2_with fail
 clear hc hd
 refine(vL bK vS x.dat.length y.dat.length Ym vT hi hi' x.dat y.dat w5 (Rd.below bN.out S.out.H hhi) (Rd.below ACf.out S.out.H O_) (Nat.le_trans hhi S.out.H.size) (Nat.le_trans O_ S.out.H.size) aR.out.2.2.2.2.1).mono ?_
 rintro e w6 ⟨hbe,b,rfl,hb⟩
 replace S:=AA (S.out.below hbe)
 clear hbe
 cases b
 case false=>
  have HX:Hid (x≠y):=AA (fun he=>by cases hb.2 (by rw [he]))
  clear hb
  go_wp2_with fail
  go_ret
  exact Pm S.out.H HX.out
 have AEt:=AA (hb.1 rfl);clear hb
 have hc:=S.out.b.q 7 rfl;have hd:=S.out.r.q 7 rfl
 go_wp2_with fail
 clear hc hd
 refine(gu W9 kV x.AO.length y.AO.length UW kW hi hi' x.AO y.AO w6 (Rd.below W_.out S.out.H hhi) (Rd.below zy.out S.out.H O_) (by have:=aR.out.2.2.2.2.2;omega)).mono ?_
 rintro e w7 ⟨hbe,b,rfl,hb⟩
 replace S:=AA (S.out.below hbe)
 clear hbe
 cases b
 case false=>
  have HX:Hid (x≠y):=AA (fun he=>by cases hb.2 (by rw [he]))
  clear hb
  go_wp2_with fail
  go_ret
  exact Pm S.out.H HX.out
 have ACh:=AA (hb.1 rfl);clear hb
 go_wp2_with fail
 go_ret
 exact Z7 S.out.H (by
  have e_types:=AAA.out;have e_hosts:=AAB.out;have e_globs:=AAC.out;have e_first:=z_.out;have e_most:=ACg.out;have e_fns:=AEs.out;have e_dat:=AEt.out;have e_exps:=ACh.out
  cases x;cases y;congr)
def TM:List Value:= [.slice none 0 0,.slice none 0 0,.slice none 0 0,.int .i64 0,.int .i64 0,.slice none 0 0,.slice none 0 0,.slice none 0 0]
theorem dO (pr pm pe pa:Addr) (w:World):
 CallsD prog 56 #[.pointer (some pr),.pointer (some pm),.pointer (some pe),.pointer (some pa)] .returning w fun e u' w'=>e= .returned (.tuple #[])∧u'= .returning∧w'=w:=by
 refine callsD_of_wpS func56 rfl fun c₀ cs hu=> ?_
 apply wpS_seq
 apply wpS_region
 simp [wpOpsS,go_sem,recoverD,hu,ntmps56,Exit.thenS,Array.replicate]
 have Hu:=AA hu;clear hu
 refine wpS_of_wp ?_
 go_wp2_with fail
 simp [bodyPostS,results,results56,←Hu.out]
theorem YX (W:World):(Instr.typeAssert (.iface 106 (.agg #[])) 20 106 true).run prog W= .ok (.tuple #[.agg #[],.bool true]) W:=by kernel_rfl
theorem Y6 (gr gm ge ga b:Nat) (e0 a0 ln:Int) (c0 c1 c2 c3 c4 c5 c6 c7:Value) (w:World) (hr:AV w gr 102 [.pointer (some ⟨b,0,none⟩)]) (hm:AV w gm 29 [c0,c1,c2,c3,c4,c5,c6,c7]) (he:AV w ge 33 [.int .i64 e0]) (ha:AV w ga 3 [.int .i64 a0])
 (h1:gm≠ge) (h2:gm≠ga) (h3:ge≠ga) (hl:w.cell? ⟨b,9,none⟩=some (.int .i64 ln)) (hb1:b≠gm) (hb2:b≠ge) (hb3:b≠ga) (hbl:b<w.heap.size) (hg1:gr≠gm):
 CallsD prog 56 #[.pointer (some ⟨gr,0,none⟩),.pointer (some ⟨gm,0,none⟩),.pointer (some ⟨ge,0,none⟩),.pointer (some ⟨ga,0,none⟩)] (.panicking R4) w fun e u' w'=>
  e= .returned (.tuple #[])∧u'= .panicking [{v:= .iface 106 (.agg #[]),recovered:=true}]∧Keep (fun k=>k≠gm∧k≠ge∧k≠ga) w w'∧AV w' gm 29 TM∧AV w' ge 33 [.int .i64 22]∧AV w' ga 3 [.int .i64 ln]:=by
 refine callsD_of_wpS func56 rfl fun c₀ cs hu=> ?_
 apply wpS_seq
 apply wpS_region
 simp [wpOpsS,go_sem,recoverD,hu,ntmps56,Exit.thenS,R4,Array.replicate]
 have Hu:=AA hu;clear hu
 refine wpS_of_wp ?_
 have HM:=AA hm;have HE:=AA he;have HA:=AA ha
 have hgm:=hm.lt
 have hge:=he.lt
 have hga:=ha.lt
 have hgr:=hr.lt
 have q0:=hr.q 0 rfl
 have m0:=hm.q 0 rfl
 have m1:=hm.q 1 rfl
 have m2:=hm.q 2 rfl
 have m3:=hm.q 3 rfl
 have m4:=hm.q 4 rfl
 have m5:=hm.q 5 rfl
 have m6:=hm.q 6 rfl
 have m7:=hm.q 7 rfl
 have n0:=hm.frozen 0
 have n1:=hm.frozen 1
 have n2:=hm.frozen 2
 have n3:=hm.frozen 3
 have n4:=hm.frozen 4
 have n5:=hm.frozen 5
 have n6:=hm.frozen 6
 have n7:=hm.frozen 7
 have q1:=he.q 0 rfl
 have q2:=ha.q 0 rfl
 have f1:=he.frozen 0
 have f2:=ha.frozen 0
 clear hm he ha hr
 have has:=YX
 go_wp2_with fail
 refine⟨rfl,_,rfl,.tuple #[],?_,rfl,rfl,(((((((((((Keep.refl _ w).setCell (p:=⟨gm,0,none⟩) (by simp) (.slice none 0 0)).setCell (p:=⟨gm,1,none⟩) (by simp) (.slice none 0 0)).setCell (p:=⟨gm,2,none⟩) (by simp) (.slice none 0 0)).setCell (p:=⟨gm,3,none⟩) (by simp) (.int .i64 0)).setCell (p:=⟨gm,4,none⟩) (by simp) (.int .i64 0)).setCell (p:=⟨gm,5,none⟩) (by simp) (.slice none 0 0)).setCell (p:=⟨gm,6,none⟩) (by simp) (.slice none 0 0)).setCell (p:=⟨gm,7,none⟩) (by simp) (.slice none 0 0)).setCell (p:=⟨ge,0,none⟩) (by simp) (.int .i64 22)).setCell (p:=⟨ga,0,none⟩) (by simp) (.int .i64 ln)).alloc _,((((((((((HM.out.set 0 (.slice none 0 0)).set 1 (.slice none 0 0)).set 2 (.slice none 0 0)).set 3 (.int .i64 0)).set 4 (.int .i64 0)).set 5 (.slice none 0 0)).set 6 (.slice none 0 0)).set 7 (.slice none 0 0)).far (p:=⟨ge,0,none⟩) h1 _).far (p:=⟨ga,0,none⟩) h2 _).alloc _,((((((((((HE.out.far (p:=⟨gm,0,none⟩) (Ne.symm h1) (.slice none 0 0)).far (p:=⟨gm,1,none⟩) (Ne.symm h1) (.slice none 0 0)).far (p:=⟨gm,2,none⟩) (Ne.symm h1) (.slice none 0 0)).far (p:=⟨gm,3,none⟩) (Ne.symm h1) (.int .i64 0)).far (p:=⟨gm,4,none⟩) (Ne.symm h1) (.int .i64 0)).far (p:=⟨gm,5,none⟩) (Ne.symm h1) (.slice none 0 0)).far (p:=⟨gm,6,none⟩) (Ne.symm h1) (.slice none 0 0)).far (p:=⟨gm,7,none⟩) (Ne.symm h1) (.slice none 0 0)).set 0 (.int .i64 22)).far (p:=⟨ga,0,none⟩) h3 _).alloc _,((((((((((HA.out.far (p:=⟨gm,0,none⟩) (Ne.symm h2) (.slice none 0 0)).far (p:=⟨gm,1,none⟩) (Ne.symm h2) (.slice none 0 0)).far (p:=⟨gm,2,none⟩) (Ne.symm h2) (.slice none 0 0)).far (p:=⟨gm,3,none⟩) (Ne.symm h2) (.int .i64 0)).far (p:=⟨gm,4,none⟩) (Ne.symm h2) (.int .i64 0)).far (p:=⟨gm,5,none⟩) (Ne.symm h2) (.slice none 0 0)).far (p:=⟨gm,6,none⟩) (Ne.symm h2) (.slice none 0 0)).far (p:=⟨gm,7,none⟩) (Ne.symm h2) (.slice none 0 0)).far (p:=⟨ge,0,none⟩) (Ne.symm h3) _).set 0 (.int .i64 ln)).alloc _⟩
 simp [results,results56]
theorem Zj (w:World) (e:TypeId) (t:ByteArray):Below w.heap.size w (Lib.bytesWorld w e t):=
 ⟨rfl,rfl,rfl,by rw [Lib.bytesWorld_size];omega,fun k hk=>Lib.bytesWorld_at_old w e t k hk⟩
theorem gQ (l:List UInt8):(∃v,Lib.parseIntB 64 l= .ok v)∨Lib.parseIntB 64 l= .range∨Lib.parseIntB 64 l=Lib.parseIntB 64 []:=by
 cases Lib.parseIntB 64 l
 all_goals first | exact .inl ⟨_,rfl⟩ | exact .inr (.inl rfl) | exact .inr (.inr rfl)
theorem AD0 (v:Int):Lib.parseIntB 64 []≠ .ok v:=fun e=>by cases e
def yQ (s:ByteArray) (w:World) (e:Ending) (w':World):Prop:=
 Below w.heap.size w w'∧((CK s=none∧e= .panicked R4)∨ ∃n,CK s=some n∧Rd.Ej n∧e= .returned (.int .i64 n))
theorem Dq (s:ByteArray) (hs:s.size≤281474976710656) {hi:Nat} (w:World) (hE:Dt hi w) (hhi:hi≤w.heap.size):
 Calls prog 142 #[.string s] w (yQ s w):=by
 rcases gQ s.data.toList with⟨v,hp⟩ | hp | hp
 case inl=>
  obtain⟨hv,hk⟩:=ABu hp
  have HF:=AA (strconv_ParseInt_10_at64_ok s (by omega) v hp w)
  have HV:Hid (Rd.Ej v):=AA ⟨hv.1,by omega⟩
  have HE:=AA hE;have OG:=AA hhi;have HK:=AA hk
  clear hE hhi hk hv hp hs
  go_enter func142,ntmps142
  go_wp2_with fail
  refine HF.out.mono ?_
  rintro e w1 ⟨rfl,hw1⟩
  have hb1:Below w.heap.size w w1:=by
   rcases hw1 with rfl | ⟨t,rfl⟩
   ·exact Below.refl _ _
   ·exact Zj _ _ _
  have HB1:=AA hb1
  clear hw1 HF hb1
  go_wp2_with fail
  refine(Nw v HV.out w1 (HE.out.up HB1.out OG.out) (Nat.le_trans OG.out HB1.out.size)).mono ?_
  rintro e w2 ⟨hb2,rfl⟩
  have HB2:=AA (HB1.out.trans (hb2.mono HB1.out.size))
  clear hb2
  rcases HK.out with⟨h1,h2⟩ | ⟨h1,h2⟩
  ·have hq:(Lib.itoa v==s.toList)=true:=by
    rw [ByteArray.toList_eq];simpa using h1
   have H2:=AA h2
   clear h1 h2 HK
   go_wp2_with fail
   refine(AP _).mono ?_
   rintro e w3 ⟨rfl,rfl⟩
   go_wp2_with fail
   go_ret
   exact⟨HB2.out,.inr ⟨v,H2.out,HV.out,rfl⟩⟩
  ·have hq:(Lib.itoa v==s.toList)=false:=by
    rw [ByteArray.toList_eq];simpa using h1
   have H2:=AA h2
   clear h1 h2 HK
   go_wp2_with fail
   refine(AZ _).mono ?_
   rintro e w3 ⟨rfl,rfl⟩
   go_wp2_with fail
   exact⟨rfl,HB2.out,.inl ⟨H2.out,rfl⟩⟩
 case inr.inr=>
  have HN:Hid (CK s=none):=AA (jw (fun v h=>AD0 v (hp.symm.trans h)))
  obtain⟨tp,p,hvar⟩:=hE.syn w (Below.refl _ _)
  have HF:=AA (strconv_ParseInt_10_at64_syntax_var s hs hp tp p w hvar)
  clear hE hhi hp hs hvar
  go_enter func142,ntmps142
  go_wp2_with fail
  refine HF.out.mono ?_
  rintro e w1 ⟨N,rfl,_,_,hb1⟩
  have HB1:=AA hb1
  clear HF hb1
  go_wp2_with fail
  refine(AZ _).mono ?_
  rintro e w3 ⟨rfl,rfl⟩
  go_wp2_with fail
  exact⟨rfl,HB1.out,.inl ⟨HN.out,rfl⟩⟩
 case inr.inl=>
  have HN:Hid (CK s=none):=AA (jw (fun v h=>by rw [hp] at h;cases h))
  obtain⟨tp,p,hvar⟩:=hE.rng w (Below.refl _ _)
  have HF:=AA (strconv_ParseInt_10_at64_range_var s hs hp tp p w hvar)
  clear hE hhi hp hs hvar
  go_enter func142,ntmps142
  go_wp2_with fail
  refine HF.out.mono ?_
  rintro e w1 ⟨N,rfl,_,_,hb1⟩
  have HB1:=AA hb1
  clear HF hb1
  go_wp2_with fail
  refine(AZ _).mono ?_
  rintro e w3 ⟨rfl,rfl⟩
  go_wp2_with fail
  exact⟨rfl,HB1.out,.inl ⟨HN.out,rfl⟩⟩
theorem Hq (s:ByteArray) (hs:s.size≤4294967296) (w:World):
 Calls prog 97 #[.string s] w fun e w'=> ∃A,e= .returned (.slice (some ⟨A,0,none⟩) (EP s).length (EP s).length)∧w.heap.size≤A∧
  w'.ownsRow w.heap.size 9 1 (.slice (some ⟨A,0,none⟩) (EP s).length (EP s).length) (EP s).length ((EP s).map Value.string)∧Below w.heap.size w w':=by
 have HF:=AA (strings_FieldsFunc_runes 148 #[] (enters_of func148 (by kernel_rfl) rfl) Km s w hs (gP w))
 go_enter func97,ntmps97
 go_wp2_with fail
 refine HF.out.mono ?_
 rintro e w1 ⟨A,rfl,hA,ho,hb⟩
 have HA:=AA hA;have HO:=AA ho;have HB:=AA hb
 clear hA ho hb HF
 go_wp2_with fail
 go_ret
 exact⟨A,rfl,HA.out,HO.out,HB.out⟩
theorem set_push {α:Type} (xs:Array α) (a b:α):(xs.push a).setIfInBounds xs.size b=xs.push b:=by
 apply Array.toList_inj.1
 simp [Array.toList_setIfInBounds,List.set_append]
theorem Oo {P:Program} (mty kt et:TypeId) (w:World) (es:Array MapEntry) (clock:Nat) (s:ByteArray) (val:Value) (hm:P.underlying mty=some (.map kt et)) (hk:P.underlying kt=some .string)
 (hf:Instr.findNow .string (.string s) es.toList 0=some none):
 (Instr.mapUpdate mty (.map (some w.heap.size)) (.string s) val).run P (w.alloc (.map es clock))= .ok () (w.alloc (.map (es.push {key:= .string s,val:=val,born:=clock}) (clock+1))):=by
 have hb:(w.alloc (.map es clock)).heap[w.heap.size]?=some (.map es clock):=Array.getElem?_push_size
 have hc:(Instr.checkKey false 10000 kt (.string s)).run P (w.alloc (.map es clock))= .ok () (w.alloc (.map es clock)):=MapKept.run_checkKey (k:= .string s) hk (by simp [MapKept.IsKey]) false 9999
 have h1:(Instr.mapUpdate mty (.map (some w.heap.size)) (.string s) val).run P (w.alloc (.map es clock))= .ok () {(w.alloc (.map es clock))with heap:=(w.alloc (.map es clock)).heap.setIfInBounds w.heap.size (.map (es.push {key:= .string s,val:=val,born:=clock}) (clock+1))}:=by
  generalize w.alloc (.map es clock)=W at*
  simp [Instr.mapUpdate,run_underlying hm,MapKept.run_getObj_map hb,hc,MapKept.run_findKey hk hf,MapKept.run_setObj_map _ hb,Result.andThen]
 rw [h1]
 have h2:(w.alloc (.map es clock)).heap.setIfInBounds w.heap.size (.map (es.push {key:= .string s,val:=val,born:=clock}) (clock+1))=w.heap.push (.map (es.push {key:= .string s,val:=val,born:=clock}) (clock+1)):=by
  exact set_push _ _ _
 rw [h2]
 rfl
def VH (k f:Nat):Value:= .agg #[.int .i64 k,.func (.func f) #[] #[]]
def JD:Array MapEntry:= #[⟨.string Jj,VH 1 88,0⟩,⟨.string PU,VH 2 89,1⟩,⟨.string Jk,VH 3 90,2⟩,⟨.string G7,VH 4 91,3⟩,
 ⟨.string Jl,VH 5 92,4⟩,⟨.string PV,VH 6 93,5⟩,⟨.string PW,VH 7 94,6⟩,⟨.string Jm,VH 8 95,7⟩]
def Ic (k:Nat):Array MapEntry:=JD.extract 0 k
theorem nD (w:World):Calls prog 57 #[] w fun e w'=>e= .returned (.map (some w.heap.size))∧w'=w.alloc (.map JD 8):=by
 have hm0:(Instr.makeMap 108 none).run prog w= .ok (.map (some w.heap.size)) (w.alloc (.map (Ic 0) 0)):=run_makeMap_plain w _
 have hm1:(Instr.mapUpdate 108 (.map (some w.heap.size)) (.string ⟨#[102,108,97,103,111,110]⟩) (.agg #[.int .i64 1,.func (.func 88) #[] #[]])).run prog (w.alloc (.map (Ic 0) 0))= .ok () (w.alloc (.map (Ic 1) 1)):=
  (Oo (P:=prog) 108 9 148 w (Ic 0) 0 _ _ underlying108 underlying9 (by kernel_rfl)).trans (by kernel_rfl)
 have hm2:(Instr.mapUpdate 108 (.map (some w.heap.size)) (.string ⟨#[116,121,112,101]⟩) (.agg #[.int .i64 2,.func (.func 89) #[] #[]])).run prog (w.alloc (.map (Ic 1) 1))= .ok () (w.alloc (.map (Ic 2) 2)):=
  (Oo (P:=prog) 108 9 148 w (Ic 1) 1 _ _ underlying108 underlying9 (by kernel_rfl)).trans (by kernel_rfl)
 have IX:(Instr.mapUpdate 108 (.map (some w.heap.size)) (.string ⟨#[101,120,116,101,114,110]⟩) (.agg #[.int .i64 3,.func (.func 90) #[] #[]])).run prog (w.alloc (.map (Ic 2) 2))= .ok () (w.alloc (.map (Ic 3) 3)):=
  (Oo (P:=prog) 108 9 148 w (Ic 2) 2 _ _ underlying108 underlying9 (by kernel_rfl)).trans (by kernel_rfl)
 have Yp:(Instr.mapUpdate 108 (.map (some w.heap.size)) (.string ⟨#[103,108,111,98,97,108]⟩) (.agg #[.int .i64 4,.func (.func 91) #[] #[]])).run prog (w.alloc (.map (Ic 3) 3))= .ok () (w.alloc (.map (Ic 4) 4)):=
  (Oo (P:=prog) 108 9 148 w (Ic 3) 3 _ _ underlying108 underlying9 (by kernel_rfl)).trans (by kernel_rfl)
 have kI:(Instr.mapUpdate 108 (.map (some w.heap.size)) (.string ⟨#[109,101,109,111,114,121]⟩) (.agg #[.int .i64 5,.func (.func 92) #[] #[]])).run prog (w.alloc (.map (Ic 4) 4))= .ok () (w.alloc (.map (Ic 5) 5)):=
  (Oo (P:=prog) 108 9 148 w (Ic 4) 4 _ _ underlying108 underlying9 (by kernel_rfl)).trans (by kernel_rfl)
 have OU:(Instr.mapUpdate 108 (.map (some w.heap.size)) (.string ⟨#[102,117,110,99]⟩) (.agg #[.int .i64 6,.func (.func 93) #[] #[]])).run prog (w.alloc (.map (Ic 5) 5))= .ok () (w.alloc (.map (Ic 6) 6)):=
  (Oo (P:=prog) 108 9 148 w (Ic 5) 5 _ _ underlying108 underlying9 (by kernel_rfl)).trans (by kernel_rfl)
 have qD:(Instr.mapUpdate 108 (.map (some w.heap.size)) (.string ⟨#[100,97,116,97]⟩) (.agg #[.int .i64 7,.func (.func 94) #[] #[]])).run prog (w.alloc (.map (Ic 6) 6))= .ok () (w.alloc (.map (Ic 7) 7)):=
  (Oo (P:=prog) 108 9 148 w (Ic 6) 6 _ _ underlying108 underlying9 (by kernel_rfl)).trans (by kernel_rfl)
 have hm8:(Instr.mapUpdate 108 (.map (some w.heap.size)) (.string ⟨#[101,120,112,111,114,116]⟩) (.agg #[.int .i64 8,.func (.func 95) #[] #[]])).run prog (w.alloc (.map (Ic 7) 7))= .ok () (w.alloc (.map (Ic 8) 8)):=
  (Oo (P:=prog) 108 9 148 w (Ic 7) 7 _ _ underlying108 underlying9 (by kernel_rfl)).trans (by kernel_rfl)
 have hfin:w.alloc (.map (Ic 8) 8)=w.alloc (.map JD 8):=by kernel_rfl
 go_enter func57,ntmps57
 go_wp2_with fail
 go_ret
 exact⟨rfl,hfin⟩
end Go.Proofs.YtebgikflpgcnlaaGreatDoor
