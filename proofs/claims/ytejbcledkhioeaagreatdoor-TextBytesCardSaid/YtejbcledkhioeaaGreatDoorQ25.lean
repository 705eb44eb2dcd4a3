/- Part 25 of the proof: EqB -/
import Derived.Deep.RegionHeld3
import Derived.Test.YtejbcledkhioeaaGreatDoorQ06
namespace Go.Proofs.YtejbcledkhioeaaGreatDoor
set_option linter.unusedVariables false
set_option linter.unusedSimpArgs false
set_option maxRecDepth 100000
set_option maxHeartbeats 4000000
open Go.RowKit Tryz
theorem VW {P:Program} {f:FuncId} {args:Array Value} {w:World} {α:Type} {x y:α} (h:Calls P f args w (IV x y w)) (hq:x=y):Calls P f args w fun e w'=>Below w.heap.size w w'∧e= .returned (.bool true):=
 h.mono fun e w' ⟨h1,b,h2,h3⟩=>⟨h1,by rw [h2,h3.2 hq]⟩
theorem Sc {P:Program} {f:FuncId} {args:Array Value} {w:World} {α:Type} {x y:α} (h:Calls P f args w (IV x y w)) (hq:x≠y):Calls P f args w fun e w'=>Below w.heap.size w w'∧e= .returned (.bool false):=
 h.mono fun e w' ⟨h1,b,h2,h3⟩=>⟨h1,by cases b with | false=>exact h2 | true=>exact absurd (h3.1 rfl) hq⟩
theorem CZ {w w':World} {b:Nat} {o:Nat} {v:Value} (h:Below w.heap.size w w') (hb:b<w.heap.size) (hc:w.cell? ⟨b,o,none⟩=some v):w'.cell? ⟨b,o,none⟩=some v:=by rw [h.cell hb];exact hc
theorem NM {α:Type} {x y:α} {w w':World} (h:Below w.heap.size w w') (hn:x≠y):IV x y w (.returned (.bool false)) w':=⟨h,false,rfl,by simp only [Bool.false_eq_true,false_iff];exact hn⟩
theorem Xo {α:Type} {x y:α} {w w':World} (h:Below w.heap.size w w') (hn:x=y):IV x y w (.returned (.bool true)) w':=⟨h,true,rfl,by simp only [true_iff];exact hn⟩
theorem VX {α:Type} [DecidableEq α] {a b:α} {t:Bool} (f:a≠b→t=false) (s:t=true):a=b:=Decidable.byContradiction fun h=>by rw [f h] at s;cases s
theorem PX {w:World} {o o':Obj}:Below w.heap.size w ((w.alloc o).alloc o'):=((Below.refl _ _).alloc (Nat.le_refl _) _).alloc (by simp) _
theorem zP (cs cs':List Value) (hi hi':Nat) (x y:DL) (w:World) (h:JA.R w 0 hi cs x) (h':JA.R w 0 hi' cs' y) (hhi:hi≤w.heap.size) (Mt:hi'≤w.heap.size) (hle:WK x):
 Calls prog 182 #[.agg cs.toArray,.agg cs'.toArray] w (IV x y w):=by
 obtain⟨gQ,rfl,YN,TR⟩:=Dw.1 h
 obtain⟨v_l',rfl,uT,jl⟩:=Dw.1 h'
 obtain⟨Sw,Rs,rfl⟩:=AX TR
 obtain⟨jm,jo,rfl⟩:=AX jl
 have H_l:=AA TR;have H_l':=AA jl
 have YS:=AA hle
 clear h h' hle YN uT TR jl
 try unfold bv
 try unfold uv
 refine(Bool.eq_false_or_eq_true ((x.op.toNat:Int)==(y.op.toNat:Int))).elim (fun s0=> ?_) (fun hne=> ?_)
 refine(Bool.eq_false_or_eq_true (x.a==y.a)).elim (fun s1=> ?_) (fun hne=> ?_)
 rotate_left
 iterate 2
  ·have HX:Hid (x≠y):=AA (fun he=>by subst he;simp at hne)
   go_enter func182,ntmps182
   go_wp2_with fail
   go_ret
   exact NM PX HX.out
 have E_op:=AA (VX wD s0)
 have E_a:=AA (VX int_ne' s1)
 go_enter func182,ntmps182
 go_wp2_with fail
 generalize hw:(w.alloc _).alloc _=w1
 have S:Hid (Zy 53 w w1 [.int .u8 (x.op.toNat:Int),.int .i64 x.a,.slice Sw x.l.length Rs] [.int .u8 (y.op.toNat:Int),.int .i64 y.a,.slice jm y.l.length jo] fun _=>True):=by rw [←hw];exact AA (Zy.init _ _ _ _)
 clear hw
 refine(eT Sw jm x.l.length y.l.length Rs jo hi hi' x.l y.l w1 (Rd.below H_l.out S.out.H hhi) (Rd.below H_l'.out S.out.H Mt) (by have:=YS.out;unfold WK at this;omega)).mono ?_
 rintro e w2 ⟨hbe,b,rfl,hb⟩
 replace S:=AA (S.out.below hbe)
 clear hbe
 cases b
 case false=>
  have HX:Hid (x≠y):=AA (fun he=>by cases hb.2 (by rw [he]))
  clear hb
  go_wp2_with fail
  go_ret
  exact NM S.out.H HX.out
 have E_l:=AA (hb.1 rfl);clear hb
 go_wp2_with fail
 go_ret
 exact Xo S.out.H (by
  have e_op:=E_op.out;have e_a:=E_a.out;have e_l:=E_l.out
  cases x;cases y;congr)
def jq (l l':List DL) (w:World) (n:Nat) (i:Value) (wr:World):Prop:= ∃k:Nat,k≤n∧i= .int .i64 k∧Below w.heap.size w wr∧l.take k=l'.take k
theorem uU (A A':Option Addr) (n n' c c' hi hi':Nat) (l l':List DL) (w:World) (h:(JA.sl false).R w 0 hi [.slice A n c] l) (h':(JA.sl false).R w 0 hi' [.slice A' n' c'] l') (hhi:hi≤w.heap.size) (Mt:hi'≤w.heap.size) (hle:l.length≤2147483647∧ ∀x∈l,WK x):
 Calls prog 137 #[.slice A n c,.slice A' n' c'] w (IV l l' w):=by
 have hn:=EI h
 have hn':=EI h'
 have hlen:n≤2147483647:=by rw [hn];exact hle.1
 by_cases hnn:n=n'
 ·subst hnn
  have YS:=AA hle.2
  have Hh:=AA h
  have nM:=AA h'
  have Hn:=AA hn
  have TY:=AA hn'
  clear h h' hn hn' hle
  go_enter func137,ntmps137
  go_wp2_with fail
  go_loopw [5] (fun i wr=>jq l l' w n i wr) (fun i _=>n-(intOf i).toNat)
  case atStart=>exact⟨0,by omega,rfl,Below.refl _ _,rfl⟩
  case round=>
   obtain⟨k,hk,rfl,hbel,hR⟩:=hrel
   have HR:=AA hR;clear hR
   have JR:=AA hbel;clear hbel
   by_cases hlt:k<n
   ·obtain⟨x,hx⟩: ∃x,l[k]?=some x:=⟨_,List.getElem?_eq_getElem (by rw [←Hn.out];exact hlt)⟩
    obtain⟨y,hy⟩: ∃y,l'[k]?=some y:=⟨_,List.getElem?_eq_getElem (by rw [←TY.out];exact hlt)⟩
    obtain⟨b,o,Sw,Rs,rfl,_,ABf,hc0,hc1,hc2,YN,TR⟩:=Tx ((JA.sl false).below Hh.out JR.out hhi) hx
    obtain⟨b',o',jm,jo,rfl,_,wS,hd0,hd1,hd2,uT,jl⟩:=Tx ((JA.sl false).below nM.out JR.out Mt) hy
    have hsz:w.heap.size≤wr.heap.size:=JR.out.size
    have hs1:b<wr.heap.size:=by omega
    have hs2:b'<wr.heap.size:=by omega
    have hs3:hi≤wr.heap.size:=by omega
    have hs4:hi'≤wr.heap.size:=by omega
    have hi0:(0:Int)≤k:=by omega
    have HT:Hid (x=y→l.take (k+1)=l'.take (k+1)):=AA (fun e=>by rw [List.take_add_one,List.take_add_one,HR.out,hx,hy,e])
    have HF:Hid (x≠y→l≠l'):=AA (fun e he=>e (by rw [he,hy] at hx;exact(Option.some.inj hx).symm))
    have HE:Hid (JA.R wr 0 hi [.int .u8 (x.op.toNat:Int),.int .i64 x.a,.slice Sw x.l.length Rs] x):=AA (Dw.2 ⟨.slice Sw x.l.length Rs,rfl,YN,TR⟩)
    have wT:Hid (JA.R wr 0 hi' [.int .u8 (y.op.toNat:Int),.int .i64 y.a,.slice jm y.l.length jo] y):=AA (Dw.2 ⟨.slice jm y.l.length jo,rfl,uT,jl⟩)
    have HC:=AA (fun W (hW:Below wr.heap.size wr W)=>zP _ _ hi hi' x y W (JA.below HE.out hW hs3) (JA.below wT.out hW hs4) (Nat.le_trans hs3 hW.size) (Nat.le_trans hs4 hW.size) (YS.out x (List.mem_of_getElem? hx)))
    clear hx hy HE wT YN uT TR jl
    by_cases hq:x=y
    case' pos=>
     have HT2:=AA (HT.out hq)
     have jr:=AA (fun W hW=>VW (HC.out W hW) hq)
    case' neg=>
     have y9:=AA (HF.out hq)
     have jr:=AA (fun W hW=>Sc (HC.out W hW) hq)
    all_goals
     clear hq HT HF HC
     go_wp2_with fail
     go_region_held3 (fun w'=>w'.cell? ⟨b,o+k*3,none⟩=some (.int .u8 (x.op.toNat:Int))∧w'.cell? ⟨b,o+k*3+1,none⟩=some (.int .i64 x.a)∧w'.cell? ⟨b,o+k*3+2,none⟩=some (.slice Sw x.l.length Rs)∧w'.cell? ⟨b',o'+k*3,none⟩=some (.int .u8 (y.op.toNat:Int))∧w'.cell? ⟨b',o'+k*3+1,none⟩=some (.int .i64 y.a)∧w'.cell? ⟨b',o'+k*3+2,none⟩=some (.slice jm y.l.length jo)∧Below wr.heap.size wr w')
      (first | exact⟨hc0,hc1,hc2,hd0,hd1,hd2,Below.refl _ _⟩ | exact⟨hc0,hc1,hc2,hd0,hd1,hd2,(Below.refl _ _).drew⟩ | exact⟨CZ hS2 hs1 hc0,CZ hS2 hs1 hc1,CZ hS2 hs1 hc2,CZ hS2 hs2 hd0,CZ hS2 hs2 hd1,CZ hS2 hs2 hd2,hS2⟩)
      (first | (go_at_call 182;refine(jr.out _ (by exact(Below.refl _ _).drew)).mono ?_;rintro e W1 ⟨hS1,rfl⟩;have hS2:Below wr.heap.size wr W1:=((Below.refl wr.heap.size wr).drew).trans hS1;clear hS1))
     have eH:Hid (Below w.heap.size w _):=AA (JR.out.trans (hS2.mono hsz))
     clear hS2 hc0 hc1 hc2 hd0 hd1 hd2
     go_wp2_with fail
    ·go_ret
     exact⟨eH.out,false,rfl,by simp only [Bool.false_eq_true,false_iff];exact y9.out⟩
    ·exact⟨⟨k+1,by omega,by go_num,eH.out,HT2.out⟩,by simp [intOf];omega⟩
   ·obtain rfl:k=n:=by omega
    have hT:Hid (l=l'):=by
     have:=HR.out
     rw [List.take_of_length_le (by rw [Hn.out];exact Nat.le_refl _),List.take_of_length_le (by rw [TY.out];exact Nat.le_refl _)] at this
     exact AA this
    go_wp2_with fail
    go_ret
    exact⟨JR.out,true,rfl,by simp only [true_iff];exact hT.out⟩
 ·have hF:Hid (l≠l'):=AA (fun h=>hnn (by rw [hn,hn',h]))
  have hne:((n:Int) !=n')=true:=by simp;omega
  clear h h' hn hn' hle
  go_enter func137,ntmps137
  go_wp2_with fail
  go_ret
  exact⟨Below.refl _ _,false,rfl,by simp only [Bool.false_eq_true,false_iff];exact hF.out⟩
theorem Zd (cs cs':List Value) (hi hi':Nat) (x y:GR) (w:World) (h:Rt.R w 0 hi cs x) (h':Rt.R w 0 hi' cs' y) (hhi:hi≤w.heap.size) (Mt:hi'≤w.heap.size) (hle:xU x):
 Calls prog 84 #[.agg cs.toArray,.agg cs'.toArray] w (IV x y w):=by
 obtain⟨Mi,rfl,kR,OG,JN⟩:=LG.1 h
 obtain⟨v_code',rfl,uV,Xp,PY⟩:=LG.1 h'
 obtain⟨JO,JB,rfl⟩:=AX JN
 obtain⟨Pb,Pf,rfl⟩:=AX PY
 have zQ:=AA JN;have uW:=AA PY
 have YS:=AA hle
 clear h h' hle kR uV OG Xp JN PY
 try unfold bv
 try unfold uv
 refine(Bool.eq_false_or_eq_true (x.t==y.t)).elim (fun s0=> ?_) (fun hne=> ?_)
 refine(Bool.eq_false_or_eq_true (x.loc.toList==y.loc.toList)).elim (fun s1=> ?_) (fun hne=> ?_)
 rotate_left
 iterate 2
  ·have HX:Hid (x≠y):=AA (fun he=>by subst he;simp at hne)
   go_enter func84,ntmps84
   go_wp2_with fail
   go_ret
   exact NM PX HX.out
 have E_t:=AA (VX int_ne' s0)
 have ABg:=AA (VX Ol s1)
 go_enter func84,ntmps84
 go_wp2_with fail
 generalize hw:(w.alloc _).alloc _=w1
 have S:Hid (Zy 56 w w1 [.int .i64 x.t,.string x.loc,.slice JO x.code.length JB] [.int .i64 y.t,.string y.loc,.slice Pb y.code.length Pf] fun _=>True):=by rw [←hw];exact AA (Zy.init _ _ _ _)
 clear hw
 refine(uU JO Pb x.code.length y.code.length JB Pf hi hi' x.code y.code w1 (Rd.below zQ.out S.out.H hhi) (Rd.below uW.out S.out.H Mt) (Nat.le_trans hhi S.out.H.size) (Nat.le_trans Mt S.out.H.size) YS.out).mono ?_
 rintro e w2 ⟨hbe,b,rfl,hb⟩
 replace S:=AA (S.out.below hbe)
 clear hbe
 cases b
 case false=>
  have HX:Hid (x≠y):=AA (fun he=>by cases hb.2 (by rw [he]))
  clear hb
  go_wp2_with fail
  go_ret
  exact NM S.out.H HX.out
 have zR:=AA (hb.1 rfl);clear hb
 go_wp2_with fail
 go_ret
 exact Xo S.out.H (by
  have e_t:=E_t.out;have e_loc:=ABg.out;have e_code:=zR.out
  cases x;cases y;congr)
def VY (l l':List GR) (w:World) (n:Nat) (i:Value) (wr:World):Prop:= ∃k:Nat,k≤n∧i= .int .i64 k∧Below w.heap.size w wr∧l.take k=l'.take k
theorem Xq (A A':Option Addr) (n n' c c' hi hi':Nat) (l l':List GR) (w:World) (h:(Rt.sl false).R w 0 hi [.slice A n c] l) (h':(Rt.sl false).R w 0 hi' [.slice A' n' c'] l') (hhi:hi≤w.heap.size) (Mt:hi'≤w.heap.size) (hle:l.length≤2147483647∧ ∀x∈l,xU x):
 Calls prog 47 #[.slice A n c,.slice A' n' c'] w (IV l l' w):=by
 have hn:=EI h
 have hn':=EI h'
 have hlen:n≤2147483647:=by rw [hn];exact hle.1
 by_cases hnn:n=n'
 ·subst hnn
  have YS:=AA hle.2
  have Hh:=AA h
  have nM:=AA h'
  have Hn:=AA hn
  have TY:=AA hn'
  clear h h' hn hn' hle
  go_enter func47,ntmps47
  go_wp2_with fail
  go_loopw [5] (fun i wr=>VY l l' w n i wr) (fun i _=>n-(intOf i).toNat)
  case atStart=>exact⟨0,by omega,rfl,Below.refl _ _,rfl⟩
  case round=>
   obtain⟨k,hk,rfl,hbel,hR⟩:=hrel
   have HR:=AA hR;clear hR
   have JR:=AA hbel;clear hbel
   by_cases hlt:k<n
   ·obtain⟨x,hx⟩: ∃x,l[k]?=some x:=⟨_,List.getElem?_eq_getElem (by rw [←Hn.out];exact hlt)⟩
    obtain⟨y,hy⟩: ∃y,l'[k]?=some y:=⟨_,List.getElem?_eq_getElem (by rw [←TY.out];exact hlt)⟩
    obtain⟨b,o,JO,JB,rfl,_,ABf,hc0,hc1,hc2,kR,OG,JN⟩:=UQ ((Rt.sl false).below Hh.out JR.out hhi) hx
    obtain⟨b',o',Pb,Pf,rfl,_,wS,hd0,hd1,hd2,uV,Xp,PY⟩:=UQ ((Rt.sl false).below nM.out JR.out Mt) hy
    have hsz:w.heap.size≤wr.heap.size:=JR.out.size
    have hs1:b<wr.heap.size:=by omega
    have hs2:b'<wr.heap.size:=by omega
    have hs3:hi≤wr.heap.size:=by omega
    have hs4:hi'≤wr.heap.size:=by omega
    have hi0:(0:Int)≤k:=by omega
    have HT:Hid (x=y→l.take (k+1)=l'.take (k+1)):=AA (fun e=>by rw [List.take_add_one,List.take_add_one,HR.out,hx,hy,e])
    have HF:Hid (x≠y→l≠l'):=AA (fun e he=>e (by rw [he,hy] at hx;exact(Option.some.inj hx).symm))
    have HE:Hid (Rt.R wr 0 hi [.int .i64 x.t,.string x.loc,.slice JO x.code.length JB] x):=AA (LG.2 ⟨.slice JO x.code.length JB,rfl,kR,OG,JN⟩)
    have wT:Hid (Rt.R wr 0 hi' [.int .i64 y.t,.string y.loc,.slice Pb y.code.length Pf] y):=AA (LG.2 ⟨.slice Pb y.code.length Pf,rfl,uV,Xp,PY⟩)
    have HC:=AA (fun W (hW:Below wr.heap.size wr W)=>Zd _ _ hi hi' x y W (Rt.below HE.out hW hs3) (Rt.below wT.out hW hs4) (Nat.le_trans hs3 hW.size) (Nat.le_trans hs4 hW.size) (YS.out x (List.mem_of_getElem? hx)))
    clear hx hy HE wT kR uV OG Xp JN PY
    by_cases hq:x=y
    case' pos=>
     have HT2:=AA (HT.out hq)
     have jr:=AA (fun W hW=>VW (HC.out W hW) hq)
    case' neg=>
     have y9:=AA (HF.out hq)
     have jr:=AA (fun W hW=>Sc (HC.out W hW) hq)
    all_goals
     clear hq HT HF HC
     go_wp2_with fail
     go_region_held3 (fun w'=>w'.cell? ⟨b,o+k*3,none⟩=some (.int .i64 x.t)∧w'.cell? ⟨b,o+k*3+1,none⟩=some (.string x.loc)∧w'.cell? ⟨b,o+k*3+2,none⟩=some (.slice JO x.code.length JB)∧w'.cell? ⟨b',o'+k*3,none⟩=some (.int .i64 y.t)∧w'.cell? ⟨b',o'+k*3+1,none⟩=some (.string y.loc)∧w'.cell? ⟨b',o'+k*3+2,none⟩=some (.slice Pb y.code.length Pf)∧Below wr.heap.size wr w')
      (first | exact⟨hc0,hc1,hc2,hd0,hd1,hd2,Below.refl _ _⟩ | exact⟨hc0,hc1,hc2,hd0,hd1,hd2,(Below.refl _ _).drew⟩ | exact⟨CZ hS2 hs1 hc0,CZ hS2 hs1 hc1,CZ hS2 hs1 hc2,CZ hS2 hs2 hd0,CZ hS2 hs2 hd1,CZ hS2 hs2 hd2,hS2⟩)
      (first | (go_at_call 84;refine(jr.out _ (by exact(Below.refl _ _).drew)).mono ?_;rintro e W1 ⟨hS1,rfl⟩;have hS2:Below wr.heap.size wr W1:=((Below.refl wr.heap.size wr).drew).trans hS1;clear hS1))
     have eH:Hid (Below w.heap.size w _):=AA (JR.out.trans (hS2.mono hsz))
     clear hS2 hc0 hc1 hc2 hd0 hd1 hd2
     go_wp2_with fail
    ·go_ret
     exact⟨eH.out,false,rfl,by simp only [Bool.false_eq_true,false_iff];exact y9.out⟩
    ·exact⟨⟨k+1,by omega,by go_num,eH.out,HT2.out⟩,by simp [intOf];omega⟩
   ·obtain rfl:k=n:=by omega
    have hT:Hid (l=l'):=by
     have:=HR.out
     rw [List.take_of_length_le (by rw [Hn.out];exact Nat.le_refl _),List.take_of_length_le (by rw [TY.out];exact Nat.le_refl _)] at this
     exact AA this
    go_wp2_with fail
    go_ret
    exact⟨JR.out,true,rfl,by simp only [true_iff];exact hT.out⟩
 ·have hF:Hid (l≠l'):=AA (fun h=>hnn (by rw [hn,hn',h]))
  have hne:((n:Int) !=n')=true:=by simp;omega
  clear h h' hn hn' hle
  go_enter func47,ntmps47
  go_wp2_with fail
  go_ret
  exact⟨Below.refl _ _,false,rfl,by simp only [Bool.false_eq_true,false_iff];exact hF.out⟩
theorem uX (cs cs':List Value) (hi hi':Nat) (x y:EU) (w:World) (h:JC.R w 0 hi cs x) (h':JC.R w 0 hi' cs' y) (hhi:hi≤w.heap.size) (Mt:hi'≤w.heap.size) (hle:Yu x):
 Calls prog 85 #[.agg cs.toArray,.agg cs'.toArray] w (IV x y w):=by
 obtain⟨rF,rfl,OH,aC⟩:=Jg.1 h
 obtain⟨v_b',rfl,Xr,jv⟩:=Jg.1 h'
 obtain⟨Vh,Tz,rfl⟩:=AX aC
 obtain⟨jw,jy,rfl⟩:=AX jv
 have H_b:=AA aC;have H_b':=AA jv
 have YS:=AA hle
 clear h h' hle OH Xr aC jv
 try unfold bv
 try unfold uv
 refine(Bool.eq_false_or_eq_true (x.at_==y.at_)).elim (fun s0=> ?_) (fun hne=> ?_)
 rotate_left
 iterate 1
  ·have HX:Hid (x≠y):=AA (fun he=>by subst he;simp at hne)
   go_enter func85,ntmps85
   go_wp2_with fail
   go_ret
   exact NM PX HX.out
 have ABh:=AA (VX int_ne' s0)
 go_enter func85,ntmps85
 go_wp2_with fail
 generalize hw:(w.alloc _).alloc _=w1
 have S:Hid (Zy 59 w w1 [.int .i64 x.at_,.slice Vh x.b.length Tz] [.int .i64 y.at_,.slice jw y.b.length jy] fun _=>True):=by rw [←hw];exact AA (Zy.init _ _ _ _)
 clear hw
 refine(nL Vh jw x.b.length y.b.length Tz jy hi hi' x.b y.b w1 (Rd.below H_b.out S.out.H hhi) (Rd.below H_b'.out S.out.H Mt) (by have:=YS.out;unfold Yu at this;omega)).mono ?_
 rintro e w2 ⟨hbe,b,rfl,hb⟩
 replace S:=AA (S.out.below hbe)
 clear hbe
 cases b
 case false=>
  have HX:Hid (x≠y):=AA (fun he=>by cases hb.2 (by rw [he]))
  clear hb
  go_wp2_with fail
  go_ret
  exact NM S.out.H HX.out
 have E_b:=AA (hb.1 rfl);clear hb
 go_wp2_with fail
 go_ret
 exact Xo S.out.H (by
  have e_at_:=ABh.out;have e_b:=E_b.out
  cases x;cases y;congr)
def bZ (l l':List EU) (w:World) (n:Nat) (i:Value) (wr:World):Prop:= ∃k:Nat,k≤n∧i= .int .i64 k∧Below w.heap.size w wr∧l.take k=l'.take k
theorem pF (A A':Option Addr) (n n' c c' hi hi':Nat) (l l':List EU) (w:World) (h:(JC.sl false).R w 0 hi [.slice A n c] l) (h':(JC.sl false).R w 0 hi' [.slice A' n' c'] l') (hhi:hi≤w.heap.size) (Mt:hi'≤w.heap.size) (hle:l.length≤2147483647∧ ∀x∈l,Yu x):
 Calls prog 48 #[.slice A n c,.slice A' n' c'] w (IV l l' w):=by
 have hn:=EI h
 have hn':=EI h'
 have hlen:n≤2147483647:=by rw [hn];exact hle.1
 by_cases hnn:n=n'
 ·subst hnn
  have YS:=AA hle.2
  have Hh:=AA h
  have nM:=AA h'
  have Hn:=AA hn
  have TY:=AA hn'
  clear h h' hn hn' hle
  go_enter func48,ntmps48
  go_wp2_with fail
  go_loopw [5] (fun i wr=>bZ l l' w n i wr) (fun i _=>n-(intOf i).toNat)
  case atStart=>exact⟨0,by omega,rfl,Below.refl _ _,rfl⟩
  case round=>
   obtain⟨k,hk,rfl,hbel,hR⟩:=hrel
   have HR:=AA hR;clear hR
   have JR:=AA hbel;clear hbel
   by_cases hlt:k<n
   ·obtain⟨x,hx⟩: ∃x,l[k]?=some x:=⟨_,List.getElem?_eq_getElem (by rw [←Hn.out];exact hlt)⟩
    obtain⟨y,hy⟩: ∃y,l'[k]?=some y:=⟨_,List.getElem?_eq_getElem (by rw [←TY.out];exact hlt)⟩
    obtain⟨b,o,Vh,Tz,rfl,_,ABf,hc0,hc1,OH,aC⟩:=NW ((JC.sl false).below Hh.out JR.out hhi) hx
    obtain⟨b',o',jw,jy,rfl,_,wS,hd0,hd1,Xr,jv⟩:=NW ((JC.sl false).below nM.out JR.out Mt) hy
    have hsz:w.heap.size≤wr.heap.size:=JR.out.size
    have hs1:b<wr.heap.size:=by omega
    have hs2:b'<wr.heap.size:=by omega
    have hs3:hi≤wr.heap.size:=by omega
    have hs4:hi'≤wr.heap.size:=by omega
    have hi0:(0:Int)≤k:=by omega
    have HT:Hid (x=y→l.take (k+1)=l'.take (k+1)):=AA (fun e=>by rw [List.take_add_one,List.take_add_one,HR.out,hx,hy,e])
    have HF:Hid (x≠y→l≠l'):=AA (fun e he=>e (by rw [he,hy] at hx;exact(Option.some.inj hx).symm))
    have HE:Hid (JC.R wr 0 hi [.int .i64 x.at_,.slice Vh x.b.length Tz] x):=AA (Jg.2 ⟨.slice Vh x.b.length Tz,rfl,OH,aC⟩)
    have wT:Hid (JC.R wr 0 hi' [.int .i64 y.at_,.slice jw y.b.length jy] y):=AA (Jg.2 ⟨.slice jw y.b.length jy,rfl,Xr,jv⟩)
    have HC:=AA (fun W (hW:Below wr.heap.size wr W)=>uX _ _ hi hi' x y W (JC.below HE.out hW hs3) (JC.below wT.out hW hs4) (Nat.le_trans hs3 hW.size) (Nat.le_trans hs4 hW.size) (YS.out x (List.mem_of_getElem? hx)))
    clear hx hy HE wT OH Xr aC jv
    by_cases hq:x=y
    case' pos=>
     have HT2:=AA (HT.out hq)
     have jr:=AA (fun W hW=>VW (HC.out W hW) hq)
    case' neg=>
     have y9:=AA (HF.out hq)
     have jr:=AA (fun W hW=>Sc (HC.out W hW) hq)
    all_goals
     clear hq HT HF HC
     go_wp2_with fail
     go_region_held3 (fun w'=>w'.cell? ⟨b,o+k*2,none⟩=some (.int .i64 x.at_)∧w'.cell? ⟨b,o+k*2+1,none⟩=some (.slice Vh x.b.length Tz)∧w'.cell? ⟨b',o'+k*2,none⟩=some (.int .i64 y.at_)∧w'.cell? ⟨b',o'+k*2+1,none⟩=some (.slice jw y.b.length jy)∧Below wr.heap.size wr w')
      (first | exact⟨hc0,hc1,hd0,hd1,Below.refl _ _⟩ | exact⟨hc0,hc1,hd0,hd1,(Below.refl _ _).drew⟩ | exact⟨CZ hS2 hs1 hc0,CZ hS2 hs1 hc1,CZ hS2 hs2 hd0,CZ hS2 hs2 hd1,hS2⟩)
      (first | (go_at_call 85;refine(jr.out _ (by exact(Below.refl _ _).drew)).mono ?_;rintro e W1 ⟨hS1,rfl⟩;have hS2:Below wr.heap.size wr W1:=((Below.refl wr.heap.size wr).drew).trans hS1;clear hS1))
     have eH:Hid (Below w.heap.size w _):=AA (JR.out.trans (hS2.mono hsz))
     clear hS2 hc0 hc1 hd0 hd1
     go_wp2_with fail
    ·go_ret
     exact⟨eH.out,false,rfl,by simp only [Bool.false_eq_true,false_iff];exact y9.out⟩
    ·exact⟨⟨k+1,by omega,by go_num,eH.out,HT2.out⟩,by simp [intOf];omega⟩
   ·obtain rfl:k=n:=by omega
    have hT:Hid (l=l'):=by
     have:=HR.out
     rw [List.take_of_length_le (by rw [Hn.out];exact Nat.le_refl _),List.take_of_length_le (by rw [TY.out];exact Nat.le_refl _)] at this
     exact AA this
    go_wp2_with fail
    go_ret
    exact⟨JR.out,true,rfl,by simp only [true_iff];exact hT.out⟩
 ·have hF:Hid (l≠l'):=AA (fun h=>hnn (by rw [hn,hn',h]))
  have hne:((n:Int) !=n')=true:=by simp;omega
  clear h h' hn hn' hle
  go_enter func48,ntmps48
  go_wp2_with fail
  go_ret
  exact⟨Below.refl _ _,false,rfl,by simp only [Bool.false_eq_true,false_iff];exact hF.out⟩
theorem j3 (cs cs':List Value) (hi hi':Nat) (x y:AP) (w:World) (h:JQ.R w 0 hi cs x) (h':JQ.R w 0 hi' cs' y) (hhi:hi≤w.heap.size) (Mt:hi'≤w.heap.size) (hle:vY x):
 Calls prog 12 #[.agg cs.toArray,.agg cs'.toArray] w (IV x y w):=by
 obtain⟨NZ,MQ,LH,OI,Mx,Jh,rfl,LM,LP,LQ,Na,QL,Qh,Qi,Nb⟩:=EK.1 h
 obtain⟨ABi,ABj,ABk,v_fns',v_dat',v_exps',rfl,VZ,Va,Vb,pG,uY,bf,bg,Xt⟩:=EK.1 h'
 obtain⟨fP,XA,rfl⟩:=AX LM
 obtain⟨Ze,Zf,rfl⟩:=AX VZ
 have uZ:=AA LM;have pI:=AA VZ
 obtain⟨fQ,XB,rfl⟩:=AX LP
 obtain⟨Zg,Zh,rfl⟩:=AX Va
 have uf:=AA LP;have pJ:=AA Va
 obtain⟨fT,XC,rfl⟩:=AX LQ
 obtain⟨Zi,Zj,rfl⟩:=AX Vb
 have ug:=AA LQ;have pK:=AA Vb
 obtain⟨wU,ku,rfl⟩:=AX Qh
 obtain⟨pO,pQ,rfl⟩:=AX bf
 have ABl:=AA Qh;have zS:=AA bf
 obtain⟨wV,lC,rfl⟩:=AX Qi
 obtain⟨pR,pU,rfl⟩:=AX bg
 have ABm:=AA Qi;have zT:=AA bg
 obtain⟨pV,aD,rfl⟩:=AX Nb
 obtain⟨fU,fV,rfl⟩:=AX Xt
 have zU:=AA Nb;have uh:=AA Xt
 have YS:=AA hle
 clear h h' hle LM VZ LP Va LQ Vb Na pG QL uY Qh bf Qi bg Nb Xt
 try unfold bv
 try unfold uv
 refine(Bool.eq_false_or_eq_true (x.first==y.first)).elim (fun s0=> ?_) (fun hne=> ?_)
 refine(Bool.eq_false_or_eq_true (x.most==y.most)).elim (fun s1=> ?_) (fun hne=> ?_)
 rotate_left
 iterate 2
  ·have HX:Hid (x≠y):=AA (fun he=>by subst he;simp at hne)
   go_enter func12,ntmps12
   go_wp2_with fail
   go_ret
   exact NM PX HX.out
 have uj:=AA (VX int_ne' s0)
 have zV:=AA (VX int_ne' s1)
 go_enter func12,ntmps12
 go_wp2_with fail
 generalize hw:(w.alloc _).alloc _=w1
 have S:Hid (Zy 29 w w1 [.slice fP x.types.length XA,.slice fQ x.hosts.length XB,.slice fT x.globs.length XC,.int .i64 x.first,.int .i64 x.most,.slice wU x.fns.length ku,.slice wV x.dat.length lC,.slice pV x.AU.length aD] [.slice Ze y.types.length Zf,.slice Zg y.hosts.length Zh,.slice Zi y.globs.length Zj,.int .i64 y.first,.int .i64 y.most,.slice pO y.fns.length pQ,.slice pR y.dat.length pU,.slice fU y.AU.length fV] fun _=>True):=by rw [←hw];exact AA (Zy.init _ _ _ _)
 clear hw
 refine(sV fP Ze x.types.length y.types.length XA Zf hi hi' x.types y.types w1 (Rd.below uZ.out S.out.H hhi) (Rd.below pI.out S.out.H Mt) (by have:=YS.out.1;omega)).mono ?_
 rintro e w2 ⟨hbe,b,rfl,hb⟩
 replace S:=AA (S.out.below hbe)
 clear hbe
 cases b
 case false=>
  have HX:Hid (x≠y):=AA (fun he=>by cases hb.2 (by rw [he]))
  clear hb
  go_wp2_with fail
  go_ret
  exact NM S.out.H HX.out
 have um:=AA (hb.1 rfl);clear hb
 have hc:=S.out.b.q 1 rfl;have hd:=S.out.r.q 1 rfl
 go_wp2_with fail
 clear hc hd
 refine(eT fQ Zg x.hosts.length y.hosts.length XB Zh hi hi' x.hosts y.hosts w2 (Rd.below uf.out S.out.H hhi) (Rd.below pJ.out S.out.H Mt) (by have:=YS.out.2.1;omega)).mono ?_
 rintro e w3 ⟨hbe,b,rfl,hb⟩
 replace S:=AA (S.out.below hbe)
 clear hbe
 cases b
 case false=>
  have HX:Hid (x≠y):=AA (fun he=>by cases hb.2 (by rw [he]))
  clear hb
  go_wp2_with fail
  go_ret
  exact NM S.out.H HX.out
 have uo:=AA (hb.1 rfl);clear hb
 have hc:=S.out.b.q 2 rfl;have hd:=S.out.r.q 2 rfl
 go_wp2_with fail
 clear hc hd
 refine(aj fT Zi x.globs.length y.globs.length XC Zj hi hi' x.globs y.globs w3 (Rd.below ug.out S.out.H hhi) (Rd.below pK.out S.out.H Mt) (by have:=YS.out.2.2.1;omega)).mono ?_
 rintro e w4 ⟨hbe,b,rfl,hb⟩
 replace S:=AA (S.out.below hbe)
 clear hbe
 cases b
 case false=>
  have HX:Hid (x≠y):=AA (fun he=>by cases hb.2 (by rw [he]))
  clear hb
  go_wp2_with fail
  go_ret
  exact NM S.out.H HX.out
 have uq:=AA (hb.1 rfl);clear hb
 have hc:=S.out.b.q 5 rfl;have hd:=S.out.r.q 5 rfl
 go_wp2_with fail
 clear hc hd
 refine(Xq wU pO x.fns.length y.fns.length ku pQ hi hi' x.fns y.fns w4 (Rd.below ABl.out S.out.H hhi) (Rd.below zS.out S.out.H Mt) (Nat.le_trans hhi S.out.H.size) (Nat.le_trans Mt S.out.H.size) YS.out.2.2.2.1).mono ?_
 rintro e w5 ⟨hbe,b,rfl,hb⟩
 replace S:=AA (S.out.below hbe)
 clear hbe
 cases b
 case false=>
  have HX:Hid (x≠y):=AA (fun he=>by cases hb.2 (by rw [he]))
  clear hb
  go_wp2_with fail
  go_ret
  exact NM S.out.H HX.out
 have ABn:=AA (hb.1 rfl);clear hb
 have hc:=S.out.b.q 6 rfl;have hd:=S.out.r.q 6 rfl
 go_wp2_with fail
 clear hc hd
 refine(pF wV pR x.dat.length y.dat.length lC pU hi hi' x.dat y.dat w5 (Rd.below ABm.out S.out.H hhi) (Rd.below zT.out S.out.H Mt) (Nat.le_trans hhi S.out.H.size) (Nat.le_trans Mt S.out.H.size) YS.out.2.2.2.2.1).mono ?_
 rintro e w6 ⟨hbe,b,rfl,hb⟩
 replace S:=AA (S.out.below hbe)
 clear hbe
 cases b
 case false=>
  have HX:Hid (x≠y):=AA (fun he=>by cases hb.2 (by rw [he]))
  clear hb
  go_wp2_with fail
  go_ret
  exact NM S.out.H HX.out
 have ABo:=AA (hb.1 rfl);clear hb
 have hc:=S.out.b.q 7 rfl;have hd:=S.out.r.q 7 rfl
 go_wp2_with fail
 clear hc hd
 refine(ak pV fU x.AU.length y.AU.length aD fV hi hi' x.AU y.AU w6 (Rd.below zU.out S.out.H hhi) (Rd.below uh.out S.out.H Mt) (by have:=YS.out.2.2.2.2.2;omega)).mono ?_
 rintro e w7 ⟨hbe,b,rfl,hb⟩
 replace S:=AA (S.out.below hbe)
 clear hbe
 cases b
 case false=>
  have HX:Hid (x≠y):=AA (fun he=>by cases hb.2 (by rw [he]))
  clear hb
  go_wp2_with fail
  go_ret
  exact NM S.out.H HX.out
 have zW:=AA (hb.1 rfl);clear hb
 go_wp2_with fail
 go_ret
 exact Xo S.out.H (by
  have e_types:=um.out;have e_hosts:=uo.out;have e_globs:=uq.out;have e_first:=uj.out;have e_most:=zV.out;have e_fns:=ABn.out;have e_dat:=ABo.out;have e_exps:=zW.out
  cases x;cases y;congr)
end Go.Proofs.YtejbcledkhioeaaGreatDoor
