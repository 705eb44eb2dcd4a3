/- Part 50 of the proof: EqB -/
import Derived.Deep.RegionHeld3
import Derived.Test.YtlagonfamllgjaaGreatDoorK06
import Derived.Test.YtlagonfamllgjaaGreatDoorK10
namespace Go.Proofs.YtlagonfamllgjaaGreatDoor
set_option linter.unusedVariables false
set_option linter.unusedSimpArgs false
set_option maxRecDepth 100000
set_option maxHeartbeats 4000000
open Go.RowKit Tryz
theorem M5 {P:Program} {f:FuncId} {args:Array Value} {w:World} {α:Type} {x y:α} (h:Calls P f args w (Dw x y w)) (hq:x=y):Calls P f args w fun e w'=>Below w.heap.size w w'∧e= .returned (.bool true):=
 h.mono fun e w' ⟨h1,b,h2,h3⟩=>⟨h1,by rw [h2,h3.2 hq]⟩
theorem K3 {P:Program} {f:FuncId} {args:Array Value} {w:World} {α:Type} {x y:α} (h:Calls P f args w (Dw x y w)) (hq:x≠y):Calls P f args w fun e w'=>Below w.heap.size w w'∧e= .returned (.bool false):=
 h.mono fun e w' ⟨h1,b,h2,h3⟩=>⟨h1,by cases b with | false=>exact h2 | true=>exact absurd (h3.1 rfl) hq⟩
theorem Az {w w':World} {b:Nat} {o:Nat} {v:Value} (h:Below w.heap.size w w') (hb:b<w.heap.size) (hc:w.cell? ⟨b,o,none⟩=some v):w'.cell? ⟨b,o,none⟩=some v:=by rw [h.cell hb];exact hc
theorem GI {α:Type} {x y:α} {w w':World} (h:Below w.heap.size w w') (hn:x≠y):Dw x y w (.returned (.bool false)) w':=⟨h,false,rfl,by simp only [Bool.false_eq_true,false_iff];exact hn⟩
theorem Qa {α:Type} {x y:α} {w w':World} (h:Below w.heap.size w w') (hn:x=y):Dw x y w (.returned (.bool true)) w':=⟨h,true,rfl,by simp only [true_iff];exact hn⟩
theorem K4 {α:Type} [DecidableEq α] {a b:α} {t:Bool} (f:a≠b→t=false) (s:t=true):a=b:=Decidable.byContradiction fun h=>by rw [f h] at s;cases s
theorem JN {w:World} {o o':Obj}:Below w.heap.size w ((w.alloc o).alloc o'):=((Below.refl _ _).alloc (Nat.le_refl _) _).alloc (by simp) _
theorem ABa (cs cs':List Value) (hi hi':Nat) (x y:Ad) (w:World) (h:Ei.R w 0 hi cs x) (h':Ei.R w 0 hi' cs' y) (hhi:hi≤w.heap.size) (El:hi'≤w.heap.size) (hle:O7 x):
 Calls prog 125 #[.agg cs.toArray,.agg cs'.toArray] w (Dw x y w):=by
 obtain⟨Y_,rfl,Oc,KQ⟩:=DL.1 h
 obtain⟨v_l',rfl,wY,jD⟩:=DL.1 h'
 obtain⟨Ga,GJ,rfl⟩:=AB KQ
 obtain⟨YK,YL,rfl⟩:=AB jD
 have lJ:=AA KQ;have H_l':=AA jD
 have Gm:=AA hle
 clear h h' hle Oc wY KQ jD
 try unfold bv
 try unfold uv
 refine(Bool.eq_false_or_eq_true ((x.op.toNat:Int)==(y.op.toNat:Int))).elim (fun s0=> ?_) (fun hne=> ?_)
 refine(Bool.eq_false_or_eq_true (x.a==y.a)).elim (fun s1=> ?_) (fun hne=> ?_)
 rotate_left
 iterate 2
  ·have HX:Hid (x≠y):=AA (fun he=>by subst he;simp at hne)
   go_enter func125,ntmps125
   go_wp2_with fail
   go_ret
   exact GI JN HX.out
 have E_op:=AA (K4 xZ s0)
 have E_a:=AA (K4 int_ne' s1)
 go_enter func125,ntmps125
 go_wp2_with fail
 generalize hw:(w.alloc _).alloc _=w1
 have S:Hid (JE 122 w w1 [.int .u8 (x.op.toNat:Int),.int .i64 x.a,.slice Ga x.l.length GJ] [.int .u8 (y.op.toNat:Int),.int .i64 y.a,.slice YK y.l.length YL] fun _=>True):=by rw [←hw];exact AA (JE.init _ _ _ _)
 clear hw
 refine(bS Ga YK x.l.length y.l.length GJ YL hi hi' x.l y.l w1 (Rd.below lJ.out S.out.H hhi) (Rd.below H_l'.out S.out.H El) (by have:=Gm.out;unfold O7 at this;omega)).mono ?_
 rintro e w2 ⟨hbe,b,rfl,hb⟩
 replace S:=AA (S.out.below hbe)
 clear hbe
 cases b
 case false=>
  have HX:Hid (x≠y):=AA (fun he=>by cases hb.2 (by rw [he]))
  clear hb
  go_wp2_with fail
  go_ret
  exact GI S.out.H HX.out
 have E_l:=AA (hb.1 rfl);clear hb
 go_wp2_with fail
 go_ret
 exact Qa S.out.H (by
  have e_op:=E_op.out;have e_a:=E_a.out;have e_l:=E_l.out
  cases x;cases y;congr)
def jE (l l':List Ad) (w:World) (n:Nat) (i:Value) (wr:World):Prop:= ∃k:Nat,k≤n∧i= .int .i64 k∧Below w.heap.size w wr∧l.take k=l'.take k
theorem wZ (A A':Option Addr) (n n' c c' hi hi':Nat) (l l':List Ad) (w:World) (h:(Ei.sl false).R w 0 hi [.slice A n c] l) (h':(Ei.sl false).R w 0 hi' [.slice A' n' c'] l') (hhi:hi≤w.heap.size) (El:hi'≤w.heap.size) (hle:l.length≤2147483647∧ ∀x∈l,O7 x):
 Calls prog 106 #[.slice A n c,.slice A' n' c'] w (Dw l l' w):=by
 have hn:=Bq h
 have hn':=Bq h'
 have hlen:n≤2147483647:=by rw [hn];exact hle.1
 by_cases hnn:n=n'
 ·subst hnn
  have Gm:=AA hle.2
  have Hh:=AA h
  have ZY:=AA h'
  have Hn:=AA hn
  have MS:=AA hn'
  clear h h' hn hn' hle
  go_enter func106,ntmps106
  go_wp2_with fail
  go_loopw [5] (fun i wr=>jE l l' w n i wr) (fun i _=>n-(intOf i).toNat)
  case atStart=>exact⟨0,by omega,rfl,Below.refl _ _,rfl⟩
  case round=>
   obtain⟨k,hk,rfl,hbel,hR⟩:=hrel
   have HR:=AA hR;clear hR
   have BM:=AA hbel;clear hbel
   by_cases hlt:k<n
   ·obtain⟨x,hx⟩: ∃x,l[k]?=some x:=⟨_,List.getElem?_eq_getElem (by rw [←Hn.out];exact hlt)⟩
    obtain⟨y,hy⟩: ∃y,l'[k]?=some y:=⟨_,List.getElem?_eq_getElem (by rw [←MS.out];exact hlt)⟩
    obtain⟨b,o,Ga,GJ,rfl,_,Vs,hc0,hc1,hc2,Oc,KQ⟩:=Dy ((Ei.sl false).below Hh.out BM.out hhi) hx
    obtain⟨b',o',YK,YL,rfl,_,dh,hd0,hd1,hd2,wY,jD⟩:=Dy ((Ei.sl false).below ZY.out BM.out El) hy
    have hsz:w.heap.size≤wr.heap.size:=BM.out.size
    have hs1:b<wr.heap.size:=by omega
    have hs2:b'<wr.heap.size:=by omega
    have hs3:hi≤wr.heap.size:=by omega
    have hs4:hi'≤wr.heap.size:=by omega
    have hi0:(0:Int)≤k:=by omega
    have HT:Hid (x=y→l.take (k+1)=l'.take (k+1)):=AA (fun e=>by rw [List.take_add_one,List.take_add_one,HR.out,hx,hy,e])
    have HF:Hid (x≠y→l≠l'):=AA (fun e he=>e (by rw [he,hy] at hx;exact(Option.some.inj hx).symm))
    have HE:Hid (Ei.R wr 0 hi [.int .u8 (x.op.toNat:Int),.int .i64 x.a,.slice Ga x.l.length GJ] x):=AA (DL.2 ⟨.slice Ga x.l.length GJ,rfl,Oc,KQ⟩)
    have EH:Hid (Ei.R wr 0 hi' [.int .u8 (y.op.toNat:Int),.int .i64 y.a,.slice YK y.l.length YL] y):=AA (DL.2 ⟨.slice YK y.l.length YL,rfl,wY,jD⟩)
    have HC:=AA (fun W (hW:Below wr.heap.size wr W)=>ABa _ _ hi hi' x y W (Ei.below HE.out hW hs3) (Ei.below EH.out hW hs4) (Nat.le_trans hs3 hW.size) (Nat.le_trans hs4 hW.size) (Gm.out x (List.mem_of_getElem? hx)))
    clear hx hy HE EH Oc wY KQ jD
    by_cases hq:x=y
    case' pos=>
     have HT2:=AA (HT.out hq)
     have Wx:=AA (fun W hW=>M5 (HC.out W hW) hq)
    case' neg=>
     have Im:=AA (HF.out hq)
     have Wx:=AA (fun W hW=>K3 (HC.out W hW) hq)
    all_goals
     clear hq HT HF HC
     go_wp2_with fail
     go_region_held3 (fun w'=>w'.cell? ⟨b,o+k*3,none⟩=some (.int .u8 (x.op.toNat:Int))∧w'.cell? ⟨b,o+k*3+1,none⟩=some (.int .i64 x.a)∧w'.cell? ⟨b,o+k*3+2,none⟩=some (.slice Ga x.l.length GJ)∧w'.cell? ⟨b',o'+k*3,none⟩=some (.int .u8 (y.op.toNat:Int))∧w'.cell? ⟨b',o'+k*3+1,none⟩=some (.int .i64 y.a)∧w'.cell? ⟨b',o'+k*3+2,none⟩=some (.slice YK y.l.length YL)∧Below wr.heap.size wr w')
      (first | exact⟨hc0,hc1,hc2,hd0,hd1,hd2,Below.refl _ _⟩ | exact⟨hc0,hc1,hc2,hd0,hd1,hd2,(Below.refl _ _).drew⟩ | exact⟨Az hS2 hs1 hc0,Az hS2 hs1 hc1,Az hS2 hs1 hc2,Az hS2 hs2 hd0,Az hS2 hs2 hd1,Az hS2 hs2 hd2,hS2⟩)
      (first | (go_at_call 125;refine(Wx.out _ (by exact(Below.refl _ _).drew)).mono ?_;rintro e W1 ⟨hS1,rfl⟩;have hS2:Below wr.heap.size wr W1:=((Below.refl wr.heap.size wr).drew).trans hS1;clear hS1))
     have VJ:Hid (Below w.heap.size w _):=AA (BM.out.trans (hS2.mono hsz))
     clear hS2 hc0 hc1 hc2 hd0 hd1 hd2
     go_wp2_with fail
    ·go_ret
     exact⟨VJ.out,false,rfl,by simp only [Bool.false_eq_true,false_iff];exact Im.out⟩
    ·exact⟨⟨k+1,by omega,by go_num,VJ.out,HT2.out⟩,by simp [intOf];omega⟩
   ·obtain rfl:k=n:=by omega
    have hT:Hid (l=l'):=by
     have:=HR.out
     rw [List.take_of_length_le (by rw [Hn.out];exact Nat.le_refl _),List.take_of_length_le (by rw [MS.out];exact Nat.le_refl _)] at this
     exact AA this
    go_wp2_with fail
    go_ret
    exact⟨BM.out,true,rfl,by simp only [true_iff];exact hT.out⟩
 ·have hF:Hid (l≠l'):=AA (fun h=>hnn (by rw [hn,hn',h]))
  have hne:((n:Int) !=n')=true:=by simp;omega
  clear h h' hn hn' hle
  go_enter func106,ntmps106
  go_wp2_with fail
  go_ret
  exact⟨Below.refl _ _,false,rfl,by simp only [Bool.false_eq_true,false_iff];exact hF.out⟩
theorem Yw (cs cs':List Value) (hi hi':Nat) (x y:Bv) (w:World) (h:Qe.R w 0 hi cs x) (h':Qe.R w 0 hi' cs' y) (hhi:hi≤w.heap.size) (El:hi'≤w.heap.size) (hle:lI x):
 Calls prog 73 #[.agg cs.toArray,.agg cs'.toArray] w (Dw x y w):=by
 obtain⟨JQ,rfl,XE,CF,Db⟩:=IX.1 h
 obtain⟨v_code',rfl,wh,Js,Nc⟩:=IX.1 h'
 obtain⟨Ea,EK,rfl⟩:=AB Db
 obtain⟨Nf,Ng,rfl⟩:=AB Nc
 have Zk:=AA Db;have wm:=AA Nc
 have Gm:=AA hle
 clear h h' hle XE wh CF Js Db Nc
 try unfold bv
 try unfold uv
 refine(Bool.eq_false_or_eq_true (x.t==y.t)).elim (fun s0=> ?_) (fun hne=> ?_)
 refine(Bool.eq_false_or_eq_true (x.loc.toList==y.loc.toList)).elim (fun s1=> ?_) (fun hne=> ?_)
 rotate_left
 iterate 2
  ·have HX:Hid (x≠y):=AA (fun he=>by subst he;simp at hne)
   go_enter func73,ntmps73
   go_wp2_with fail
   go_ret
   exact GI JN HX.out
 have E_t:=AA (K4 int_ne' s0)
 have pX:=AA (K4 MU s1)
 go_enter func73,ntmps73
 go_wp2_with fail
 generalize hw:(w.alloc _).alloc _=w1
 have S:Hid (JE 96 w w1 [.int .i64 x.t,.string x.loc,.slice Ea x.code.length EK] [.int .i64 y.t,.string y.loc,.slice Nf y.code.length Ng] fun _=>True):=by rw [←hw];exact AA (JE.init _ _ _ _)
 clear hw
 refine(wZ Ea Nf x.code.length y.code.length EK Ng hi hi' x.code y.code w1 (Rd.below Zk.out S.out.H hhi) (Rd.below wm.out S.out.H El) (Nat.le_trans hhi S.out.H.size) (Nat.le_trans El S.out.H.size) Gm.out).mono ?_
 rintro e w2 ⟨hbe,b,rfl,hb⟩
 replace S:=AA (S.out.below hbe)
 clear hbe
 cases b
 case false=>
  have HX:Hid (x≠y):=AA (fun he=>by cases hb.2 (by rw [he]))
  clear hb
  go_wp2_with fail
  go_ret
  exact GI S.out.H HX.out
 have ABb:=AA (hb.1 rfl);clear hb
 go_wp2_with fail
 go_ret
 exact Qa S.out.H (by
  have e_t:=E_t.out;have AFM:=pX.out;have e_code:=ABb.out
  cases x;cases y;congr)
def Tq (l l':List Bv) (w:World) (n:Nat) (i:Value) (wr:World):Prop:= ∃k:Nat,k≤n∧i= .int .i64 k∧Below w.heap.size w wr∧l.take k=l'.take k
theorem Wz (A A':Option Addr) (n n' c c' hi hi':Nat) (l l':List Bv) (w:World) (h:(Qe.sl false).R w 0 hi [.slice A n c] l) (h':(Qe.sl false).R w 0 hi' [.slice A' n' c'] l') (hhi:hi≤w.heap.size) (El:hi'≤w.heap.size) (hle:l.length≤2147483647∧ ∀x∈l,lI x):
 Calls prog 40 #[.slice A n c,.slice A' n' c'] w (Dw l l' w):=by
 have hn:=Bq h
 have hn':=Bq h'
 have hlen:n≤2147483647:=by rw [hn];exact hle.1
 by_cases hnn:n=n'
 ·subst hnn
  have Gm:=AA hle.2
  have Hh:=AA h
  have ZY:=AA h'
  have Hn:=AA hn
  have MS:=AA hn'
  clear h h' hn hn' hle
  go_enter func40,ntmps40
  go_wp2_with fail
  go_loopw [5] (fun i wr=>Tq l l' w n i wr) (fun i _=>n-(intOf i).toNat)
  case atStart=>exact⟨0,by omega,rfl,Below.refl _ _,rfl⟩
  case round=>
   obtain⟨k,hk,rfl,hbel,hR⟩:=hrel
   have HR:=AA hR;clear hR
   have BM:=AA hbel;clear hbel
   by_cases hlt:k<n
   ·obtain⟨x,hx⟩: ∃x,l[k]?=some x:=⟨_,List.getElem?_eq_getElem (by rw [←Hn.out];exact hlt)⟩
    obtain⟨y,hy⟩: ∃y,l'[k]?=some y:=⟨_,List.getElem?_eq_getElem (by rw [←MS.out];exact hlt)⟩
    obtain⟨b,o,Ea,EK,rfl,_,Vs,hc0,hc1,hc2,XE,CF,Db⟩:=Eu ((Qe.sl false).below Hh.out BM.out hhi) hx
    obtain⟨b',o',Nf,Ng,rfl,_,dh,hd0,hd1,hd2,wh,Js,Nc⟩:=Eu ((Qe.sl false).below ZY.out BM.out El) hy
    have hsz:w.heap.size≤wr.heap.size:=BM.out.size
    have hs1:b<wr.heap.size:=by omega
    have hs2:b'<wr.heap.size:=by omega
    have hs3:hi≤wr.heap.size:=by omega
    have hs4:hi'≤wr.heap.size:=by omega
    have hi0:(0:Int)≤k:=by omega
    have HT:Hid (x=y→l.take (k+1)=l'.take (k+1)):=AA (fun e=>by rw [List.take_add_one,List.take_add_one,HR.out,hx,hy,e])
    have HF:Hid (x≠y→l≠l'):=AA (fun e he=>e (by rw [he,hy] at hx;exact(Option.some.inj hx).symm))
    have HE:Hid (Qe.R wr 0 hi [.int .i64 x.t,.string x.loc,.slice Ea x.code.length EK] x):=AA (IX.2 ⟨.slice Ea x.code.length EK,rfl,XE,CF,Db⟩)
    have EH:Hid (Qe.R wr 0 hi' [.int .i64 y.t,.string y.loc,.slice Nf y.code.length Ng] y):=AA (IX.2 ⟨.slice Nf y.code.length Ng,rfl,wh,Js,Nc⟩)
    have HC:=AA (fun W (hW:Below wr.heap.size wr W)=>Yw _ _ hi hi' x y W (Qe.below HE.out hW hs3) (Qe.below EH.out hW hs4) (Nat.le_trans hs3 hW.size) (Nat.le_trans hs4 hW.size) (Gm.out x (List.mem_of_getElem? hx)))
    clear hx hy HE EH XE wh CF Js Db Nc
    by_cases hq:x=y
    case' pos=>
     have HT2:=AA (HT.out hq)
     have Wx:=AA (fun W hW=>M5 (HC.out W hW) hq)
    case' neg=>
     have Im:=AA (HF.out hq)
     have Wx:=AA (fun W hW=>K3 (HC.out W hW) hq)
    all_goals
     clear hq HT HF HC
     go_wp2_with fail
     go_region_held3 (fun w'=>w'.cell? ⟨b,o+k*3,none⟩=some (.int .i64 x.t)∧w'.cell? ⟨b,o+k*3+1,none⟩=some (.string x.loc)∧w'.cell? ⟨b,o+k*3+2,none⟩=some (.slice Ea x.code.length EK)∧w'.cell? ⟨b',o'+k*3,none⟩=some (.int .i64 y.t)∧w'.cell? ⟨b',o'+k*3+1,none⟩=some (.string y.loc)∧w'.cell? ⟨b',o'+k*3+2,none⟩=some (.slice Nf y.code.length Ng)∧Below wr.heap.size wr w')
      (first | exact⟨hc0,hc1,hc2,hd0,hd1,hd2,Below.refl _ _⟩ | exact⟨hc0,hc1,hc2,hd0,hd1,hd2,(Below.refl _ _).drew⟩ | exact⟨Az hS2 hs1 hc0,Az hS2 hs1 hc1,Az hS2 hs1 hc2,Az hS2 hs2 hd0,Az hS2 hs2 hd1,Az hS2 hs2 hd2,hS2⟩)
      (first | (go_at_call 73;refine(Wx.out _ (by exact(Below.refl _ _).drew)).mono ?_;rintro e W1 ⟨hS1,rfl⟩;have hS2:Below wr.heap.size wr W1:=((Below.refl wr.heap.size wr).drew).trans hS1;clear hS1))
     have VJ:Hid (Below w.heap.size w _):=AA (BM.out.trans (hS2.mono hsz))
     clear hS2 hc0 hc1 hc2 hd0 hd1 hd2
     go_wp2_with fail
    ·go_ret
     exact⟨VJ.out,false,rfl,by simp only [Bool.false_eq_true,false_iff];exact Im.out⟩
    ·exact⟨⟨k+1,by omega,by go_num,VJ.out,HT2.out⟩,by simp [intOf];omega⟩
   ·obtain rfl:k=n:=by omega
    have hT:Hid (l=l'):=by
     have:=HR.out
     rw [List.take_of_length_le (by rw [Hn.out];exact Nat.le_refl _),List.take_of_length_le (by rw [MS.out];exact Nat.le_refl _)] at this
     exact AA this
    go_wp2_with fail
    go_ret
    exact⟨BM.out,true,rfl,by simp only [true_iff];exact hT.out⟩
 ·have hF:Hid (l≠l'):=AA (fun h=>hnn (by rw [hn,hn',h]))
  have hne:((n:Int) !=n')=true:=by simp;omega
  clear h h' hn hn' hle
  go_enter func40,ntmps40
  go_wp2_with fail
  go_ret
  exact⟨Below.refl _ _,false,rfl,by simp only [Bool.false_eq_true,false_iff];exact hF.out⟩
theorem wu (cs cs':List Value) (hi hi':Nat) (x y:Gh) (w:World) (h:Ib.R w 0 hi cs x) (h':Ib.R w 0 hi' cs' y) (hhi:hi≤w.heap.size) (El:hi'≤w.heap.size) (hle:Qn x):
 Calls prog 74 #[.agg cs.toArray,.agg cs'.toArray] w (Dw x y w):=by
 obtain⟨qg,rfl,H_,Tz⟩:=Gq.1 h
 obtain⟨v_b',rfl,W9,jF⟩:=Gq.1 h'
 obtain⟨Nv,Ni,rfl⟩:=AB Tz
 obtain⟨jG,jH,rfl⟩:=AB jF
 have H_b:=AA Tz;have H_b':=AA jF
 have Gm:=AA hle
 clear h h' hle H_ W9 Tz jF
 try unfold bv
 try unfold uv
 refine(Bool.eq_false_or_eq_true (x.at_==y.at_)).elim (fun s0=> ?_) (fun hne=> ?_)
 rotate_left
 iterate 1
  ·have HX:Hid (x≠y):=AA (fun he=>by subst he;simp at hne)
   go_enter func74,ntmps74
   go_wp2_with fail
   go_ret
   exact GI JN HX.out
 have AFN:=AA (K4 int_ne' s0)
 go_enter func74,ntmps74
 go_wp2_with fail
 generalize hw:(w.alloc _).alloc _=w1
 have S:Hid (JE 99 w w1 [.int .i64 x.at_,.slice Nv x.b.length Ni] [.int .i64 y.at_,.slice jG y.b.length jH] fun _=>True):=by rw [←hw];exact AA (JE.init _ _ _ _)
 clear hw
 refine(Xe Nv jG x.b.length y.b.length Ni jH hi hi' x.b y.b w1 (Rd.below H_b.out S.out.H hhi) (Rd.below H_b'.out S.out.H El) (by have:=Gm.out;unfold Qn at this;omega)).mono ?_
 rintro e w2 ⟨hbe,b,rfl,hb⟩
 replace S:=AA (S.out.below hbe)
 clear hbe
 cases b
 case false=>
  have HX:Hid (x≠y):=AA (fun he=>by cases hb.2 (by rw [he]))
  clear hb
  go_wp2_with fail
  go_ret
  exact GI S.out.H HX.out
 have E_b:=AA (hb.1 rfl);clear hb
 go_wp2_with fail
 go_ret
 exact Qa S.out.H (by
  have e_at_:=AFN.out;have e_b:=E_b.out
  cases x;cases y;congr)
def ay (l l':List Gh) (w:World) (n:Nat) (i:Value) (wr:World):Prop:= ∃k:Nat,k≤n∧i= .int .i64 k∧Below w.heap.size w wr∧l.take k=l'.take k
theorem pY (A A':Option Addr) (n n' c c' hi hi':Nat) (l l':List Gh) (w:World) (h:(Ib.sl false).R w 0 hi [.slice A n c] l) (h':(Ib.sl false).R w 0 hi' [.slice A' n' c'] l') (hhi:hi≤w.heap.size) (El:hi'≤w.heap.size) (hle:l.length≤2147483647∧ ∀x∈l,Qn x):
 Calls prog 41 #[.slice A n c,.slice A' n' c'] w (Dw l l' w):=by
 have hn:=Bq h
 have hn':=Bq h'
 have hlen:n≤2147483647:=by rw [hn];exact hle.1
 by_cases hnn:n=n'
 ·subst hnn
  have Gm:=AA hle.2
  have Hh:=AA h
  have ZY:=AA h'
  have Hn:=AA hn
  have MS:=AA hn'
  clear h h' hn hn' hle
  go_enter func41,ntmps41
  go_wp2_with fail
  go_loopw [5] (fun i wr=>ay l l' w n i wr) (fun i _=>n-(intOf i).toNat)
  case atStart=>exact⟨0,by omega,rfl,Below.refl _ _,rfl⟩
  case round=>
   obtain⟨k,hk,rfl,hbel,hR⟩:=hrel
   have HR:=AA hR;clear hR
   have BM:=AA hbel;clear hbel
   by_cases hlt:k<n
   ·obtain⟨x,hx⟩: ∃x,l[k]?=some x:=⟨_,List.getElem?_eq_getElem (by rw [←Hn.out];exact hlt)⟩
    obtain⟨y,hy⟩: ∃y,l'[k]?=some y:=⟨_,List.getElem?_eq_getElem (by rw [←MS.out];exact hlt)⟩
    obtain⟨b,o,Nv,Ni,rfl,_,Vs,hc0,hc1,H_,Tz⟩:=IY ((Ib.sl false).below Hh.out BM.out hhi) hx
    obtain⟨b',o',jG,jH,rfl,_,dh,hd0,hd1,W9,jF⟩:=IY ((Ib.sl false).below ZY.out BM.out El) hy
    have hsz:w.heap.size≤wr.heap.size:=BM.out.size
    have hs1:b<wr.heap.size:=by omega
    have hs2:b'<wr.heap.size:=by omega
    have hs3:hi≤wr.heap.size:=by omega
    have hs4:hi'≤wr.heap.size:=by omega
    have hi0:(0:Int)≤k:=by omega
    have HT:Hid (x=y→l.take (k+1)=l'.take (k+1)):=AA (fun e=>by rw [List.take_add_one,List.take_add_one,HR.out,hx,hy,e])
    have HF:Hid (x≠y→l≠l'):=AA (fun e he=>e (by rw [he,hy] at hx;exact(Option.some.inj hx).symm))
    have HE:Hid (Ib.R wr 0 hi [.int .i64 x.at_,.slice Nv x.b.length Ni] x):=AA (Gq.2 ⟨.slice Nv x.b.length Ni,rfl,H_,Tz⟩)
    have EH:Hid (Ib.R wr 0 hi' [.int .i64 y.at_,.slice jG y.b.length jH] y):=AA (Gq.2 ⟨.slice jG y.b.length jH,rfl,W9,jF⟩)
    have HC:=AA (fun W (hW:Below wr.heap.size wr W)=>wu _ _ hi hi' x y W (Ib.below HE.out hW hs3) (Ib.below EH.out hW hs4) (Nat.le_trans hs3 hW.size) (Nat.le_trans hs4 hW.size) (Gm.out x (List.mem_of_getElem? hx)))
    clear hx hy HE EH H_ W9 Tz jF
    by_cases hq:x=y
    case' pos=>
     have HT2:=AA (HT.out hq)
     have Wx:=AA (fun W hW=>M5 (HC.out W hW) hq)
    case' neg=>
     have Im:=AA (HF.out hq)
     have Wx:=AA (fun W hW=>K3 (HC.out W hW) hq)
    all_goals
     clear hq HT HF HC
     go_wp2_with fail
     go_region_held3 (fun w'=>w'.cell? ⟨b,o+k*2,none⟩=some (.int .i64 x.at_)∧w'.cell? ⟨b,o+k*2+1,none⟩=some (.slice Nv x.b.length Ni)∧w'.cell? ⟨b',o'+k*2,none⟩=some (.int .i64 y.at_)∧w'.cell? ⟨b',o'+k*2+1,none⟩=some (.slice jG y.b.length jH)∧Below wr.heap.size wr w')
      (first | exact⟨hc0,hc1,hd0,hd1,Below.refl _ _⟩ | exact⟨hc0,hc1,hd0,hd1,(Below.refl _ _).drew⟩ | exact⟨Az hS2 hs1 hc0,Az hS2 hs1 hc1,Az hS2 hs2 hd0,Az hS2 hs2 hd1,hS2⟩)
      (first | (go_at_call 74;refine(Wx.out _ (by exact(Below.refl _ _).drew)).mono ?_;rintro e W1 ⟨hS1,rfl⟩;have hS2:Below wr.heap.size wr W1:=((Below.refl wr.heap.size wr).drew).trans hS1;clear hS1))
     have VJ:Hid (Below w.heap.size w _):=AA (BM.out.trans (hS2.mono hsz))
     clear hS2 hc0 hc1 hd0 hd1
     go_wp2_with fail
    ·go_ret
     exact⟨VJ.out,false,rfl,by simp only [Bool.false_eq_true,false_iff];exact Im.out⟩
    ·exact⟨⟨k+1,by omega,by go_num,VJ.out,HT2.out⟩,by simp [intOf];omega⟩
   ·obtain rfl:k=n:=by omega
    have hT:Hid (l=l'):=by
     have:=HR.out
     rw [List.take_of_length_le (by rw [Hn.out];exact Nat.le_refl _),List.take_of_length_le (by rw [MS.out];exact Nat.le_refl _)] at this
     exact AA this
    go_wp2_with fail
    go_ret
    exact⟨BM.out,true,rfl,by simp only [true_iff];exact hT.out⟩
 ·have hF:Hid (l≠l'):=AA (fun h=>hnn (by rw [hn,hn',h]))
  have hne:((n:Int) !=n')=true:=by simp;omega
  clear h h' hn hn' hle
  go_enter func41,ntmps41
  go_wp2_with fail
  go_ret
  exact⟨Below.refl _ _,false,rfl,by simp only [Bool.false_eq_true,false_iff];exact hF.out⟩
theorem pz (cs cs':List Value) (hi hi':Nat) (x y:Jy) (w:World) (h:Od.R w 0 hi cs x) (h':Od.R w 0 hi' cs' y) (hhi:hi≤w.heap.size) (El:hi'≤w.heap.size) (hle:fU x):
 Calls prog 75 #[.agg cs.toArray,.agg cs'.toArray] w (Dw x y w):=by
 obtain⟨MC,Q9,rfl,Qf,Lv,CF,Gi⟩:=FV.1 h
 obtain⟨v_loc',v_st',rfl,w_,dw,Js,VY⟩:=FV.1 h'
 obtain⟨E8,ET,rfl⟩:=AB CF
 obtain⟨Qb,Qc,rfl⟩:=AB Js
 have Xp:=AA CF;have ABc:=AA Js
 obtain⟨I_,Io,rfl⟩:=AB Gi
 obtain⟨VZ,Va,rfl⟩:=AB VY
 have zm:=AA Gi;have AFO:=AA VY
 have Gm:=AA hle
 clear h h' hle Qf w_ Lv dw CF Js Gi VY
 try unfold bv
 try unfold uv
 refine(Bool.eq_false_or_eq_true (x.f==y.f)).elim (fun s0=> ?_) (fun hne=> ?_)
 refine(Bool.eq_false_or_eq_true (x.pc==y.pc)).elim (fun s1=> ?_) (fun hne=> ?_)
 rotate_left
 iterate 2
  ·have HX:Hid (x≠y):=AA (fun he=>by subst he;simp at hne)
   go_enter func75,ntmps75
   go_wp2_with fail
   go_ret
   exact GI JN HX.out
 have E_f:=AA (K4 int_ne' s0)
 have E_pc:=AA (K4 int_ne' s1)
 go_enter func75,ntmps75
 go_wp2_with fail
 generalize hw:(w.alloc _).alloc _=w1
 have S:Hid (JE 91 w w1 [.int .i64 x.f,.int .i64 x.pc,.slice E8 x.loc.length ET,.slice I_ x.st.length Io] [.int .i64 y.f,.int .i64 y.pc,.slice Qb y.loc.length Qc,.slice VZ y.st.length Va] fun _=>True):=by rw [←hw];exact AA (JE.init _ _ _ _)
 clear hw
 refine(O4 E8 Qb x.loc.length y.loc.length ET Qc hi hi' x.loc y.loc w1 (Rd.below Xp.out S.out.H hhi) (Rd.below ABc.out S.out.H El) (by have:=Gm.out.1;omega)).mono ?_
 rintro e w2 ⟨hbe,b,rfl,hb⟩
 replace S:=AA (S.out.below hbe)
 clear hbe
 cases b
 case false=>
  have HX:Hid (x≠y):=AA (fun he=>by cases hb.2 (by rw [he]))
  clear hb
  go_wp2_with fail
  go_ret
  exact GI S.out.H HX.out
 have pX:=AA (hb.1 rfl);clear hb
 have hc:=S.out.b.q 3 rfl;have hd:=S.out.r.q 3 rfl
 go_wp2_with fail
 clear hc hd
 refine(O4 I_ VZ x.st.length y.st.length Io Va hi hi' x.st y.st w2 (Rd.below zm.out S.out.H hhi) (Rd.below AFO.out S.out.H El) (by have:=Gm.out.2;omega)).mono ?_
 rintro e w3 ⟨hbe,b,rfl,hb⟩
 replace S:=AA (S.out.below hbe)
 clear hbe
 cases b
 case false=>
  have HX:Hid (x≠y):=AA (fun he=>by cases hb.2 (by rw [he]))
  clear hb
  go_wp2_with fail
  go_ret
  exact GI S.out.H HX.out
 have E_st:=AA (hb.1 rfl);clear hb
 go_wp2_with fail
 go_ret
 exact Qa S.out.H (by
  have e_f:=E_f.out;have e_pc:=E_pc.out;have AFM:=pX.out;have e_st:=E_st.out
  cases x;cases y;congr)
def Yx (l l':List Jy) (w:World) (n:Nat) (i:Value) (wr:World):Prop:= ∃k:Nat,k≤n∧i= .int .i64 k∧Below w.heap.size w wr∧l.take k=l'.take k
theorem jI (A A':Option Addr) (n n' c c' hi hi':Nat) (l l':List Jy) (w:World) (h:(Od.sl false).R w 0 hi [.slice A n c] l) (h':(Od.sl false).R w 0 hi' [.slice A' n' c'] l') (hhi:hi≤w.heap.size) (El:hi'≤w.heap.size) (hle:l.length≤2147483647∧ ∀x∈l,fU x):
 Calls prog 43 #[.slice A n c,.slice A' n' c'] w (Dw l l' w):=by
 have hn:=Bq h
 have hn':=Bq h'
 have hlen:n≤2147483647:=by rw [hn];exact hle.1
 by_cases hnn:n=n'
 ·subst hnn
  have Gm:=AA hle.2
  have Hh:=AA h
  have ZY:=AA h'
  have Hn:=AA hn
  have MS:=AA hn'
  clear h h' hn hn' hle
  go_enter func43,ntmps43
  go_wp2_with fail
  go_loopw [5] (fun i wr=>Yx l l' w n i wr) (fun i _=>n-(intOf i).toNat)
  case atStart=>exact⟨0,by omega,rfl,Below.refl _ _,rfl⟩
  case round=>
   obtain⟨k,hk,rfl,hbel,hR⟩:=hrel
   have HR:=AA hR;clear hR
   have BM:=AA hbel;clear hbel
   by_cases hlt:k<n
   ·obtain⟨x,hx⟩: ∃x,l[k]?=some x:=⟨_,List.getElem?_eq_getElem (by rw [←Hn.out];exact hlt)⟩
    obtain⟨y,hy⟩: ∃y,l'[k]?=some y:=⟨_,List.getElem?_eq_getElem (by rw [←MS.out];exact hlt)⟩
    obtain⟨b,o,E8,ET,I_,Io,rfl,_,Vs,hc0,hc1,hc2,hc3,Qf,Lv,CF,Gi⟩:=JR ((Od.sl false).below Hh.out BM.out hhi) hx
    obtain⟨b',o',Qb,Qc,VZ,Va,rfl,_,dh,hd0,hd1,hd2,hd3,w_,dw,Js,VY⟩:=JR ((Od.sl false).below ZY.out BM.out El) hy
    have hsz:w.heap.size≤wr.heap.size:=BM.out.size
    have hs1:b<wr.heap.size:=by omega
    have hs2:b'<wr.heap.size:=by omega
    have hs3:hi≤wr.heap.size:=by omega
    have hs4:hi'≤wr.heap.size:=by omega
    have hi0:(0:Int)≤k:=by omega
    have HT:Hid (x=y→l.take (k+1)=l'.take (k+1)):=AA (fun e=>by rw [List.take_add_one,List.take_add_one,HR.out,hx,hy,e])
    have HF:Hid (x≠y→l≠l'):=AA (fun e he=>e (by rw [he,hy] at hx;exact(Option.some.inj hx).symm))
    have HE:Hid (Od.R wr 0 hi [.int .i64 x.f,.int .i64 x.pc,.slice E8 x.loc.length ET,.slice I_ x.st.length Io] x):=AA (FV.2 ⟨.slice E8 x.loc.length ET,.slice I_ x.st.length Io,rfl,Qf,Lv,CF,Gi⟩)
    have EH:Hid (Od.R wr 0 hi' [.int .i64 y.f,.int .i64 y.pc,.slice Qb y.loc.length Qc,.slice VZ y.st.length Va] y):=AA (FV.2 ⟨.slice Qb y.loc.length Qc,.slice VZ y.st.length Va,rfl,w_,dw,Js,VY⟩)
    have HC:=AA (fun W (hW:Below wr.heap.size wr W)=>pz _ _ hi hi' x y W (Od.below HE.out hW hs3) (Od.below EH.out hW hs4) (Nat.le_trans hs3 hW.size) (Nat.le_trans hs4 hW.size) (Gm.out x (List.mem_of_getElem? hx)))
    clear hx hy HE EH Qf w_ Lv dw CF Js Gi VY
    by_cases hq:x=y
    case' pos=>
     have HT2:=AA (HT.out hq)
     have Wx:=AA (fun W hW=>M5 (HC.out W hW) hq)
    case' neg=>
     have Im:=AA (HF.out hq)
     have Wx:=AA (fun W hW=>K3 (HC.out W hW) hq)
    all_goals
     clear hq HT HF HC
     go_wp2_with fail
     go_region_held3 (fun w'=>w'.cell? ⟨b,o+k*4,none⟩=some (.int .i64 x.f)∧w'.cell? ⟨b,o+k*4+1,none⟩=some (.int .i64 x.pc)∧w'.cell? ⟨b,o+k*4+2,none⟩=some (.slice E8 x.loc.length ET)∧w'.cell? ⟨b,o+k*4+3,none⟩=some (.slice I_ x.st.length Io)∧w'.cell? ⟨b',o'+k*4,none⟩=some (.int .i64 y.f)∧w'.cell? ⟨b',o'+k*4+1,none⟩=some (.int .i64 y.pc)∧w'.cell? ⟨b',o'+k*4+2,none⟩=some (.slice Qb y.loc.length Qc)∧w'.cell? ⟨b',o'+k*4+3,none⟩=some (.slice VZ y.st.length Va)∧Below wr.heap.size wr w')
      (first | exact⟨hc0,hc1,hc2,hc3,hd0,hd1,hd2,hd3,Below.refl _ _⟩ | exact⟨hc0,hc1,hc2,hc3,hd0,hd1,hd2,hd3,(Below.refl _ _).drew⟩ | exact⟨Az hS2 hs1 hc0,Az hS2 hs1 hc1,Az hS2 hs1 hc2,Az hS2 hs1 hc3,Az hS2 hs2 hd0,Az hS2 hs2 hd1,Az hS2 hs2 hd2,Az hS2 hs2 hd3,hS2⟩)
      (first | (go_at_call 75;refine(Wx.out _ (by exact(Below.refl _ _).drew)).mono ?_;rintro e W1 ⟨hS1,rfl⟩;have hS2:Below wr.heap.size wr W1:=((Below.refl wr.heap.size wr).drew).trans hS1;clear hS1))
     have VJ:Hid (Below w.heap.size w _):=AA (BM.out.trans (hS2.mono hsz))
     clear hS2 hc0 hc1 hc2 hc3 hd0 hd1 hd2 hd3
     go_wp2_with fail
    ·go_ret
     exact⟨VJ.out,false,rfl,by simp only [Bool.false_eq_true,false_iff];exact Im.out⟩
    ·exact⟨⟨k+1,by omega,by go_num,VJ.out,HT2.out⟩,by simp [intOf];omega⟩
   ·obtain rfl:k=n:=by omega
    have hT:Hid (l=l'):=by
     have:=HR.out
     rw [List.take_of_length_le (by rw [Hn.out];exact Nat.le_refl _),List.take_of_length_le (by rw [MS.out];exact Nat.le_refl _)] at this
     exact AA this
    go_wp2_with fail
    go_ret
    exact⟨BM.out,true,rfl,by simp only [true_iff];exact hT.out⟩
 ·have hF:Hid (l≠l'):=AA (fun h=>hnn (by rw [hn,hn',h]))
  have hne:((n:Int) !=n')=true:=by simp;omega
  clear h h' hn hn' hle
  go_enter func43,ntmps43
  go_wp2_with fail
  go_ret
  exact⟨Below.refl _ _,false,rfl,by simp only [Bool.false_eq_true,false_iff];exact hF.out⟩
def Yy (l l':List (List UInt8)) (w:World) (n:Nat) (i:Value) (wr:World):Prop:= ∃k:Nat,k≤n∧i= .int .i64 k∧Below w.heap.size w wr∧l.take k=l'.take k
theorem qA (A A':Option Addr) (n n' c c' hi hi':Nat) (l l':List (List UInt8)) (w:World) (h:((Rd.u8.sl false).sl false).R w 0 hi [.slice A n c] l) (h':((Rd.u8.sl false).sl false).R w 0 hi' [.slice A' n' c'] l') (hhi:hi≤w.heap.size) (El:hi'≤w.heap.size) (hle:l.length≤2147483647∧ ∀x∈l,Zh x):
 Calls prog 45 #[.slice A n c,.slice A' n' c'] w (Dw l l' w):=by
 have hn:=Bq h
 have hn':=Bq h'
 have hlen:n≤2147483647:=by rw [hn];exact hle.1
 by_cases hnn:n=n'
 ·subst hnn
  have Gm:=AA hle.2
  have Hh:=AA h
  have ZY:=AA h'
  have Hn:=AA hn
  have MS:=AA hn'
  clear h h' hn hn' hle
  go_enter func45,ntmps45
  go_wp2_with fail
  go_loopw [5] (fun i wr=>Yy l l' w n i wr) (fun i _=>n-(intOf i).toNat)
  case atStart=>exact⟨0,by omega,rfl,Below.refl _ _,rfl⟩
  case round=>
   obtain⟨k,hk,rfl,hbel,hR⟩:=hrel
   have HR:=AA hR;clear hR
   have BM:=AA hbel;clear hbel
   by_cases hlt:k<n
   ·obtain⟨x,hx⟩: ∃x,l[k]?=some x:=⟨_,List.getElem?_eq_getElem (by rw [←Hn.out];exact hlt)⟩
    obtain⟨y,hy⟩: ∃y,l'[k]?=some y:=⟨_,List.getElem?_eq_getElem (by rw [←MS.out];exact hlt)⟩
    obtain⟨b,o,rfl,_,Vs,cs,hcs,hr⟩:=DC (((Rd.u8.sl false).sl false).below Hh.out BM.out hhi) hx
    obtain⟨v,rfl,hr⟩:=Co hr
    obtain⟨A2,c2,rfl⟩:=AB hr
    have hc0:wr.cell? ⟨b,o+k,none⟩=some (.slice A2 x.length c2):=by
     have:=hcs 0 _ rfl
     rwa [show(Rd.u8.sl false).z=1 from rfl,Nat.mul_one,Nat.add_zero] at this
    obtain⟨b',o',rfl,_,dh,cs',hcs',hr'⟩:=DC (((Rd.u8.sl false).sl false).below ZY.out BM.out El) hy
    obtain⟨v',rfl,hr'⟩:=Co hr'
    obtain⟨A2',c2',rfl⟩:=AB hr'
    have hd0:wr.cell? ⟨b',o'+k,none⟩=some (.slice A2' y.length c2'):=by
     have:=hcs' 0 _ rfl
     rwa [show(Rd.u8.sl false).z=1 from rfl,Nat.mul_one,Nat.add_zero] at this
    have hsz:w.heap.size≤wr.heap.size:=BM.out.size
    have hs1:b<wr.heap.size:=by omega
    have hs2:b'<wr.heap.size:=by omega
    have hs3:hi≤wr.heap.size:=by omega
    have hs4:hi'≤wr.heap.size:=by omega
    have hi0:(0:Int)≤k:=by omega
    have HT:Hid (x=y→l.take (k+1)=l'.take (k+1)):=AA (fun e=>by rw [List.take_add_one,List.take_add_one,HR.out,hx,hy,e])
    have HF:Hid (x≠y→l≠l'):=AA (fun e he=>e (by rw [he,hy] at hx;exact(Option.some.inj hx).symm))
    have HE:=AA hr
    have EH:=AA hr'
    have HC:=AA (fun W (hW:Below wr.heap.size wr W)=>Xe A2 A2' x.length y.length c2 c2' hi hi' x y W ((Rd.u8.sl false).below HE.out hW hs3) ((Rd.u8.sl false).below EH.out hW hs4) (by have:=Gm.out x (List.mem_of_getElem? hx);unfold Zh at this;omega))
    clear hx hy HE EH hr hr' hcs hcs'
    by_cases hq:x=y
    case' pos=>
     have HT2:=AA (HT.out hq)
     have Wx:=AA (fun W hW=>M5 (HC.out W hW) hq)
    case' neg=>
     have Im:=AA (HF.out hq)
     have Wx:=AA (fun W hW=>K3 (HC.out W hW) hq)
    all_goals
     clear hq HT HF HC
     go_wp2_with fail
     go_region_held3 (fun w'=>w'.cell? ⟨b,o+k,none⟩=some (.slice A2 x.length c2)∧w'.cell? ⟨b',o'+k,none⟩=some (.slice A2' y.length c2')∧Below wr.heap.size wr w')
      (first | exact⟨hc0,hd0,Below.refl _ _⟩ | exact⟨hc0,hd0,(Below.refl _ _).drew⟩ | exact⟨Az hS2 hs1 hc0,Az hS2 hs2 hd0,hS2⟩)
      (first | (go_at_call 14;refine(Wx.out _ (by exact(Below.refl _ _).drew)).mono ?_;rintro e W1 ⟨hS1,rfl⟩;have hS2:Below wr.heap.size wr W1:=((Below.refl wr.heap.size wr).drew).trans hS1;clear hS1))
     have VJ:Hid (Below w.heap.size w _):=AA (BM.out.trans (hS2.mono hsz))
     clear hS2 hc0 hd0
     go_wp2_with fail
    ·go_ret
     exact⟨VJ.out,false,rfl,by simp only [Bool.false_eq_true,false_iff];exact Im.out⟩
    ·exact⟨⟨k+1,by omega,by go_num,VJ.out,HT2.out⟩,by simp [intOf];omega⟩
   ·obtain rfl:k=n:=by omega
    have hT:Hid (l=l'):=by
     have:=HR.out
     rw [List.take_of_length_le (by rw [Hn.out];exact Nat.le_refl _),List.take_of_length_le (by rw [MS.out];exact Nat.le_refl _)] at this
     exact AA this
    go_wp2_with fail
    go_ret
    exact⟨BM.out,true,rfl,by simp only [true_iff];exact hT.out⟩
 ·have hF:Hid (l≠l'):=AA (fun h=>hnn (by rw [hn,hn',h]))
  have hne:((n:Int) !=n')=true:=by simp;omega
  clear h h' hn hn' hle
  go_enter func45,ntmps45
  go_wp2_with fail
  go_ret
  exact⟨Below.refl _ _,false,rfl,by simp only [Bool.false_eq_true,false_iff];exact hF.out⟩
theorem jJ (cs cs':List Value) (hi hi':Nat) (x y:AP) (w:World) (h:DJ.R w 0 hi cs x) (h':DJ.R w 0 hi' cs' y) (hhi:hi≤w.heap.size) (El:hi'≤w.heap.size) (hle:SQ x):
 Calls prog 11 #[.agg cs.toArray,.agg cs'.toArray] w (Dw x y w):=by
 obtain⟨Gs,GK,Cm,Iz,Ic,Ev,rfl,Di,Dj,BN,Ez,Gt,Gu,Gv,Eb⟩:=Am.1 h
 obtain⟨AFP,AFQ,qB,v_fns',v_dat',v_exps',rfl,Tt,Tv,Jt,qC,xA,bA,bB,W_⟩:=Am.1 h'
 obtain⟨J5,I8,rfl⟩:=AB Di
 obtain⟨Yz,Y0,rfl⟩:=AB Tt
 have O6:=AA Di;have qD:=AA Tt
 obtain⟨J6,I9,rfl⟩:=AB Dj
 obtain⟨Y1,Y2,rfl⟩:=AB Tv
 have RZ:=AA Dj;have qE:=AA Tv
 obtain⟨D5,Dk,rfl⟩:=AB BN
 obtain⟨M6,M7,rfl⟩:=AB Jt
 have J7:=AA BN;have Tw:=AA Jt
 obtain⟨Qk,Ol,rfl⟩:=AB Gu
 obtain⟨qF,qG,rfl⟩:=AB bA
 have Xm:=AA Gu;have ABd:=AA bA
 obtain⟨Ql,Om,rfl⟩:=AB Gv
 obtain⟨qH,qI,rfl⟩:=AB bB
 have Xn:=AA Gv;have ABe:=AA bB
 obtain⟨MZ,K9,rfl⟩:=AB Eb
 obtain⟨dx,dz,rfl⟩:=AB W_
 have SK:=AA Eb;have xB:=AA W_
 have Gm:=AA hle
 clear h h' hle Di Tt Dj Tv BN Jt Ez qC Gt xA Gu bA Gv bB Eb W_
 try unfold bv
 try unfold uv
 refine(Bool.eq_false_or_eq_true (x.first==y.first)).elim (fun s0=> ?_) (fun hne=> ?_)
 refine(Bool.eq_false_or_eq_true (x.most==y.most)).elim (fun s1=> ?_) (fun hne=> ?_)
 rotate_left
 iterate 2
  ·have HX:Hid (x≠y):=AA (fun he=>by subst he;simp at hne)
   go_enter func11,ntmps11
   go_wp2_with fail
   go_ret
   exact GI JN HX.out
 have xC:=AA (K4 int_ne' s0)
 have ABf:=AA (K4 int_ne' s1)
 go_enter func11,ntmps11
 go_wp2_with fail
 generalize hw:(w.alloc _).alloc _=w1
 have S:Hid (JE 29 w w1 [.slice J5 x.types.length I8,.slice J6 x.hosts.length I9,.slice D5 x.globs.length Dk,.int .i64 x.first,.int .i64 x.most,.slice Qk x.fns.length Ol,.slice Ql x.dat.length Om,.slice MZ x.Au.length K9] [.slice Yz y.types.length Y0,.slice Y1 y.hosts.length Y2,.slice M6 y.globs.length M7,.int .i64 y.first,.int .i64 y.most,.slice qF y.fns.length qG,.slice qH y.dat.length qI,.slice dx y.Au.length dz] fun _=>True):=by rw [←hw];exact AA (JE.init _ _ _ _)
 clear hw
 refine(sF J5 Yz x.types.length y.types.length I8 Y0 hi hi' x.types y.types w1 (Rd.below O6.out S.out.H hhi) (Rd.below qD.out S.out.H El) (by have:=Gm.out.1;omega)).mono ?_
 rintro e w2 ⟨hbe,b,rfl,hb⟩
 replace S:=AA (S.out.below hbe)
 clear hbe
 cases b
 case false=>
  have HX:Hid (x≠y):=AA (fun he=>by cases hb.2 (by rw [he]))
  clear hb
  go_wp2_with fail
  go_ret
  exact GI S.out.H HX.out
 have xD:=AA (hb.1 rfl);clear hb
 have hc:=S.out.b.q 1 rfl;have hd:=S.out.r.q 1 rfl
 go_wp2_with fail
 clear hc hd
 refine(bS J6 Y1 x.hosts.length y.hosts.length I9 Y2 hi hi' x.hosts y.hosts w2 (Rd.below RZ.out S.out.H hhi) (Rd.below qE.out S.out.H El) (by have:=Gm.out.2.1;omega)).mono ?_
 rintro e w3 ⟨hbe,b,rfl,hb⟩
 replace S:=AA (S.out.below hbe)
 clear hbe
 cases b
 case false=>
  have HX:Hid (x≠y):=AA (fun he=>by cases hb.2 (by rw [he]))
  clear hb
  go_wp2_with fail
  go_ret
  exact GI S.out.H HX.out
 have xE:=AA (hb.1 rfl);clear hb
 have hc:=S.out.b.q 2 rfl;have hd:=S.out.r.q 2 rfl
 go_wp2_with fail
 clear hc hd
 refine(Za D5 M6 x.globs.length y.globs.length Dk M7 hi hi' x.globs y.globs w3 (Rd.below J7.out S.out.H hhi) (Rd.below Tw.out S.out.H El) (by have:=Gm.out.2.2.1;omega)).mono ?_
 rintro e w4 ⟨hbe,b,rfl,hb⟩
 replace S:=AA (S.out.below hbe)
 clear hbe
 cases b
 case false=>
  have HX:Hid (x≠y):=AA (fun he=>by cases hb.2 (by rw [he]))
  clear hb
  go_wp2_with fail
  go_ret
  exact GI S.out.H HX.out
 have XA:=AA (hb.1 rfl);clear hb
 have hc:=S.out.b.q 5 rfl;have hd:=S.out.r.q 5 rfl
 go_wp2_with fail
 clear hc hd
 refine(Wz Qk qF x.fns.length y.fns.length Ol qG hi hi' x.fns y.fns w4 (Rd.below Xm.out S.out.H hhi) (Rd.below ABd.out S.out.H El) (Nat.le_trans hhi S.out.H.size) (Nat.le_trans El S.out.H.size) Gm.out.2.2.2.1).mono ?_
 rintro e w5 ⟨hbe,b,rfl,hb⟩
 replace S:=AA (S.out.below hbe)
 clear hbe
 cases b
 case false=>
  have HX:Hid (x≠y):=AA (fun he=>by cases hb.2 (by rw [he]))
  clear hb
  go_wp2_with fail
  go_ret
  exact GI S.out.H HX.out
 have AFR:=AA (hb.1 rfl);clear hb
 have hc:=S.out.b.q 6 rfl;have hd:=S.out.r.q 6 rfl
 go_wp2_with fail
 clear hc hd
 refine(pY Ql qH x.dat.length y.dat.length Om qI hi hi' x.dat y.dat w5 (Rd.below Xn.out S.out.H hhi) (Rd.below ABe.out S.out.H El) (Nat.le_trans hhi S.out.H.size) (Nat.le_trans El S.out.H.size) Gm.out.2.2.2.2.1).mono ?_
 rintro e w6 ⟨hbe,b,rfl,hb⟩
 replace S:=AA (S.out.below hbe)
 clear hbe
 cases b
 case false=>
  have HX:Hid (x≠y):=AA (fun he=>by cases hb.2 (by rw [he]))
  clear hb
  go_wp2_with fail
  go_ret
  exact GI S.out.H HX.out
 have AFS:=AA (hb.1 rfl);clear hb
 have hc:=S.out.b.q 7 rfl;have hd:=S.out.r.q 7 rfl
 go_wp2_with fail
 clear hc hd
 refine(Zb MZ dx x.Au.length y.Au.length K9 dz hi hi' x.Au y.Au w6 (Rd.below SK.out S.out.H hhi) (Rd.below xB.out S.out.H El) (by have:=Gm.out.2.2.2.2.2;omega)).mono ?_
 rintro e w7 ⟨hbe,b,rfl,hb⟩
 replace S:=AA (S.out.below hbe)
 clear hbe
 cases b
 case false=>
  have HX:Hid (x≠y):=AA (fun he=>by cases hb.2 (by rw [he]))
  clear hb
  go_wp2_with fail
  go_ret
  exact GI S.out.H HX.out
 have ABg:=AA (hb.1 rfl);clear hb
 go_wp2_with fail
 go_ret
 exact Qa S.out.H (by
  have e_types:=xD.out;have e_hosts:=xE.out;have xG:=XA.out;have e_first:=xC.out;have e_most:=ABf.out;have e_fns:=AFR.out;have e_dat:=AFS.out;have e_exps:=ABg.out
  cases x;cases y;congr)
theorem Y3 (cs cs':List Value) (hi hi':Nat) (x y:FH) (w:World) (h:K7.R w 0 hi cs x) (h':K7.R w 0 hi' cs' y) (hhi:hi≤w.heap.size) (El:hi'≤w.heap.size) (hle:fV x):
 Calls prog 12 #[.agg cs.toArray,.agg cs'.toArray] w (Dw x y w):=by
 obtain⟨F3,Cm,GL,Ie,rfl,Cj,BN,DY,Gw,KG,IB,Gx,Gy⟩:=CU.1 h
 obtain⟨ACk,qB,AFT,v_res',rfl,Qd,Jt,Tx,xH,xI,bC,xJ,xK⟩:=CU.1 h'
 obtain⟨FM,Ej,rfl⟩:=AB Cj
 obtain⟨Vb,Vd,rfl⟩:=AB Qd
 have Ma:=AA Cj;have jK:=AA Qd
 obtain⟨D5,Dk,rfl⟩:=AB BN
 obtain⟨M6,M7,rfl⟩:=AB Jt
 have J7:=AA BN;have Tw:=AA Jt
 obtain⟨GQ,FW,rfl⟩:=AB DY
 obtain⟨Y4,Y5,rfl⟩:=AB Tx
 have Vy:=AA DY;have qJ:=AA Tx
 obtain⟨Qm,Oo,rfl⟩:=AB IB
 obtain⟨qK,qL,rfl⟩:=AB bC
 have lX:=AA IB;have ABh:=AA bC
 have Gm:=AA hle
 clear h h' hle Cj Qd BN Jt DY Tx Gw xH KG xI IB bC Gx xJ Gy xK
 try unfold bv
 try unfold uv
 refine(Bool.eq_false_or_eq_true (x.Bj==y.Bj)).elim (fun s0=> ?_) (fun hne=> ?_)
 refine(Bool.eq_false_or_eq_true (x.end_==y.end_)).elim (fun s1=> ?_) (fun hne=> ?_)
 refine(Bool.eq_false_or_eq_true (x.trap==y.trap)).elim (fun s2=> ?_) (fun hne=> ?_)
 refine(Bool.eq_false_or_eq_true (x.used==y.used)).elim (fun s3=> ?_) (fun hne=> ?_)
 rotate_left
 iterate 4
  ·have HX:Hid (x≠y):=AA (fun he=>by subst he;simp at hne)
   go_enter func12,ntmps12
   go_wp2_with fail
   go_ret
   exact GI JN HX.out
 have ABi:=AA (K4 int_ne' s0)
 have ABj:=AA (K4 int_ne' s1)
 have ABk:=AA (K4 int_ne' s2)
 have ABl:=AA (K4 int_ne' s3)
 go_enter func12,ntmps12
 go_wp2_with fail
 generalize hw:(w.alloc _).alloc _=w1
 have S:Hid (JE 35 w w1 [.slice FM x.frames.length Ej,.slice D5 x.globs.length Dk,.slice GQ x.pages.length FW,.int .i64 x.Bj,.int .i8 x.end_,.slice Qm x.res.length Oo,.int .i8 x.trap,.int .i64 x.used] [.slice Vb y.frames.length Vd,.slice M6 y.globs.length M7,.slice Y4 y.pages.length Y5,.int .i64 y.Bj,.int .i8 y.end_,.slice qK y.res.length qL,.int .i8 y.trap,.int .i64 y.used] fun _=>True):=by rw [←hw];exact AA (JE.init _ _ _ _)
 clear hw
 refine(jI FM Vb x.frames.length y.frames.length Ej Vd hi hi' x.frames y.frames w1 (Rd.below Ma.out S.out.H hhi) (Rd.below jK.out S.out.H El) (Nat.le_trans hhi S.out.H.size) (Nat.le_trans El S.out.H.size) Gm.out.1).mono ?_
 rintro e w2 ⟨hbe,b,rfl,hb⟩
 replace S:=AA (S.out.below hbe)
 clear hbe
 cases b
 case false=>
  have HX:Hid (x≠y):=AA (fun he=>by cases hb.2 (by rw [he]))
  clear hb
  go_wp2_with fail
  go_ret
  exact GI S.out.H HX.out
 have qM:=AA (hb.1 rfl);clear hb
 have hc:=S.out.b.q 1 rfl;have hd:=S.out.r.q 1 rfl
 go_wp2_with fail
 clear hc hd
 refine(O4 D5 M6 x.globs.length y.globs.length Dk M7 hi hi' x.globs y.globs w2 (Rd.below J7.out S.out.H hhi) (Rd.below Tw.out S.out.H El) (by have:=Gm.out.2.1;omega)).mono ?_
 rintro e w3 ⟨hbe,b,rfl,hb⟩
 replace S:=AA (S.out.below hbe)
 clear hbe
 cases b
 case false=>
  have HX:Hid (x≠y):=AA (fun he=>by cases hb.2 (by rw [he]))
  clear hb
  go_wp2_with fail
  go_ret
  exact GI S.out.H HX.out
 have XA:=AA (hb.1 rfl);clear hb
 have hc:=S.out.b.q 2 rfl;have hd:=S.out.r.q 2 rfl
 go_wp2_with fail
 clear hc hd
 refine(qA GQ Y4 x.pages.length y.pages.length FW Y5 hi hi' x.pages y.pages w3 (Rd.below Vy.out S.out.H hhi) (Rd.below qJ.out S.out.H El) (Nat.le_trans hhi S.out.H.size) (Nat.le_trans El S.out.H.size) Gm.out.2.2.1).mono ?_
 rintro e w4 ⟨hbe,b,rfl,hb⟩
 replace S:=AA (S.out.below hbe)
 clear hbe
 cases b
 case false=>
  have HX:Hid (x≠y):=AA (fun he=>by cases hb.2 (by rw [he]))
  clear hb
  go_wp2_with fail
  go_ret
  exact GI S.out.H HX.out
 have xL:=AA (hb.1 rfl);clear hb
 have hc:=S.out.b.q 5 rfl;have hd:=S.out.r.q 5 rfl
 go_wp2_with fail
 clear hc hd
 refine(O4 Qm qK x.res.length y.res.length Oo qL hi hi' x.res y.res w4 (Rd.below lX.out S.out.H hhi) (Rd.below ABh.out S.out.H El) (by have:=Gm.out.2.2.2;omega)).mono ?_
 rintro e w5 ⟨hbe,b,rfl,hb⟩
 replace S:=AA (S.out.below hbe)
 clear hbe
 cases b
 case false=>
  have HX:Hid (x≠y):=AA (fun he=>by cases hb.2 (by rw [he]))
  clear hb
  go_wp2_with fail
  go_ret
  exact GI S.out.H HX.out
 have AFU:=AA (hb.1 rfl);clear hb
 go_wp2_with fail
 go_ret
 exact Qa S.out.H (by
  have AFV:=qM.out;have xG:=XA.out;have e_pages:=xL.out;have e_reps:=ABi.out;have e_end_:=ABj.out;have e_res:=AFU.out;have e_trap:=ABk.out;have e_used:=ABl.out
  cases x;cases y;congr)
end Go.Proofs.YtlagonfamllgjaaGreatDoor
