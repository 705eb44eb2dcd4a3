/- Part 5 of the proof: OpsB EqB -/
import Derived.Deep.RegionHeld3
import Derived.Test.YtlagonfamllgjaaGreatDoorR03
import Derived.Test.YtlagonfamllgjaaGreatDoorR04
namespace Go.Proofs.YtlagonfamllgjaaGreatDoor
set_option linter.unusedVariables false
set_option linter.unusedSimpArgs false
set_option maxRecDepth 100000
set_option maxHeartbeats 4000000
open Go.RowKit Tryz
set_option maxHeartbeats 40000000 in
theorem Tj (w:World): ∀r∈Dk,Calls prog 192 #[.int .u8 (r.op:Nat)] w fun e w'=>w=w'∧e= .returned (.int .i8 r.takes):=by
 unfold Dk
 iterate 90
  refine List.forall_mem_cons.2 ⟨?_,?_⟩
  ·simp only [Int.cast_ofNat_Int]
   try simp only [Int.natCast_zero]
   go_enter func192,ntmps192
   go_wp2_with fail
   go_ret
   exact⟨rfl,rfl⟩
 exact fun _ h=>by cases h
theorem YU {P:Program} {f:FuncId} {args:Array Value} {w:World} {α:Type} {x y:α} (h:Calls P f args w (JD x y w)) (hq:x=y):Calls P f args w fun e w'=>Below w.heap.size w w'∧e= .returned (.bool true):=
 h.mono fun e w' ⟨h1,b,h2,h3⟩=>⟨h1,by rw [h2,h3.2 hq]⟩
theorem U9 {P:Program} {f:FuncId} {args:Array Value} {w:World} {α:Type} {x y:α} (h:Calls P f args w (JD x y w)) (hq:x≠y):Calls P f args w fun e w'=>Below w.heap.size w w'∧e= .returned (.bool false):=
 h.mono fun e w' ⟨h1,b,h2,h3⟩=>⟨h1,by cases b with | false=>exact h2 | true=>exact absurd (h3.1 rfl) hq⟩
theorem EC {w w':World} {b:Nat} {o:Nat} {v:Value} (h:Below w.heap.size w w') (hb:b<w.heap.size) (hc:w.cell? ⟨b,o,none⟩=some v):w'.cell? ⟨b,o,none⟩=some v:=by rw [h.cell hb];exact hc
theorem Qf {α:Type} {x y:α} {w w':World} (h:Below w.heap.size w w') (hn:x≠y):JD x y w (.returned (.bool false)) w':=⟨h,false,rfl,by simp only [Bool.false_eq_true,false_iff];exact hn⟩
theorem nN {α:Type} {x y:α} {w w':World} (h:Below w.heap.size w w') (hn:x=y):JD x y w (.returned (.bool true)) w':=⟨h,true,rfl,by simp only [true_iff];exact hn⟩
theorem U_ {α:Type} [DecidableEq α] {a b:α} {t:Bool} (f:a≠b→t=false) (s:t=true):a=b:=Decidable.byContradiction fun h=>by rw [f h] at s;cases s
theorem VA {w:World} {o o':Obj}:Below w.heap.size w ((w.alloc o).alloc o'):=((Below.refl _ _).alloc (Nat.le_refl _) _).alloc (by simp) _
theorem nP (cs cs':List Value) (hi hi':Nat) (x y:Js) (w:World) (h:UR.R w 0 hi cs x) (h':UR.R w 0 hi' cs' y) (hhi:hi≤w.heap.size) (QA:hi'≤w.heap.size) (hle:x9 x):
 Calls prog 75 #[.agg cs.toArray,.agg cs'.toArray] w (JD x y w):=by
 obtain⟨M9,RV,rfl,UN,Qm,DU,Jz⟩:=Ic.1 h
 obtain⟨v_loc',v_st',rfl,uZ,dF,QB,VB⟩:=Ic.1 h'
 obtain⟨JU,IX,rfl⟩:=AJ DU
 obtain⟨QC,QD,rfl⟩:=AJ QB
 have ji:=AA DU;have AAZ:=AA QB
 obtain⟨OD,NK,rfl⟩:=AJ Jz
 obtain⟨VD,VE,rfl⟩:=AJ VB
 have H_st:=AA Jz;have AFS:=AA VB
 have N8:=AA hle
 clear h h' hle UN uZ Qm dF DU QB Jz VB
 try unfold bv
 try unfold uv
 refine(Bool.eq_false_or_eq_true (x.f==y.f)).elim (fun s0=> ?_) (fun hne=> ?_)
 refine(Bool.eq_false_or_eq_true (x.pc==y.pc)).elim (fun s1=> ?_) (fun hne=> ?_)
 rotate_left
 iterate 2
  ·have HX:Hid (x≠y):=AA (fun he=>by subst he;simp at hne)
   go_enter func75,ntmps75
   go_wp2_with fail
   go_ret
   exact Qf VA HX.out
 have E_f:=AA (U_ int_ne' s0)
 have E_pc:=AA (U_ int_ne' s1)
 go_enter func75,ntmps75
 go_wp2_with fail
 generalize hw:(w.alloc _).alloc _=w1
 have S:Hid (Lu 91 w w1 [.int .i64 x.f,.int .i64 x.pc,.slice JU x.loc.length IX,.slice OD x.st.length NK] [.int .i64 y.f,.int .i64 y.pc,.slice QC y.loc.length QD,.slice VD y.st.length VE] fun _=>True):=by rw [←hw];exact AA (Lu.init _ _ _ _)
 clear hw
 refine(OP JU QC x.loc.length y.loc.length IX QD hi hi' x.loc y.loc w1 (Rd.below ji.out S.out.H hhi) (Rd.below AAZ.out S.out.H QA) (by have:=N8.out.1;omega)).mono ?_
 rintro e w2 ⟨hbe,b,rfl,hb⟩
 replace S:=AA (S.out.below hbe)
 clear hbe
 cases b
 case false=>
  have HX:Hid (x≠y):=AA (fun he=>by cases hb.2 (by rw [he]))
  clear hb
  go_wp2_with fail
  go_ret
  exact Qf S.out.H HX.out
 have AFT:=AA (hb.1 rfl);clear hb
 have hc:=S.out.b.q 3 rfl;have hd:=S.out.r.q 3 rfl
 go_wp2_with fail
 clear hc hd
 refine(OP OD VD x.st.length y.st.length NK VE hi hi' x.st y.st w2 (Rd.below H_st.out S.out.H hhi) (Rd.below AFS.out S.out.H QA) (by have:=N8.out.2;omega)).mono ?_
 rintro e w3 ⟨hbe,b,rfl,hb⟩
 replace S:=AA (S.out.below hbe)
 clear hbe
 cases b
 case false=>
  have HX:Hid (x≠y):=AA (fun he=>by cases hb.2 (by rw [he]))
  clear hb
  go_wp2_with fail
  go_ret
  exact Qf S.out.H HX.out
 have E_st:=AA (hb.1 rfl);clear hb
 go_wp2_with fail
 go_ret
 exact nN S.out.H (by
  have e_f:=E_f.out;have e_pc:=E_pc.out;have e_loc:=AFT.out;have e_st:=E_st.out
  cases x;cases y;congr)
def YV (l l':List Js) (w:World) (n:Nat) (i:Value) (wr:World):Prop:= ∃k:Nat,k≤n∧i= .int .i64 k∧Below w.heap.size w wr∧l.take k=l'.take k
theorem iF (A A':Option Addr) (n n' c c' hi hi':Nat) (l l':List Js) (w:World) (h:(UR.sl false).R w 0 hi [.slice A n c] l) (h':(UR.sl false).R w 0 hi' [.slice A' n' c'] l') (hhi:hi≤w.heap.size) (QA:hi'≤w.heap.size) (hle:l.length≤2147483647∧ ∀x∈l,x9 x):
 Calls prog 43 #[.slice A n c,.slice A' n' c'] w (JD l l' w):=by
 have hn:=Dp h
 have hn':=Dp h'
 have hlen:n≤2147483647:=by rw [hn];exact hle.1
 by_cases hnn:n=n'
 ·subst hnn
  have N8:=AA hle.2
  have Hh:=AA h
  have Hh':=AA h'
  have Hn:=AA hn
  have dZ:=AA hn'
  clear h h' hn hn' hle
  go_enter func43,ntmps43
  go_wp2_with fail
  go_loopw [5] (fun i wr=>YV l l' w n i wr) (fun i _=>n-(intOf i).toNat)
  case atStart=>exact⟨0,by omega,rfl,Below.refl _ _,rfl⟩
  case round=>
   obtain⟨k,hk,rfl,hbel,hR⟩:=hrel
   have HR:=AA hR;clear hR
   have CP:=AA hbel;clear hbel
   by_cases hlt:k<n
   ·obtain⟨x,hx⟩: ∃x,l[k]?=some x:=⟨_,List.getElem?_eq_getElem (by rw [←Hn.out];exact hlt)⟩
    obtain⟨y,hy⟩: ∃y,l'[k]?=some y:=⟨_,List.getElem?_eq_getElem (by rw [←dZ.out];exact hlt)⟩
    obtain⟨b,o,JU,IX,OD,NK,rfl,_,qO,hc0,hc1,hc2,hc3,UN,Qm,DU,Jz⟩:=NM ((UR.sl false).below Hh.out CP.out hhi) hx
    obtain⟨b',o',QC,QD,VD,VE,rfl,_,AFU,hd0,hd1,hd2,hd3,uZ,dF,QB,VB⟩:=NM ((UR.sl false).below Hh'.out CP.out QA) hy
    have hsz:w.heap.size≤wr.heap.size:=CP.out.size
    have hs1:b<wr.heap.size:=by omega
    have hs2:b'<wr.heap.size:=by omega
    have hs3:hi≤wr.heap.size:=by omega
    have hs4:hi'≤wr.heap.size:=by omega
    have hi0:(0:Int)≤k:=by omega
    have HT:Hid (x=y→l.take (k+1)=l'.take (k+1)):=AA (fun e=>by rw [List.take_add_one,List.take_add_one,HR.out,hx,hy,e])
    have HF:Hid (x≠y→l≠l'):=AA (fun e he=>e (by rw [he,hy] at hx;exact(Option.some.inj hx).symm))
    have HE:Hid (UR.R wr 0 hi [.int .i64 x.f,.int .i64 x.pc,.slice JU x.loc.length IX,.slice OD x.st.length NK] x):=AA (Ic.2 ⟨.slice JU x.loc.length IX,.slice OD x.st.length NK,rfl,UN,Qm,DU,Jz⟩)
    have ML:Hid (UR.R wr 0 hi' [.int .i64 y.f,.int .i64 y.pc,.slice QC y.loc.length QD,.slice VD y.st.length VE] y):=AA (Ic.2 ⟨.slice QC y.loc.length QD,.slice VD y.st.length VE,rfl,uZ,dF,QB,VB⟩)
    have HC:=AA (fun W (hW:Below wr.heap.size wr W)=>nP _ _ hi hi' x y W (UR.below HE.out hW hs3) (UR.below ML.out hW hs4) (Nat.le_trans hs3 hW.size) (Nat.le_trans hs4 hW.size) (N8.out x (List.mem_of_getElem? hx)))
    clear hx hy HE ML UN uZ Qm dF DU QB Jz VB
    by_cases hq:x=y
    case' pos=>
     have HT2:=AA (HT.out hq)
     have TS:=AA (fun W hW=>YU (HC.out W hW) hq)
    case' neg=>
     have Jo:=AA (HF.out hq)
     have TS:=AA (fun W hW=>U9 (HC.out W hW) hq)
    all_goals
     clear hq HT HF HC
     go_wp2_with fail
     go_region_held3 (fun w'=>w'.cell? ⟨b,o+k*4,none⟩=some (.int .i64 x.f)∧w'.cell? ⟨b,o+k*4+1,none⟩=some (.int .i64 x.pc)∧w'.cell? ⟨b,o+k*4+2,none⟩=some (.slice JU x.loc.length IX)∧w'.cell? ⟨b,o+k*4+3,none⟩=some (.slice OD x.st.length NK)∧w'.cell? ⟨b',o'+k*4,none⟩=some (.int .i64 y.f)∧w'.cell? ⟨b',o'+k*4+1,none⟩=some (.int .i64 y.pc)∧w'.cell? ⟨b',o'+k*4+2,none⟩=some (.slice QC y.loc.length QD)∧w'.cell? ⟨b',o'+k*4+3,none⟩=some (.slice VD y.st.length VE)∧Below wr.heap.size wr w')
      (first | exact⟨hc0,hc1,hc2,hc3,hd0,hd1,hd2,hd3,Below.refl _ _⟩ | exact⟨hc0,hc1,hc2,hc3,hd0,hd1,hd2,hd3,(Below.refl _ _).drew⟩ | exact⟨EC hS2 hs1 hc0,EC hS2 hs1 hc1,EC hS2 hs1 hc2,EC hS2 hs1 hc3,EC hS2 hs2 hd0,EC hS2 hs2 hd1,EC hS2 hs2 hd2,EC hS2 hs2 hd3,hS2⟩)
      (first | (go_at_call 75;refine(TS.out _ (by exact(Below.refl _ _).drew)).mono ?_;rintro e W1 ⟨hS1,rfl⟩;have hS2:Below wr.heap.size wr W1:=((Below.refl wr.heap.size wr).drew).trans hS1;clear hS1))
     have zD:Hid (Below w.heap.size w _):=AA (CP.out.trans (hS2.mono hsz))
     clear hS2 hc0 hc1 hc2 hc3 hd0 hd1 hd2 hd3
     go_wp2_with fail
    ·go_ret
     exact⟨zD.out,false,rfl,by simp only [Bool.false_eq_true,false_iff];exact Jo.out⟩
    ·exact⟨⟨k+1,by omega,by go_num,zD.out,HT2.out⟩,by simp [intOf];omega⟩
   ·obtain rfl:k=n:=by omega
    have hT:Hid (l=l'):=by
     have:=HR.out
     rw [List.take_of_length_le (by rw [Hn.out];exact Nat.le_refl _),List.take_of_length_le (by rw [dZ.out];exact Nat.le_refl _)] at this
     exact AA this
    go_wp2_with fail
    go_ret
    exact⟨CP.out,true,rfl,by simp only [true_iff];exact hT.out⟩
 ·have hF:Hid (l≠l'):=AA (fun h=>hnn (by rw [hn,hn',h]))
  have hne:((n:Int) !=n')=true:=by simp;omega
  clear h h' hn hn' hle
  go_enter func43,ntmps43
  go_wp2_with fail
  go_ret
  exact⟨Below.refl _ _,false,rfl,by simp only [Bool.false_eq_true,false_iff];exact hF.out⟩
def YW (l l':List (List UInt8)) (w:World) (n:Nat) (i:Value) (wr:World):Prop:= ∃k:Nat,k≤n∧i= .int .i64 k∧Below w.heap.size w wr∧l.take k=l'.take k
theorem nQ (A A':Option Addr) (n n' c c' hi hi':Nat) (l l':List (List UInt8)) (w:World) (h:((Rd.u8.sl false).sl false).R w 0 hi [.slice A n c] l) (h':((Rd.u8.sl false).sl false).R w 0 hi' [.slice A' n' c'] l') (hhi:hi≤w.heap.size) (QA:hi'≤w.heap.size) (hle:l.length≤2147483647∧ ∀x∈l,qK x):
 Calls prog 45 #[.slice A n c,.slice A' n' c'] w (JD l l' w):=by
 have hn:=Dp h
 have hn':=Dp h'
 have hlen:n≤2147483647:=by rw [hn];exact hle.1
 by_cases hnn:n=n'
 ·subst hnn
  have N8:=AA hle.2
  have Hh:=AA h
  have Hh':=AA h'
  have Hn:=AA hn
  have dZ:=AA hn'
  clear h h' hn hn' hle
  go_enter func45,ntmps45
  go_wp2_with fail
  go_loopw [5] (fun i wr=>YW l l' w n i wr) (fun i _=>n-(intOf i).toNat)
  case atStart=>exact⟨0,by omega,rfl,Below.refl _ _,rfl⟩
  case round=>
   obtain⟨k,hk,rfl,hbel,hR⟩:=hrel
   have HR:=AA hR;clear hR
   have CP:=AA hbel;clear hbel
   by_cases hlt:k<n
   ·obtain⟨x,hx⟩: ∃x,l[k]?=some x:=⟨_,List.getElem?_eq_getElem (by rw [←Hn.out];exact hlt)⟩
    obtain⟨y,hy⟩: ∃y,l'[k]?=some y:=⟨_,List.getElem?_eq_getElem (by rw [←dZ.out];exact hlt)⟩
    obtain⟨b,o,rfl,_,qO,cs,hcs,hr⟩:=Dj (((Rd.u8.sl false).sl false).below Hh.out CP.out hhi) hx
    obtain⟨v,rfl,hr⟩:=Dc hr
    obtain⟨A2,c2,rfl⟩:=AJ hr
    have hc0:wr.cell? ⟨b,o+k,none⟩=some (.slice A2 x.length c2):=by
     have:=hcs 0 _ rfl
     rwa [show(Rd.u8.sl false).z=1 from rfl,Nat.mul_one,Nat.add_zero] at this
    obtain⟨b',o',rfl,_,AFU,cs',hcs',hr'⟩:=Dj (((Rd.u8.sl false).sl false).below Hh'.out CP.out QA) hy
    obtain⟨v',rfl,hr'⟩:=Dc hr'
    obtain⟨A2',c2',rfl⟩:=AJ hr'
    have hd0:wr.cell? ⟨b',o'+k,none⟩=some (.slice A2' y.length c2'):=by
     have:=hcs' 0 _ rfl
     rwa [show(Rd.u8.sl false).z=1 from rfl,Nat.mul_one,Nat.add_zero] at this
    have hsz:w.heap.size≤wr.heap.size:=CP.out.size
    have hs1:b<wr.heap.size:=by omega
    have hs2:b'<wr.heap.size:=by omega
    have hs3:hi≤wr.heap.size:=by omega
    have hs4:hi'≤wr.heap.size:=by omega
    have hi0:(0:Int)≤k:=by omega
    have HT:Hid (x=y→l.take (k+1)=l'.take (k+1)):=AA (fun e=>by rw [List.take_add_one,List.take_add_one,HR.out,hx,hy,e])
    have HF:Hid (x≠y→l≠l'):=AA (fun e he=>e (by rw [he,hy] at hx;exact(Option.some.inj hx).symm))
    have HE:=AA hr
    have ML:=AA hr'
    have HC:=AA (fun W (hW:Below wr.heap.size wr W)=>jT A2 A2' x.length y.length c2 c2' hi hi' x y W ((Rd.u8.sl false).below HE.out hW hs3) ((Rd.u8.sl false).below ML.out hW hs4) (by have:=N8.out x (List.mem_of_getElem? hx);unfold qK at this;omega))
    clear hx hy HE ML hr hr' hcs hcs'
    by_cases hq:x=y
    case' pos=>
     have HT2:=AA (HT.out hq)
     have TS:=AA (fun W hW=>YU (HC.out W hW) hq)
    case' neg=>
     have Jo:=AA (HF.out hq)
     have TS:=AA (fun W hW=>U9 (HC.out W hW) hq)
    all_goals
     clear hq HT HF HC
     go_wp2_with fail
     go_region_held3 (fun w'=>w'.cell? ⟨b,o+k,none⟩=some (.slice A2 x.length c2)∧w'.cell? ⟨b',o'+k,none⟩=some (.slice A2' y.length c2')∧Below wr.heap.size wr w')
      (first | exact⟨hc0,hd0,Below.refl _ _⟩ | exact⟨hc0,hd0,(Below.refl _ _).drew⟩ | exact⟨EC hS2 hs1 hc0,EC hS2 hs2 hd0,hS2⟩)
      (first | (go_at_call 14;refine(TS.out _ (by exact(Below.refl _ _).drew)).mono ?_;rintro e W1 ⟨hS1,rfl⟩;have hS2:Below wr.heap.size wr W1:=((Below.refl wr.heap.size wr).drew).trans hS1;clear hS1))
     have zD:Hid (Below w.heap.size w _):=AA (CP.out.trans (hS2.mono hsz))
     clear hS2 hc0 hd0
     go_wp2_with fail
    ·go_ret
     exact⟨zD.out,false,rfl,by simp only [Bool.false_eq_true,false_iff];exact Jo.out⟩
    ·exact⟨⟨k+1,by omega,by go_num,zD.out,HT2.out⟩,by simp [intOf];omega⟩
   ·obtain rfl:k=n:=by omega
    have hT:Hid (l=l'):=by
     have:=HR.out
     rw [List.take_of_length_le (by rw [Hn.out];exact Nat.le_refl _),List.take_of_length_le (by rw [dZ.out];exact Nat.le_refl _)] at this
     exact AA this
    go_wp2_with fail
    go_ret
    exact⟨CP.out,true,rfl,by simp only [true_iff];exact hT.out⟩
 ·have hF:Hid (l≠l'):=AA (fun h=>hnn (by rw [hn,hn',h]))
  have hne:((n:Int) !=n')=true:=by simp;omega
  clear h h' hn hn' hle
  go_enter func45,ntmps45
  go_wp2_with fail
  go_ret
  exact⟨Below.refl _ _,false,rfl,by simp only [Bool.false_eq_true,false_iff];exact hF.out⟩
theorem MP (cs cs':List Value) (hi hi':Nat) (x y:FU) (w:World) (h:K8.R w 0 hi cs x) (h':K8.R w 0 hi' cs' y) (hhi:hi≤w.heap.size) (QA:hi'≤w.heap.size) (hle:yA x):
 Calls prog 12 #[.agg cs.toArray,.agg cs'.toArray] w (JD x y w):=by
 obtain⟨I4,Df,Ie,K9,rfl,GI,Cj,Ig,NP,NQ,OE,NS,NT⟩:=DR.1 h
 obtain⟨ABe,AFV,AFW,v_res',rfl,QE,TG,TH,uf,ug,aH,uh,uj⟩:=DR.1 h'
 obtain⟨YX,RX,rfl⟩:=AJ GI
 obtain⟨VF,VG,rfl⟩:=AJ QE
 have nR:=AA GI;have iG:=AA QE
 obtain⟨Jb,G5,rfl⟩:=AJ Cj
 obtain⟨YZ,Ya,rfl⟩:=AJ TG
 have Q7:=AA Cj;have nS:=AA TG
 obtain⟨dG,VK,rfl⟩:=AJ Ig
 obtain⟨Yb,Yc,rfl⟩:=AJ TH
 have um:=AA Ig;have nT:=AA TH
 obtain⟨xE,jF,rfl⟩:=AJ OE
 obtain⟨nU,nV,rfl⟩:=AJ aH
 have AFX:=AA OE;have AAa:=AA aH
 have N8:=AA hle
 clear h h' hle GI QE Cj TG Ig TH NP uf NQ ug OE aH NS uh NT uj
 try unfold bv
 try unfold uv
 refine(Bool.eq_false_or_eq_true (x.CU==y.CU)).elim (fun s0=> ?_) (fun hne=> ?_)
 refine(Bool.eq_false_or_eq_true (x.end_==y.end_)).elim (fun s1=> ?_) (fun hne=> ?_)
 refine(Bool.eq_false_or_eq_true (x.trap==y.trap)).elim (fun s2=> ?_) (fun hne=> ?_)
 refine(Bool.eq_false_or_eq_true (x.used==y.used)).elim (fun s3=> ?_) (fun hne=> ?_)
 rotate_left
 iterate 4
  ·have HX:Hid (x≠y):=AA (fun he=>by subst he;simp at hne)
   go_enter func12,ntmps12
   go_wp2_with fail
   go_ret
   exact Qf VA HX.out
 have AAb:=AA (U_ int_ne' s0)
 have AAc:=AA (U_ int_ne' s1)
 have AAd:=AA (U_ int_ne' s2)
 have AAe:=AA (U_ int_ne' s3)
 go_enter func12,ntmps12
 go_wp2_with fail
 generalize hw:(w.alloc _).alloc _=w1
 have S:Hid (Lu 35 w w1 [.slice YX x.frames.length RX,.slice Jb x.globs.length G5,.slice dG x.pages.length VK,.int .i64 x.CU,.int .i8 x.end_,.slice xE x.res.length jF,.int .i8 x.trap,.int .i64 x.used] [.slice VF y.frames.length VG,.slice YZ y.globs.length Ya,.slice Yb y.pages.length Yc,.int .i64 y.CU,.int .i8 y.end_,.slice nU y.res.length nV,.int .i8 y.trap,.int .i64 y.used] fun _=>True):=by rw [←hw];exact AA (Lu.init _ _ _ _)
 clear hw
 refine(iF YX VF x.frames.length y.frames.length RX VG hi hi' x.frames y.frames w1 (Rd.below nR.out S.out.H hhi) (Rd.below iG.out S.out.H QA) (Nat.le_trans hhi S.out.H.size) (Nat.le_trans QA S.out.H.size) N8.out.1).mono ?_
 rintro e w2 ⟨hbe,b,rfl,hb⟩
 replace S:=AA (S.out.below hbe)
 clear hbe
 cases b
 case false=>
  have HX:Hid (x≠y):=AA (fun he=>by cases hb.2 (by rw [he]))
  clear hb
  go_wp2_with fail
  go_ret
  exact Qf S.out.H HX.out
 have nW:=AA (hb.1 rfl);clear hb
 have hc:=S.out.b.q 1 rfl;have hd:=S.out.r.q 1 rfl
 go_wp2_with fail
 clear hc hd
 refine(OP Jb YZ x.globs.length y.globs.length G5 Ya hi hi' x.globs y.globs w2 (Rd.below Q7.out S.out.H hhi) (Rd.below nS.out S.out.H QA) (by have:=N8.out.2.1;omega)).mono ?_
 rintro e w3 ⟨hbe,b,rfl,hb⟩
 replace S:=AA (S.out.below hbe)
 clear hbe
 cases b
 case false=>
  have HX:Hid (x≠y):=AA (fun he=>by cases hb.2 (by rw [he]))
  clear hb
  go_wp2_with fail
  go_ret
  exact Qf S.out.H HX.out
 have uo:=AA (hb.1 rfl);clear hb
 have hc:=S.out.b.q 2 rfl;have hd:=S.out.r.q 2 rfl
 go_wp2_with fail
 clear hc hd
 refine(nQ dG Yb x.pages.length y.pages.length VK Yc hi hi' x.pages y.pages w3 (Rd.below um.out S.out.H hhi) (Rd.below nT.out S.out.H QA) (Nat.le_trans hhi S.out.H.size) (Nat.le_trans QA S.out.H.size) N8.out.2.2.1).mono ?_
 rintro e w4 ⟨hbe,b,rfl,hb⟩
 replace S:=AA (S.out.below hbe)
 clear hbe
 cases b
 case false=>
  have HX:Hid (x≠y):=AA (fun he=>by cases hb.2 (by rw [he]))
  clear hb
  go_wp2_with fail
  go_ret
  exact Qf S.out.H HX.out
 have uq:=AA (hb.1 rfl);clear hb
 have hc:=S.out.b.q 5 rfl;have hd:=S.out.r.q 5 rfl
 go_wp2_with fail
 clear hc hd
 refine(OP xE nU x.res.length y.res.length jF nV hi hi' x.res y.res w4 (Rd.below AFX.out S.out.H hhi) (Rd.below AAa.out S.out.H QA) (by have:=N8.out.2.2.2;omega)).mono ?_
 rintro e w5 ⟨hbe,b,rfl,hb⟩
 replace S:=AA (S.out.below hbe)
 clear hbe
 cases b
 case false=>
  have HX:Hid (x≠y):=AA (fun he=>by cases hb.2 (by rw [he]))
  clear hb
  go_wp2_with fail
  go_ret
  exact Qf S.out.H HX.out
 have AFY:=AA (hb.1 rfl);clear hb
 go_wp2_with fail
 go_ret
 exact nN S.out.H (by
  have AFZ:=nW.out;have e_globs:=uo.out;have e_pages:=uq.out;have e_reps:=AAb.out;have e_end_:=AAc.out;have e_res:=AFY.out;have e_trap:=AAd.out;have e_used:=AAe.out
  cases x;cases y;congr)
end Go.Proofs.YtlagonfamllgjaaGreatDoor
