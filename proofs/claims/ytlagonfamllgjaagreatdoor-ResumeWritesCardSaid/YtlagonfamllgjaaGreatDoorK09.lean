/- Part 9 of the proof: SizeM SizeS Long -/
import Derived.Test.YtlagonfamllgjaaGreatDoorK03
namespace Go.Proofs.YtlagonfamllgjaaGreatDoor
set_option linter.unusedVariables false
set_option linter.unusedSimpArgs false
set_option maxRecDepth 100000
set_option maxHeartbeats 4000000
open Go.RowKit Tryz
def zi (x:Bv):Prop:=x.loc.size≤140737488351232∧x.code.length≤140737488351232∧ ∀i∈x.code,Ut i
structure bV (x:AP):Prop where
 types:x.types.length≤140737488351232
 hosts:x.hosts.length≤140737488351232
 globs:x.globs.length≤140737488351232
 fnsl:x.fns.length≤140737488351232
 fns: ∀i∈x.fns,zi i
 datl:x.dat.length≤140737488351232
 dat: ∀i∈x.dat,i.b.length≤140737488351232
 Au:x.Au.length≤140737488351232
def SzC (w1:World) (N:Nat) (s:Value) (wx:World):Prop:= ∃(m q:Nat),s= .int .i64 m∧wx=w1.drewN q∧Cap m N∧m≤1125899906842624
def F8 (w1:World) (N:Nat) {α:Type} (f:α→Nat) (l:List α) (x i:Value) (wr:World):Prop:= ∃k m q:Nat,k≤l.length∧i= .int .i64 k∧x= .int .i64 m∧wr=w1.drewN q∧Cap m (N+BG f (l.take k))∧m≤1125899906842624
theorem F8.stop {w1:World} {N k m q:Nat} {α:Type} {f:α→Nat} {l:List α} (hm:Cap m (N+BG f (l.take k))) (hn:2147483647<m) (h5:m≤1125899906842624):SzC w1 (N+BG f l) (.int .i64 m) (w1.drewN q):=
 ⟨m,q,rfl,rfl,hm.stop hn (by have:=LD f l k;omega),h5⟩
theorem F8.all {w1:World} {N k m q:Nat} {α:Type} {f:α→Nat} {l:List α} (hm:Cap m (N+BG f (l.take k))) (hk:k=l.length) (h5:m≤1125899906842624):SzC w1 (N+BG f l) (.int .i64 m) (w1.drewN q):=
 ⟨m,q,rfl,rfl,by rwa [List.take_of_length_le (by rw [hk];exact Nat.le_refl _)] at hm,h5⟩
theorem F8.next {α:Type} {f:α→Nat} {l:List α} {N k m g:Nat} {x:α} (hm:Cap m (N+BG f (l.take k))) (hx:l[k]?=some x) (hg:Cap g (f x)):Cap (m+g) (N+BG f (l.take (k+1))):=by
 rw [Rz _ hx,←Nat.add_assoc]
 exact hm.step hg
theorem Xl (cs:List Value) (hi:Nat) (x:AP) (w:World) (h:DJ.R w 0 hi cs x) (hhi:hi≤w.heap.size) (hin:bV x):
 Calls prog 16 #[.agg cs.toArray] w fun e w'=>Below w.heap.size w w'∧ ∃n:Nat,e= .returned (.int .i64 n)∧Cap n (Bg x):=by
 obtain⟨Gs,GK,Cm,Iz,Ic,Ev,rfl,Di,Dj,BN,Ez,Gt,Gu,Gv,Eb⟩:=Am.1 h
 clear h Ez Gt
 obtain⟨J5,I8,rfl⟩:=AB Di
 obtain⟨J6,I9,rfl⟩:=AB Dj
 obtain⟨D5,Dk,rfl⟩:=AB BN
 obtain⟨Qk,Ol,rfl⟩:=AB Gu
 obtain⟨Ql,Om,rfl⟩:=AB Gv
 obtain⟨MZ,K9,rfl⟩:=AB Eb
 have O6:=AA Di
 have RZ:=AA Dj
 have J7:=AA BN
 have Xm:=AA Gu
 have Xn:=AA Gv
 have SK:=AA Eb
 clear Di Dj BN Gu Gv Eb
 have Hin:=AA hin
 have l0:=hin.types;have l1:=hin.hosts;have l2:=hin.globs;have l3:=hin.fnsl;have l4:=hin.datl;have l5:=hin.Au
 clear hin
 go_enter func16,ntmps16
 go_upto_block 0 with fail
 generalize hw:w.alloc _=w1
 have Hb1:Hid (AQ w1 w.heap.size 29 [.slice J5 x.types.length I8,.slice J6 x.hosts.length I9,.slice D5 x.globs.length Dk,.int .i64 x.first,.int .i64 x.most,.slice Qk x.fns.length Ol,.slice Ql x.dat.length Om,.slice MZ x.Au.length K9]):=by rw [←hw];exact AA (AQ.new w 29 [.slice J5 x.types.length I8,.slice J6 x.hosts.length I9,.slice D5 x.globs.length Dk,.int .i64 x.first,.int .i64 x.most,.slice Qk x.fns.length Ol,.slice Ql x.dat.length Om,.slice MZ x.Au.length K9])
 have H1:Hid (Below w.heap.size w w1):=by rw [←hw];exact AA ((Below.refl _ _).alloc (Nat.le_refl _) _)
 clear hw
 have Ra:Hid (Cap (x.types.length+x.hosts.length+x.globs.length+x.fns.length+x.dat.length+x.Au.length) (x.types.length+x.hosts.length+x.globs.length+x.fns.length+x.dat.length+x.Au.length)∧(x.types.length+x.hosts.length+x.globs.length+x.fns.length+x.dat.length+x.Au.length)≤1125899906842624):=AA ⟨.inl rfl,by omega⟩
 go_cut [3] from 31 to 58 (fun s wx=>SzC w1 ((x.types.length+x.hosts.length+x.globs.length+x.fns.length+x.dat.length+x.Au.length)+BG (fun t:Cg=>t.p.size+t.r.size) x.types) s wx)
 case first=>
  have hbx:=Hb1.out.q 0 rfl
  go_wp2_with fail
  go_loopw [3,4] (fun s i wr=>F8 w1 (x.types.length+x.hosts.length+x.globs.length+x.fns.length+x.dat.length+x.Au.length) (fun t:Cg=>t.p.size+t.r.size) x.types s i wr) (fun _ i _=>x.types.length-(intOf i).toNat)
  case atStart=>exact⟨0,_,0,Nat.zero_le _,rfl,by go_num,rfl,by simpa [BG] using Ra.out.1,Ra.out.2⟩
  case round=>
   obtain⟨k,m,q,hk,rfl,rfl,rfl,hm,UK⟩:=hrel
   have Hm:=AA hm;clear hm
   by_cases hlt:k<x.types.length
   ·by_cases hm2:m≤2147483647
    ·obtain⟨y,hx⟩: ∃y,x.types[k]?=some y:=⟨_,List.getElem?_eq_getElem hlt⟩
     obtain⟨b,o,rfl,_,_,hc0,hc1,p_p,p_r⟩:=CZ (Rd.below O6.out H1.out hhi) hx
     unfold Rd.Pq at p_p p_r
     have HS:=AA (F8.next Hm.out hx (.inl rfl))
     have Uu:decide ((m:Int)≤2147483647)=true:=decide_eq_true (by omega)
     have hi0:(0:Int)≤k:=by omega
     clear hx
     go_wp2_with fail
     go_quiet (fail)
     go_wp2_with fail
     exact⟨⟨k+1,m+(y.p.size+y.r.size),q+nq,by omega,by go_num,by go_num,rfl,HS.out,by omega⟩,by simp [intOf];omega⟩
    ·have Uu:decide ((m:Int)≤2147483647)=false:=decide_eq_false (by omega)
     go_wp2_with fail
     go_meet
     exact F8.stop Hm.out (by omega) UK
   ·go_wp2_with fail
    go_meet
    exact F8.all Hm.out (by omega) UK
 case rest=>
  obtain⟨n0,q0,rfl,rfl,hcap,lF⟩:=hcut
  clear Ra
  have Ra:=AA (And.intro hcap lF)
  clear hcap lF
  go_upto_block 2 with fail
  go_cut [3] from 59 to 86 (fun s wx=>SzC w1 (((x.types.length+x.hosts.length+x.globs.length+x.fns.length+x.dat.length+x.Au.length)+BG (fun t:Cg=>t.p.size+t.r.size) x.types)+BG (JB) x.fns) s wx)
  case first=>
   have hbx:=Hb1.out.q 5 rfl
   go_wp2_with fail
   go_loopw [3,5] (fun s i wr=>F8 w1 ((x.types.length+x.hosts.length+x.globs.length+x.fns.length+x.dat.length+x.Au.length)+BG (fun t:Cg=>t.p.size+t.r.size) x.types) (JB) x.fns s i wr) (fun _ i _=>x.fns.length-(intOf i).toNat)
   case atStart=>exact⟨0,n0,q0,Nat.zero_le _,rfl,rfl,rfl,by simpa [BG] using Ra.out.1,Ra.out.2⟩
   case round=>
    obtain⟨k,m,q,hk,rfl,rfl,rfl,hm,UK⟩:=hrel
    have Hm:=AA hm;clear hm
    by_cases hlt:k<x.fns.length
    ·by_cases hm2:m≤2147483647
     ·obtain⟨y,hx⟩: ∃y,x.fns[k]?=some y:=⟨_,List.getElem?_eq_getElem hlt⟩
      obtain⟨b,o,Ea,EK,rfl,_,_,hc0,hc1,hc2,_,AC6,Db⟩:=Eu (Rd.below Xm.out H1.out hhi) hx
      unfold Rd.Pq at AC6
      have hfn:=Hin.out.fns y (List.mem_of_getElem? hx)
      have HX:=AA hx
      have HC:=AA (fun W (hW:Below w1.heap.size w1 W)=>fB Ea y.code.length EK hi y.code W (Rd.below Db hW (Nat.le_trans hhi H1.out.size)) hfn.2.1 hfn.2.2)
      have hcc:=ZP hfn.2.1 hfn.2.2
      clear Db hfn
      have Uu:decide ((m:Int)≤2147483647)=true:=decide_eq_true (by omega)
      have hi0:(0:Int)≤k:=by omega
      clear hx
      go_wp2_with fail
      go_quiet ((go_at_call 50;first | exact BA (HC.out _ (below_drewN (Below.refl _ _) _)) | exact BF (HC.out _ (below_drewN (Below.refl _ _) _))))
      go_wp2_with fail
      have HS:=AA (F8.next (g:=y.loc.size+LM y.code) Hm.out HX.out ((Cap.step (.inl rfl) (XR y.code)):Cap _ (JB y)))
      exact⟨⟨k+1,m+(y.loc.size+LM y.code),q+nq,by omega,by go_num,by go_num,rfl,HS.out,by omega⟩,by simp [intOf];omega⟩
     ·have Uu:decide ((m:Int)≤2147483647)=false:=decide_eq_false (by omega)
      go_wp2_with fail
      go_meet
      exact F8.stop Hm.out (by omega) UK
    ·go_wp2_with fail
     go_meet
     exact F8.all Hm.out (by omega) UK
  case rest=>
   obtain⟨n0,q0,rfl,rfl,hcap,lF⟩:=hcut
   clear Ra
   have Ra:=AA (And.intro hcap lF)
   clear hcap lF
   go_upto_block 4 with fail
   go_cut [3] from 87 to 106 (fun s wx=>SzC w1 ((((x.types.length+x.hosts.length+x.globs.length+x.fns.length+x.dat.length+x.Au.length)+BG (fun t:Cg=>t.p.size+t.r.size) x.types)+BG (JB) x.fns)+BG (fun d:Gh=>d.b.length) x.dat) s wx)
   case first=>
    have hbx:=Hb1.out.q 6 rfl
    go_wp2_with fail
    go_loopw [3,6] (fun s i wr=>F8 w1 (((x.types.length+x.hosts.length+x.globs.length+x.fns.length+x.dat.length+x.Au.length)+BG (fun t:Cg=>t.p.size+t.r.size) x.types)+BG (JB) x.fns) (fun d:Gh=>d.b.length) x.dat s i wr) (fun _ i _=>x.dat.length-(intOf i).toNat)
    case atStart=>exact⟨0,n0,q0,Nat.zero_le _,rfl,rfl,rfl,by simpa [BG] using Ra.out.1,Ra.out.2⟩
    case round=>
     obtain⟨k,m,q,hk,rfl,rfl,rfl,hm,UK⟩:=hrel
     have Hm:=AA hm;clear hm
     by_cases hlt:k<x.dat.length
     ·by_cases hm2:m≤2147483647
      ·obtain⟨y,hx⟩: ∃y,x.dat[k]?=some y:=⟨_,List.getElem?_eq_getElem hlt⟩
       obtain⟨b,o,Nv,Ni,rfl,_,_,hc0,hc1,_,_⟩:=IY (Rd.below Xn.out H1.out hhi) hx
       have hdl:=Hin.out.dat y (List.mem_of_getElem? hx)
       have HS:=AA (F8.next Hm.out hx (.inl rfl))
       have Uu:decide ((m:Int)≤2147483647)=true:=decide_eq_true (by omega)
       have hi0:(0:Int)≤k:=by omega
       clear hx
       go_wp2_with fail
       exact⟨⟨k+1,m+(y.b.length),q,by omega,by go_num,by go_num,rfl,HS.out,by omega⟩,by simp [intOf];omega⟩
      ·have Uu:decide ((m:Int)≤2147483647)=false:=decide_eq_false (by omega)
       go_wp2_with fail
       go_meet
       exact F8.stop Hm.out (by omega) UK
     ·go_wp2_with fail
      go_meet
      exact F8.all Hm.out (by omega) UK
   case rest=>
    obtain⟨n0,q0,rfl,rfl,hcap,lF⟩:=hcut
    clear Ra
    have Ra:=AA (And.intro hcap lF)
    clear hcap lF
    go_upto_block 6 with fail
    go_cut [3] from 107 to 126 (fun s wx=>SzC w1 (((((x.types.length+x.hosts.length+x.globs.length+x.fns.length+x.dat.length+x.Au.length)+BG (fun t:Cg=>t.p.size+t.r.size) x.types)+BG (JB) x.fns)+BG (fun d:Gh=>d.b.length) x.dat)+BG (fun e:KU=>e.n.size) x.Au) s wx)
    case first=>
     have hbx:=Hb1.out.q 7 rfl
     go_wp2_with fail
     go_loopw [3,7] (fun s i wr=>F8 w1 ((((x.types.length+x.hosts.length+x.globs.length+x.fns.length+x.dat.length+x.Au.length)+BG (fun t:Cg=>t.p.size+t.r.size) x.types)+BG (JB) x.fns)+BG (fun d:Gh=>d.b.length) x.dat) (fun e:KU=>e.n.size) x.Au s i wr) (fun _ i _=>x.Au.length-(intOf i).toNat)
     case atStart=>exact⟨0,n0,q0,Nat.zero_le _,rfl,rfl,rfl,by simpa [BG] using Ra.out.1,Ra.out.2⟩
     case round=>
      obtain⟨k,m,q,hk,rfl,rfl,rfl,hm,UK⟩:=hrel
      have Hm:=AA hm;clear hm
      by_cases hlt:k<x.Au.length
      ·by_cases hm2:m≤2147483647
       ·obtain⟨y,hx⟩: ∃y,x.Au[k]?=some y:=⟨_,List.getElem?_eq_getElem hlt⟩
        obtain⟨b,o,rfl,_,_,hc0,hc1,p_n,_⟩:=Jw (Rd.below SK.out H1.out hhi) hx
        unfold Rd.Pq at p_n
        have HS:=AA (F8.next Hm.out hx (.inl rfl))
        have Uu:decide ((m:Int)≤2147483647)=true:=decide_eq_true (by omega)
        have hi0:(0:Int)≤k:=by omega
        clear hx
        go_wp2_with fail
        exact⟨⟨k+1,m+(y.n.size),q,by omega,by go_num,by go_num,rfl,HS.out,by omega⟩,by simp [intOf];omega⟩
       ·have Uu:decide ((m:Int)≤2147483647)=false:=decide_eq_false (by omega)
        go_wp2_with fail
        go_meet
        exact F8.stop Hm.out (by omega) UK
      ·go_wp2_with fail
       go_meet
       exact F8.all Hm.out (by omega) UK
    case rest=>
     obtain⟨n0,q0,rfl,rfl,hcap,lF⟩:=hcut
     clear Ra
     have Ra:=AA (And.intro hcap lF)
     clear hcap lF
     go_wp2_with fail
     go_ret
     exact⟨below_drewN H1.out _,n0,rfl,by simpa only [Bg,Nat.add_assoc] using Ra.out.1⟩
def sS (x:Jy):Prop:=x.loc.length≤140737488351232∧x.st.length≤140737488351232
structure RA (x:FH):Prop where
 Rb:x.frames.length≤140737488351232
 frames: ∀i∈x.frames,sS i
 globs:x.globs.length≤140737488351232
 SL:x.pages.length≤140737488351232
 pages: ∀i∈x.pages,i.length≤140737488351232
 res:x.res.length≤140737488351232
theorem Zg (cs:List Value) (hi:Nat) (x:FH) (w:World) (h:K7.R w 0 hi cs x) (hhi:hi≤w.heap.size) (hin:RA x):
 Calls prog 21 #[.agg cs.toArray] w fun e w'=>Below w.heap.size w w'∧ ∃n:Nat,e= .returned (.int .i64 n)∧Cap n (fA x):=by
 obtain⟨F3,Cm,GL,Ie,rfl,Cj,BN,DY,Gw,lG,IB,Gx,Gy⟩:=CU.1 h
 clear h Gw lG Gx Gy
 obtain⟨FM,Ej,rfl⟩:=AB Cj
 obtain⟨D5,Dk,rfl⟩:=AB BN
 obtain⟨GQ,FW,rfl⟩:=AB DY
 obtain⟨Qm,Oo,rfl⟩:=AB IB
 have Ma:=AA Cj
 have Hin:=AA hin
 have l0:=hin.Rb;have l1:=hin.globs;have l2:=hin.SL;have l3:=hin.res
 have hcp:=XT hin.SL hin.pages
 have HC:=AA (fun W (hW:Below w.heap.size w W)=>ZQ GQ x.pages.length FW hi x.pages W (Rd.below DY hW hhi) hin.SL hin.pages)
 clear hin Cj BN DY IB
 go_enter func21,ntmps21
 go_wp2_with fail
 generalize hw:w.alloc _=w1
 have Hb1:Hid (AQ w1 w.heap.size 35 [.slice FM x.frames.length Ej,.slice D5 x.globs.length Dk,.slice GQ x.pages.length FW,.int .i64 x.Bj,.int .i8 x.end_,.slice Qm x.res.length Oo,.int .i8 x.trap,.int .i64 x.used]):=by rw [←hw];exact AA (AQ.new w 35 [.slice FM x.frames.length Ej,.slice D5 x.globs.length Dk,.slice GQ x.pages.length FW,.int .i64 x.Bj,.int .i8 x.end_,.slice Qm x.res.length Oo,.int .i8 x.trap,.int .i64 x.used])
 have H1:Hid (Below w.heap.size w w1):=by rw [←hw];exact AA ((Below.refl _ _).alloc (Nat.le_refl _) _)
 clear hw
 have hb0:=Hb1.out.q 0 rfl
 have hb1:=Hb1.out.q 1 rfl
 have hb2:=Hb1.out.q 2 rfl
 have hb5:=Hb1.out.q 5 rfl
 go_quiet ((go_at_call 61;first | exact BA (HC.out _ (below_drewN H1.out _)) | exact BF (HC.out _ (below_drewN H1.out _))))
 clear hb1 hb2 hb5
 have Ra:Hid (Cap (x.frames.length+x.globs.length+x.res.length+JZ x.pages) (x.frames.length+x.globs.length+x.res.length+LH x.pages)∧x.frames.length+x.globs.length+x.res.length+JZ x.pages≤1125899906842624):=AA ⟨Cap.step (.inl rfl) (Vh _),by omega⟩
 go_wp2_with fail
 go_loopw [3,4] (fun s i wr=>F8 w1 (x.frames.length+x.globs.length+x.res.length+LH x.pages) (fun f:Jy=>f.loc.length+f.st.length) x.frames s i wr) (fun _ i _=>x.frames.length-(intOf i).toNat)
 case atStart=>exact⟨0,_,_,Nat.zero_le _,rfl,by go_num,rfl,by simpa [BG] using Ra.out.1,Ra.out.2⟩
 case round=>
  obtain⟨k,m,q,hk,rfl,rfl,rfl,hm,UK⟩:=hrel
  have Hm:=AA hm;clear hm
  by_cases hlt:k<x.frames.length
  ·by_cases hm2:m≤2147483647
   ·obtain⟨y,hx⟩: ∃y,x.frames[k]?=some y:=⟨_,List.getElem?_eq_getElem hlt⟩
    obtain⟨b,o,E8,ET,I_,Io,rfl,_,_,hc0,hc1,hc2,hc3,_,_,_,_⟩:=JR (Rd.below Ma.out H1.out hhi) hx
    obtain⟨hf1,hf2⟩:=Hin.out.frames y (List.mem_of_getElem? hx)
    have HS:=AA (F8.next Hm.out hx (.inl rfl))
    have Uu:decide ((m:Int)≤2147483647)=true:=decide_eq_true (by omega)
    have hi0:(0:Int)≤k:=by omega
    clear hx
    go_wp2_with fail
    go_quiet (fail)
    go_wp2_with fail
    exact⟨⟨k+1,m+(y.loc.length+y.st.length),q+nq,by omega,by go_num,by go_num,rfl,HS.out,by omega⟩,by simp [intOf];omega⟩
   ·have Uu:decide ((m:Int)≤2147483647)=false:=decide_eq_false (by omega)
    go_wp2_with fail
    go_ret
    exact⟨below_drewN H1.out _,m,rfl,Hm.out.stop (by omega) (by have:=LD (fun f:Jy=>f.loc.length+f.st.length) x.frames k;unfold fA;omega)⟩
  ·go_wp2_with fail
   go_ret
   exact⟨below_drewN H1.out _,m,rfl,by have:=Hm.out;rwa [List.take_of_length_le (by omega)] at this⟩
theorem SN (n:Int) (w:World):Calls prog 15 #[.int .i64 n] w fun e w'=>w=w'∧e= .returned (.bool (decide (n>2147483647))):=by
 go_enter func15,ntmps15
 go_wp2
 go_ret
 simp
theorem fT (c:Nat) (w:World):Calls prog 22 #[.slice none 0 c] w fun e w'=>w=w'∧e= .returned (.int .i64 0):=by
 go_enter func22,ntmps22
 go_wp2_with fail
 go_loopw [3,4] (fun x i wr=>x= .int .i64 0∧i= .int .i64 0∧wr=w) (fun _ i _=>0-(intOf i).toNat)
 case atStart=>exact⟨rfl,rfl,rfl⟩
 case round=>
  obtain⟨rfl,rfl,rfl⟩:=hrel
  go_wp2_with fail
  go_ret
  exact⟨rfl,rfl⟩
def QC (x:AP) (s:FH):Prop:=Bg x≤2147483647∧fA s≤2147483647∧s.pages.length≤70∧s.frames.length≤100
theorem lH (cs cs':List Value) (hi hi' c:Nat) (x:AP) (y:FH) (w:World) (h:DJ.R w 0 hi cs x) (h':K7.R w 0 hi' cs' y) (hhi:hi≤w.heap.size) (El:hi'≤w.heap.size) (hin:bV x) (hin':RA y):
 Calls prog 5 #[.agg cs.toArray,.slice none 0 c,.agg cs'.toArray] w fun e w'=>Below w.heap.size w w'∧ ∃b,e= .returned (.bool b)∧(b=false↔QC x y):=by
 have Hin:=AA hin;have Hin':=AA hin'
 have Hm:=AA h;have Hs:=AA h'
 obtain⟨Gs,GK,Cm,Iz,Ic,Ev,rfl,Di,Dj,BN,Ez,Gt,Gu,Gv,Eb⟩:=Am.1 h
 obtain⟨F3,AC7,GL,Ie,rfl,Cj,h_gl,DY,Gw,lG,IB,Gx,Gy⟩:=CU.1 h'
 obtain⟨FM,Ej,rfl⟩:=AB Cj
 obtain⟨GQ,FW,rfl⟩:=AB DY
 have lp:=hin'.SL;have lf:=hin'.Rb
 clear h h' hin hin' Di Dj BN Ez Gt Gu Gv Eb Cj h_gl DY Gw lG IB Gx Gy
 go_enter func5,ntmps5
 go_wp2_with fail
 generalize hw:(w.alloc _).alloc _=w1
 have Hr1:Hid (AQ w1 (w.heap.size+1) 35 [.slice FM y.frames.length Ej,AC7,.slice GQ y.pages.length FW,.int .i64 y.Bj,.int .i8 y.end_,Ie,.int .i8 y.trap,.int .i64 y.used]):=by rw [←hw];exact AA (by have:=AQ.new (w.alloc (.cells (List.toArray [Gs,GK,Cm,.int .i64 x.first,.int .i64 x.most,Iz,Ic,Ev]) 29)) 35 [.slice FM y.frames.length Ej,AC7,.slice GQ y.pages.length FW,.int .i64 y.Bj,.int .i8 y.end_,Ie,.int .i8 y.trap,.int .i64 y.used];rwa [World.size_alloc] at this)
 have H1:Hid (Below w.heap.size w w1):=by rw [←hw];exact AA (((Below.refl _ _).alloc (Nat.le_refl _) _).alloc (by simp) _)
 clear hw
 refine(Xl _ hi x w1 (Rd.below Hm.out H1.out hhi) (Nat.le_trans hhi H1.out.size) Hin.out).mono ?_
 rintro e w2 ⟨hbe,n1,rfl,hc1⟩
 have Hc1:=AA hc1
 have UO:=AA (Hr1.out.below hbe Hr1.out.lt)
 have H2:=AA (H1.out.trans (hbe.mono H1.out.size))
 clear hbe hc1 Hr1
 go_wp2_with fail
 refine(SN _ _).mono ?_
 rintro e w' ⟨rfl,rfl⟩
 by_cases hn:n1≤2147483647
 case neg=>
  have HX:Hid (¬QC x y):=AA (fun hf=>hn (Hc1.out.iff.2 hf.1))
  have hd:decide ((n1:Int)>2147483647)=true:=decide_eq_true (by omega)
  go_wp2_with fail
  go_ret
  exact⟨H2.out,true,rfl,by simp only [Bool.true_eq_false,false_iff];exact HX.out⟩
 have HM:Hid (Bg x≤2147483647):=AA (Hc1.out.iff.1 hn)
 have hd:decide ((n1:Int)>2147483647)=false:=decide_eq_false (by omega)
 have hc0:=UO.out.q 0 rfl
 have hc1:=UO.out.q 1 rfl
 have hc2:=UO.out.q 2 rfl
 have hc3:=UO.out.q 3 rfl
 have hc4:=UO.out.q 4 rfl
 have xq:=UO.out.q 5 rfl
 have hc6:=UO.out.q 6 rfl
 have hc7:=UO.out.q 7 rfl
 go_wp2_with fail
 clear hc0 hc1 hc2 hc3 hc4 xq hc6 hc7 hd
 refine(Zg _ hi' y w2 (Rd.below Hs.out H2.out El) (Nat.le_trans El H2.out.size) Hin'.out).mono ?_
 rintro e w3 ⟨hbe,n2,rfl,hc2⟩
 have Hc2:=AA hc2
 have Hr3:=AA (UO.out.below hbe UO.out.lt)
 have H3:=AA (H2.out.trans (hbe.mono H2.out.size))
 clear hbe hc2 UO
 go_wp2_with fail
 refine(SN _ _).mono ?_
 rintro e w' ⟨rfl,rfl⟩
 by_cases hn2:n2≤2147483647
 case neg=>
  have HX:Hid (¬QC x y):=AA (fun hf=>hn2 (Hc2.out.iff.2 hf.2.1))
  have hd:decide ((n2:Int)>2147483647)=true:=decide_eq_true (by omega)
  go_wp2_with fail
  go_ret
  exact⟨H3.out,true,rfl,by simp only [Bool.true_eq_false,false_iff];exact HX.out⟩
 have HS:Hid (fA y≤2147483647):=AA (Hc2.out.iff.1 hn2)
 have hd:decide ((n2:Int)>2147483647)=false:=decide_eq_false (by omega)
 go_wp2_with fail
 clear hd
 refine(fT _ _).mono ?_
 rintro e w' ⟨rfl,rfl⟩
 go_wp2_with fail
 refine(SN _ _).mono ?_
 rintro e w' ⟨rfl,rfl⟩
 have hc2:=Hr3.out.q 2 rfl
 by_cases hp:y.pages.length≤70
 case neg=>
  have HX:Hid (¬QC x y):=AA (fun hf=>hp hf.2.2.1)
  have hd:decide ((y.pages.length:Int)>70)=true:=decide_eq_true (by omega)
  go_wp2_with fail
  go_ret
  exact⟨H3.out,true,rfl,by simp only [Bool.true_eq_false,false_iff];exact HX.out⟩
 have hd:decide ((y.pages.length:Int)>70)=false:=decide_eq_false (by omega)
 have hc0:=Hr3.out.q 0 rfl
 by_cases hf:y.frames.length≤100
 case neg=>
  have HX:Hid (¬QC x y):=AA (fun hg=>hf hg.2.2.2)
  have hd2:decide ((y.frames.length:Int)>100)=true:=decide_eq_true (by omega)
  go_wp2_with fail
  go_ret
  exact⟨H3.out,true,rfl,by simp only [Bool.true_eq_false,false_iff];exact HX.out⟩
 have HX:Hid (QC x y):=AA ⟨HM.out,HS.out,hp,hf⟩
 have hd2:decide ((y.frames.length:Int)>100)=false:=decide_eq_false (by omega)
 go_wp2_with fail
 go_ret
 exact⟨H3.out,false,rfl,by simp only [true_iff];exact HX.out⟩
end Go.Proofs.YtlagonfamllgjaaGreatDoor
