/- Part 7 of the proof: SizeM SizeS Long Fits ModQ ShapeQ TypesQ PrsQ PrsR -/
import Derived.Lib.IndexMore
import Derived.Lib.IndexLaws
import Derived.Lib.TrimAscii
import Derived.Lib.TrimUEq
import Derived.Lib.CountLaws
import Derived.Test.YtebgikflpgcnlaaGreatDoorP06
namespace Go.Proofs.YtebgikflpgcnlaaGreatDoor
set_option linter.unusedVariables false
set_option linter.unusedSimpArgs false
set_option linter.unusedSectionVars false
set_option maxRecDepth 100000
set_option maxHeartbeats 4000000
open Go.RowKit Tryz
def ABe (x:FL):Prop:=x.loc.size≤140737488351232∧x.code.length≤140737488351232∧ ∀i∈x.code,Yo i
structure rG (x:AQ):Prop where
 types:x.types.length≤140737488351232
 hosts:x.hosts.length≤140737488351232
 globs:x.globs.length≤140737488351232
 fnsl:x.fns.length≤140737488351232
 fns: ∀i∈x.fns,ABe i
 datl:x.dat.length≤140737488351232
 dat: ∀i∈x.dat,i.b.length≤140737488351232
 AO:x.AO.length≤140737488351232
def SzC (w1:World) (N:Nat) (s:Value) (wx:World):Prop:= ∃(m q:Nat),s= .int .i64 m∧wx=w1.drewN q∧Cap m N∧m≤1125899906842624
def LH (w1:World) (N:Nat) {α:Type} (f:α→Nat) (l:List α) (x i:Value) (wr:World):Prop:= ∃k m q:Nat,k≤l.length∧i= .int .i64 k∧x= .int .i64 m∧wr=w1.drewN q∧Cap m (N+Ak f (l.take k))∧m≤1125899906842624
theorem LH.stop {w1:World} {N k m q:Nat} {α:Type} {f:α→Nat} {l:List α} (hm:Cap m (N+Ak f (l.take k))) (hn:2147483647<m) (h5:m≤1125899906842624):SzC w1 (N+Ak f l) (.int .i64 m) (w1.drewN q):=
 ⟨m,q,rfl,rfl,hm.stop hn (by have:=Rw f l k;omega),h5⟩
theorem LH.all {w1:World} {N k m q:Nat} {α:Type} {f:α→Nat} {l:List α} (hm:Cap m (N+Ak f (l.take k))) (hk:k=l.length) (h5:m≤1125899906842624):SzC w1 (N+Ak f l) (.int .i64 m) (w1.drewN q):=
 ⟨m,q,rfl,rfl,by rwa [List.take_of_length_le (by rw [hk];exact Nat.le_refl _)] at hm,h5⟩
theorem LH.next {α:Type} {f:α→Nat} {l:List α} {N k m g:Nat} {x:α} (hm:Cap m (N+Ak f (l.take k))) (hx:l[k]?=some x) (hg:Cap g (f x)):Cap (m+g) (N+Ak f (l.take (k+1))):=by
 rw [Wo _ hx,←Nat.add_assoc]
 exact hm.step hg
theorem bI (cs:List Value) (hi:Nat) (x:AQ) (w:World) (h:IZ.R w 0 hi cs x) (hhi:hi≤w.heap.size) (hin:rG x):
 Calls prog 8 #[.agg cs.toArray] w fun e w'=>Below w.heap.size w w'∧ ∃n:Nat,e= .returned (.int .i64 n)∧Cap n (Ad x):=by
 obtain⟨Oc,Ng,Mh,PE,Od,Kk,rfl,Je,Jf,Jg,Nh,Pv,PG,PI,MX⟩:=DF.1 h
 clear h Nh Pv
 obtain⟨Sz,Q9,rfl⟩:=AU Je
 obtain⟨S9,Q_,rfl⟩:=AU Jf
 obtain⟨S_,RA,rfl⟩:=AU Jg
 obtain⟨bJ,Yl,rfl⟩:=AU PG
 obtain⟨bK,Ym,rfl⟩:=AU PI
 obtain⟨W9,UW,rfl⟩:=AU MX
 have TA:=AA Je
 have WJ:=AA Jf
 have WK:=AA Jg
 have bM:=AA PG
 have bN:=AA PI
 have W_:=AA MX
 clear Je Jf Jg PG PI MX
 have Hin:=AA hin
 have l0:=hin.types;have l1:=hin.hosts;have l2:=hin.globs;have l3:=hin.fnsl;have l4:=hin.datl;have l5:=hin.AO
 clear hin
 go_enter func8,ntmps8
 go_upto_block 0 with fail
 generalize hw:w.alloc _=w1
 have Hb1:Hid (AV w1 w.heap.size 29 [.slice Sz x.types.length Q9,.slice S9 x.hosts.length Q_,.slice S_ x.globs.length RA,.int .i64 x.first,.int .i64 x.most,.slice bJ x.fns.length Yl,.slice bK x.dat.length Ym,.slice W9 x.AO.length UW]):=by rw [←hw];exact AA (AV.new w 29 [.slice Sz x.types.length Q9,.slice S9 x.hosts.length Q_,.slice S_ x.globs.length RA,.int .i64 x.first,.int .i64 x.most,.slice bJ x.fns.length Yl,.slice bK x.dat.length Ym,.slice W9 x.AO.length UW])
 have H1:Hid (Below w.heap.size w w1):=by rw [←hw];exact AA ((Below.refl _ _).alloc (Nat.le_refl _) _)
 clear hw
 have bP:Hid (Cap (x.types.length+x.hosts.length+x.globs.length+x.fns.length+x.dat.length+x.AO.length) (x.types.length+x.hosts.length+x.globs.length+x.fns.length+x.dat.length+x.AO.length)∧(x.types.length+x.hosts.length+x.globs.length+x.fns.length+x.dat.length+x.AO.length)≤1125899906842624):=AA ⟨.inl rfl,by omega⟩
 go_cut [3] from 31 to 58 (fun s wx=>SzC w1 ((x.types.length+x.hosts.length+x.globs.length+x.fns.length+x.dat.length+x.AO.length)+Ak (fun t:Dl=>t.p.size+t.r.size) x.types) s wx)
 case first=>
  have hbx:=Hb1.out.q 0 rfl
  go_wp2_with fail
  go_loopw [3,4] (fun s i wr=>LH w1 (x.types.length+x.hosts.length+x.globs.length+x.fns.length+x.dat.length+x.AO.length) (fun t:Dl=>t.p.size+t.r.size) x.types s i wr) (fun _ i _=>x.types.length-(intOf i).toNat)
  case atStart=>exact⟨0,_,0,Nat.zero_le _,rfl,by go_num,rfl,by simpa [Ak] using bP.out.1,bP.out.2⟩
  case round=>
   obtain⟨k,m,q,hk,rfl,rfl,rfl,hm,Yp⟩:=hrel
   have Hm:=AA hm;clear hm
   by_cases hlt:k<x.types.length
   ·by_cases hm2:m≤2147483647
    ·obtain⟨y,hx⟩: ∃y,x.types[k]?=some y:=⟨_,List.getElem?_eq_getElem hlt⟩
     obtain⟨b,o,rfl,_,_,hc0,hc1,p_p,p_r⟩:=Ii (Rd.below TA.out H1.out hhi) hx
     unfold Rd.U6 at p_p p_r
     have HS:=AA (LH.next Hm.out hx (.inl rfl))
     have IX:decide ((m:Int)≤2147483647)=true:=decide_eq_true (by omega)
     have hi0:(0:Int)≤k:=by omega
     clear hx
     go_wp2_with fail
     go_quiet (fail)
     go_wp2_with fail
     exact⟨⟨k+1,m+(y.p.size+y.r.size),q+nq,by omega,by go_num,by go_num,rfl,HS.out,by omega⟩,by simp [intOf];omega⟩
    ·have IX:decide ((m:Int)≤2147483647)=false:=decide_eq_false (by omega)
     go_wp2_with fail
     go_meet
     exact LH.stop Hm.out (by omega) Yp
   ·go_wp2_with fail
    go_meet
    exact LH.all Hm.out (by omega) Yp
 case rest=>
  obtain⟨n0,q0,rfl,rfl,hcap,rH⟩:=hcut
  clear bP
  have bP:=AA (And.intro hcap rH)
  clear hcap rH
  go_upto_block 2 with fail
  go_cut [3] from 59 to 86 (fun s wx=>SzC w1 (((x.types.length+x.hosts.length+x.globs.length+x.fns.length+x.dat.length+x.AO.length)+Ak (fun t:Dl=>t.p.size+t.r.size) x.types)+Ak (JB) x.fns) s wx)
  case first=>
   have hbx:=Hb1.out.q 5 rfl
   go_wp2_with fail
   go_loopw [3,5] (fun s i wr=>LH w1 ((x.types.length+x.hosts.length+x.globs.length+x.fns.length+x.dat.length+x.AO.length)+Ak (fun t:Dl=>t.p.size+t.r.size) x.types) (JB) x.fns s i wr) (fun _ i _=>x.fns.length-(intOf i).toNat)
   case atStart=>exact⟨0,n0,q0,Nat.zero_le _,rfl,rfl,rfl,by simpa [Ak] using bP.out.1,bP.out.2⟩
   case round=>
    obtain⟨k,m,q,hk,rfl,rfl,rfl,hm,Yp⟩:=hrel
    have Hm:=AA hm;clear hm
    by_cases hlt:k<x.fns.length
    ·by_cases hm2:m≤2147483647
     ·obtain⟨y,hx⟩: ∃y,x.fns[k]?=some y:=⟨_,List.getElem?_eq_getElem hlt⟩
      obtain⟨b,o,G_,Gu,rfl,_,_,hc0,hc1,hc2,_,ADs,JA⟩:=Oy (Rd.below bM.out H1.out hhi) hx
      unfold Rd.U6 at ADs
      have hfn:=Hin.out.fns y (List.mem_of_getElem? hx)
      have HX:=AA hx
      have HC:=AA (fun W (hW:Below w1.heap.size w1 W)=>lM G_ y.code.length Gu hi y.code W (Rd.below JA hW (Nat.le_trans hhi H1.out.size)) hfn.2.1 hfn.2.2)
      have hcc:=gD hfn.2.1 hfn.2.2
      clear JA hfn
      have IX:decide ((m:Int)≤2147483647)=true:=decide_eq_true (by omega)
      have hi0:(0:Int)≤k:=by omega
      clear hx
      go_wp2_with fail
      go_quiet ((go_at_call 20;first | exact Sg (HC.out _ (below_drewN (Below.refl _ _) _)) | exact Mq (HC.out _ (below_drewN (Below.refl _ _) _))))
      go_wp2_with fail
      have HS:=AA (LH.next (g:=y.loc.size+Px y.code) Hm.out HX.out ((Cap.step (.inl rfl) (aX y.code)):Cap _ (JB y)))
      exact⟨⟨k+1,m+(y.loc.size+Px y.code),q+nq,by omega,by go_num,by go_num,rfl,HS.out,by omega⟩,by simp [intOf];omega⟩
     ·have IX:decide ((m:Int)≤2147483647)=false:=decide_eq_false (by omega)
      go_wp2_with fail
      go_meet
      exact LH.stop Hm.out (by omega) Yp
    ·go_wp2_with fail
     go_meet
     exact LH.all Hm.out (by omega) Yp
  case rest=>
   obtain⟨n0,q0,rfl,rfl,hcap,rH⟩:=hcut
   clear bP
   have bP:=AA (And.intro hcap rH)
   clear hcap rH
   go_upto_block 4 with fail
   go_cut [3] from 87 to 106 (fun s wx=>SzC w1 ((((x.types.length+x.hosts.length+x.globs.length+x.fns.length+x.dat.length+x.AO.length)+Ak (fun t:Dl=>t.p.size+t.r.size) x.types)+Ak (JB) x.fns)+Ak (fun d:EZ=>d.b.length) x.dat) s wx)
   case first=>
    have hbx:=Hb1.out.q 6 rfl
    go_wp2_with fail
    go_loopw [3,6] (fun s i wr=>LH w1 (((x.types.length+x.hosts.length+x.globs.length+x.fns.length+x.dat.length+x.AO.length)+Ak (fun t:Dl=>t.p.size+t.r.size) x.types)+Ak (JB) x.fns) (fun d:EZ=>d.b.length) x.dat s i wr) (fun _ i _=>x.dat.length-(intOf i).toNat)
    case atStart=>exact⟨0,n0,q0,Nat.zero_le _,rfl,rfl,rfl,by simpa [Ak] using bP.out.1,bP.out.2⟩
    case round=>
     obtain⟨k,m,q,hk,rfl,rfl,rfl,hm,Yp⟩:=hrel
     have Hm:=AA hm;clear hm
     by_cases hlt:k<x.dat.length
     ·by_cases hm2:m≤2147483647
      ·obtain⟨y,hx⟩: ∃y,x.dat[k]?=some y:=⟨_,List.getElem?_eq_getElem hlt⟩
       obtain⟨b,o,Sb,Rl,rfl,_,_,hc0,hc1,_,_⟩:=Jd (Rd.below bN.out H1.out hhi) hx
       have hdl:=Hin.out.dat y (List.mem_of_getElem? hx)
       have HS:=AA (LH.next Hm.out hx (.inl rfl))
       have IX:decide ((m:Int)≤2147483647)=true:=decide_eq_true (by omega)
       have hi0:(0:Int)≤k:=by omega
       clear hx
       go_wp2_with fail
       exact⟨⟨k+1,m+(y.b.length),q,by omega,by go_num,by go_num,rfl,HS.out,by omega⟩,by simp [intOf];omega⟩
      ·have IX:decide ((m:Int)≤2147483647)=false:=decide_eq_false (by omega)
       go_wp2_with fail
       go_meet
       exact LH.stop Hm.out (by omega) Yp
     ·go_wp2_with fail
      go_meet
      exact LH.all Hm.out (by omega) Yp
   case rest=>
    obtain⟨n0,q0,rfl,rfl,hcap,rH⟩:=hcut
    clear bP
    have bP:=AA (And.intro hcap rH)
    clear hcap rH
    go_upto_block 6 with fail
    go_cut [3] from 107 to 126 (fun s wx=>SzC w1 (((((x.types.length+x.hosts.length+x.globs.length+x.fns.length+x.dat.length+x.AO.length)+Ak (fun t:Dl=>t.p.size+t.r.size) x.types)+Ak (JB) x.fns)+Ak (fun d:EZ=>d.b.length) x.dat)+Ak (fun e:LA=>e.n.size) x.AO) s wx)
    case first=>
     have hbx:=Hb1.out.q 7 rfl
     go_wp2_with fail
     go_loopw [3,7] (fun s i wr=>LH w1 ((((x.types.length+x.hosts.length+x.globs.length+x.fns.length+x.dat.length+x.AO.length)+Ak (fun t:Dl=>t.p.size+t.r.size) x.types)+Ak (JB) x.fns)+Ak (fun d:EZ=>d.b.length) x.dat) (fun e:LA=>e.n.size) x.AO s i wr) (fun _ i _=>x.AO.length-(intOf i).toNat)
     case atStart=>exact⟨0,n0,q0,Nat.zero_le _,rfl,rfl,rfl,by simpa [Ak] using bP.out.1,bP.out.2⟩
     case round=>
      obtain⟨k,m,q,hk,rfl,rfl,rfl,hm,Yp⟩:=hrel
      have Hm:=AA hm;clear hm
      by_cases hlt:k<x.AO.length
      ·by_cases hm2:m≤2147483647
       ·obtain⟨y,hx⟩: ∃y,x.AO[k]?=some y:=⟨_,List.getElem?_eq_getElem hlt⟩
        obtain⟨b,o,rfl,_,_,hc0,hc1,p_n,_⟩:=LB (Rd.below W_.out H1.out hhi) hx
        unfold Rd.U6 at p_n
        have HS:=AA (LH.next Hm.out hx (.inl rfl))
        have IX:decide ((m:Int)≤2147483647)=true:=decide_eq_true (by omega)
        have hi0:(0:Int)≤k:=by omega
        clear hx
        go_wp2_with fail
        exact⟨⟨k+1,m+(y.n.size),q,by omega,by go_num,by go_num,rfl,HS.out,by omega⟩,by simp [intOf];omega⟩
       ·have IX:decide ((m:Int)≤2147483647)=false:=decide_eq_false (by omega)
        go_wp2_with fail
        go_meet
        exact LH.stop Hm.out (by omega) Yp
      ·go_wp2_with fail
       go_meet
       exact LH.all Hm.out (by omega) Yp
    case rest=>
     obtain⟨n0,q0,rfl,rfl,hcap,rH⟩:=hcut
     clear bP
     have bP:=AA (And.intro hcap rH)
     clear hcap rH
     go_wp2_with fail
     go_ret
     exact⟨below_drewN H1.out _,n0,rfl,by simpa only [Ad,Nat.add_assoc] using bP.out.1⟩


theorem Dy {α:Type} (f:α→Nat): ∀(l:List α) (x:α),x∈l→f x≤Ak f l
 | y::l,x,h=>by
  have hs:Ak f (y::l)=f y+Ak f l:=by simp [Ak]
  rcases List.mem_cons.1 h with rfl | h
  ·omega
  ·have:=Dy f l x h
   omega
theorem lq {l:List Av} (h:N8 l≤2147483647):l.length≤2147483647∧ ∀i∈l,Yv i:=
 ⟨by unfold N8 at h;omega,fun i hi=>by have:=Dy (fun i:Av=>i.l.length) l i hi;unfold N8 at h;unfold Yv;omega⟩
theorem bR {x:AQ} (h:Ad x≤2147483647):AAv x:=by
 unfold Ad at h
 refine⟨by omega,by omega,by omega,⟨by omega,fun i hi=>lq ?_⟩,⟨by omega,fun i hi=> ?_⟩,by omega⟩
 ·have:=Dy JB x.fns i hi
  unfold JB at this
  unfold JB at h
  omega
 ·have:=Dy (fun d:EZ=>d.b.length) x.dat i hi
  unfold bQ
  omega
theorem Zb {α:Type} {f:α→List UInt8} {h:α→Nat} {c:Nat}: ∀ {l:List α},(∀x∈l,(f x).length≤c+h x)→(l.flatMap f).length≤c*l.length+Ak h l
 | [],_=>by simp
 | x::l,hx=>by
  have h1:=hx x (List.mem_cons_self ..)
  have h2:=Zb (fun y hy=>hx y (List.mem_cons_of_mem _ hy)) (l:=l)
  have h3:Ak h (x::l)=h x+Ak h l:=by simp [Ak]
  rw [List.flatMap_cons,List.length_append,List.length_cons,h3,Nat.mul_add,Nat.mul_one]
  omega
theorem Jo {α:Type} {f:α→List UInt8} {h:α→Nat} {c:Nat} {l:List α} (hx: ∀x∈l,(f x).length≤c+h x) (k:Nat):((l.take k).flatMap f).length≤c*l.length+Ak h l:=by
 have h1:=Zb (l:=l.take k) (fun x hm=>hx x (List.mem_of_mem_take hm))
 have h2:=Rw h l k
 have h3:c*(l.take k).length≤c*l.length:=Nat.mul_le_mul_left _ (by rw [List.length_take];omega)
 omega
theorem XB {α:Type} (l:List α):Ak (fun _:α=>0) l=0:=by unfold Ak;induction l with | nil=>rfl | cons a l ih=>simpa using ih
theorem Kw {s:ByteArray} (h:s.size≤2147483647):(JH s).length≤10+s.size:=by
 unfold JH
 rw [List.length_append]
 have:=Ag s.size (by omega)
 have h2:s.data.toList.length=s.size:=by simp
 omega
structure LM (m:AQ):Prop where
 hosts: ∀t∈m.hosts,t<9223372036854775808
 globs: ∀x∈m.globs,x.v<18446744073709551616
 first:m.first<9223372036854775808
 most:m.most<9223372036854775808
 fns: ∀f∈m.fns,f.t<9223372036854775808∧ ∀x∈f.code,Rd.Ej x.a∧ ∀n∈x.l,n<9223372036854775808
 dat: ∀d∈m.dat,d.at_<9223372036854775808
 AO: ∀x∈m.AO,x.f<9223372036854775808
theorem Nl {t:Int} (h:t<9223372036854775808):(enc t.toNat).length≤10:=Ag _ (by omega)
theorem OC {x:Ep} (h:x.v<18446744073709551616) (hf:JL x.v x.l.toNat=true): -9223372036854775808≤Au x∧Au x<9223372036854775808:=by
 unfold Au
 split
 ·rename_i h1
  unfold JL at hf
  rw [h1.1] at hf
  simp at hf
  omega
 ·split<;>omega
theorem lu {x:Ep} (h:x.v<18446744073709551616) (hf:JL x.v x.l.toNat=true):(JI x).length≤12:=by
 unfold JI
 rw [List.length_append]
 have:=Ag (folded (Au x)) (MZ _ (OC h hf).1 (OC h hf).2)
 simp
 omega
theorem rM {x:Av} (h:Rd.Ej x.a∧ ∀n∈x.l,n<9223372036854775808) (hl:x.l.length≤2147483647):(Kl x).length≤11+10*x.l.length:=by
 unfold Kl
 cases hr:CG x.op.toNat with
 | none=>simp
 | some r=>
  simp only [List.length_cons]
  have h1:=Ag (folded x.a) (MZ _ h.1.1 h.1.2)
  have h2:=Ag x.l.length (by omega)
  have h3:=Sm (f:=fun n:Int=>enc n.toNat) (c:=10) (l:=x.l) (fun n hn=>Nl (h.2 n hn))
  have h4:=Nl h.1.2
  split
  ·simp;omega
  split
  ·omega
  split
  ·rw [List.length_append];omega
  ·omega
section
variable {m:AQ} (hn:LM m) (hs:Ad m≤2147483647)
include hn hs
theorem Ud (n k:Nat) (h:n≤2147483647):(enc n++(m.types.take k).flatMap O4).length≤10+42*Ad m:=by
 rw [List.length_append]
 have h1:=Ag n (by omega)
 have h2:=Jo (f:=O4) (h:=fun t:Dl=>t.p.size+t.r.size) (c:=20) (l:=m.types) (fun x hx=>by
  have:=Dy (fun t:Dl=>t.p.size+t.r.size) m.types x hx
  unfold Ad at hs
  unfold O4
  rw [List.length_append]
  have:=Kw (s:=x.p) (by omega)
  have:=Kw (s:=x.r) (by omega)
  omega) k
 unfold Ad at*
 omega
theorem Ue (n k:Nat) (h:n≤2147483647):(enc n++(m.hosts.take k).flatMap (fun t=>enc t.toNat)).length≤10+42*Ad m:=by
 rw [List.length_append]
 have h1:=Ag n (by omega)
 have h2:=Jo (f:=fun t:Int=>enc t.toNat) (h:=fun _=>0) (c:=10) (l:=m.hosts) (fun x hx=>Nl (hn.hosts x hx)) k
 rw [XB] at h2
 unfold Ad at*
 omega
theorem Uf (n k:Nat) (h:n≤2147483647) (hf: ∀j x,j<k→m.globs[j]?=some x→JL x.v x.l.toNat=true):(enc n++(m.globs.take k).flatMap JI).length≤10+42*Ad m:=by
 rw [List.length_append]
 have h1:=Ag n (by omega)
 have h2:=Zb (f:=JI) (h:=fun _=>0) (c:=12) (l:=m.globs.take k) (fun x hx=>by
  obtain⟨j,hj⟩:=List.getElem?_of_mem hx
  rw [List.getElem?_take] at hj
  split at hj
  ·rename_i hlt;exact lu (hn.globs x (List.mem_of_getElem? hj)) (hf j x hlt hj)
  ·cases hj)
 rw [XB,List.length_take] at h2
 unfold Ad at*
 omega
theorem ji {f:FL} (hf:f∈m.fns) (j:Nat):(enc f.t.toNat++JH f.loc++enc f.code.length++(f.code.take j).flatMap Kl).length≤30+11*JB f:=by
 have hsz:=Dy JB m.fns f hf
 have h0:=hn.fns f hf
 have h1:=Nl h0.1
 unfold Ad at hs
 unfold JB N8 at hsz⊢
 unfold JB N8 at hs
 have h2:=Kw (s:=f.loc) (by omega)
 have h3:=Ag f.code.length (by omega)
 have h4:=Jo (f:=Kl) (h:=fun x:Av=>10*x.l.length) (c:=11) (l:=f.code) (fun x hx=>by
  have:=Dy (fun i:Av=>i.l.length) f.code x hx
  exact rM (h0.2 x hx) (by omega)) j
 have h5:Ak (fun x:Av=>10*x.l.length) f.code=10*Ak (fun x:Av=>x.l.length) f.code:=by
  unfold Ak
  induction f.code with
  | nil=>rfl
  | cons a l ih=>simp only [List.map_cons,List.sum_cons,Nat.mul_add,ih]
 rw [h5] at h4
 simp only [List.length_append]
 omega
theorem Zc (n k:Nat) (h:n≤2147483647):(enc n++(m.fns.take k).flatMap Wt).length≤10+42*Ad m:=by
 rw [List.length_append]
 have h1:=Ag n (by omega)
 have h2:=Jo (f:=Wt) (h:=fun f=>11*JB f) (c:=30) (l:=m.fns) (fun f hf=>by
  have:=ji hn hs hf f.code.length
  rw [List.take_length] at this
  exact this) k
 have h5:Ak (fun f:FL=>11*JB f) m.fns=11*Ak JB m.fns:=by
  unfold Ak
  induction m.fns with
  | nil=>rfl
  | cons a l ih=>simp only [List.map_cons,List.sum_cons,Nat.mul_add,ih]
 unfold Ad at*
 omega
theorem rO {d:EZ} (hd:d∈m.dat):(Mv d).length≤20+d.b.length:=by
 have:=Dy (fun d:EZ=>d.b.length) m.dat d hd
 unfold Mv
 simp only [List.length_append]
 have h1:=Nl (hn.dat d hd)
 unfold Ad at hs
 have h2:=Ag d.b.length (by omega)
 omega
theorem Zd (n k:Nat) (h:n≤2147483647):(enc n++(m.dat.take k).flatMap Mv).length≤10+42*Ad m:=by
 rw [List.length_append]
 have h1:=Ag n (by omega)
 have h2:=Jo (f:=Mv) (h:=fun d:EZ=>d.b.length) (c:=20) (l:=m.dat) (fun d hd=>rO hn hs hd) k
 unfold Ad at*
 omega
theorem rP {x:LA} (hx:x∈m.AO):(Ni x).length≤20+x.n.size:=by
 have:=Dy (fun x:LA=>x.n.size) m.AO x hx
 unfold Ni
 simp only [List.length_append]
 have h1:=Nl (hn.AO x hx)
 unfold Ad at hs
 have h2:=Kw (s:=x.n) (by omega)
 omega
theorem bS (n k:Nat) (h:n≤2147483647):(enc n++(m.AO.take k).flatMap Ni).length≤10+42*Ad m:=by
 rw [List.length_append]
 have h1:=Ag n (by omega)
 have h2:=Jo (f:=Ni) (h:=fun x:LA=>x.n.size) (c:=20) (l:=m.AO) (fun d hd=>rP hn hs hd) k
 unfold Ad at*
 omega
theorem Yw (hf: ∀j x,j<m.globs.length→m.globs[j]?=some x→JL x.v x.l.toNat=true):(Qs m).length≤50+126*Ad m:=by
 have h1:=Ud hn hs m.types.length m.types.length (by unfold Ad at hs;omega)
 have h2:=Ue hn hs m.hosts.length m.hosts.length (by unfold Ad at hs;omega)
 have h3:=Uf hn hs m.globs.length m.globs.length (by unfold Ad at hs;omega) hf
 rw [List.take_length] at h1 h2 h3
 have h4:=Nl hn.first
 have h5:=Nl hn.most
 unfold Qs Qp Qq Qr
 simp only [List.length_append] at*
 omega
end
theorem PX {m:AQ} {k:Nat} (h:Aq k (Ms m)=0): ∀j x,j<k→m.globs[j]?=some x→Qh x.l.toNat=true∧JL x.v x.l.toNat=true:=by
 intro j x hj hx
 have h1:=Aw h j hj
 unfold Ms at h1
 rw [hx] at h1
 have h2:=AL h1
 constructor
 ·have:=h2.1;unfold Ae at this;split at this
  ·assumption
  ·cases this
 ·have:=h2.2;unfold Ae at this;split at this
  ·assumption
  ·cases this
def bl (s:ByteArray):List UInt8:=s.data.toList
theorem gK (s:ByteArray):(bl s).length=s.size:=by simp [bl]
theorem rF {a b:ByteArray} (h:bl a=bl b):a=b:=by
 cases a;cases b
 unfold bl at h
 simpa using h
theorem Wy (s t:ByteArray):bl (s++t)=bl s++bl t:=by
 unfold bl
 rw [ByteArray.data_append,Array.toList_append]
theorem bG (m:Nat) (l:List UInt8):JK m l=true↔l.length≤m∧ ∀c∈l,Rk c=true:=by
 unfold JK;simp
theorem bH (s t:ByteArray):(s++t).size=s.size+t.size:=by rw [←gK,Wy,List.length_append,gK,gK]
theorem sizes (s t:ByteArray) (f:Int) (hs:s.size≤1048576) (ht:t.size≤1048576):(AAs s t).1.size≤2097152∧(ADm s t).1.size≤2097152∧(AAt s f t).1.size≤2097152:=by
 refine⟨?_,?_,?_⟩
 ·unfold AAs
  split
  ·simp
  ·split
   ·simp
   ·rw [bH];omega
 ·unfold ADm
  split
  ·simp
  ·split
   ·simp
   ·simp;omega
 ·unfold AAt
  split
  ·simp
  ·split
   ·simp
   ·show(s.extract 0 f.toNat++t).size≤_
    rw [bH];simp;omega
def arr:List UInt8:= [32,45,62,32]
theorem yE (a b:List UInt8):Lib.occAt (a++(arr++b)) arr a.length=true:=by
 unfold Lib.occAt
 rw [List.drop_left' rfl]
 rfl
theorem occ_no (a b:List UInt8) (h: ∀c∈a,c≠32): ∀j,j<a.length→Lib.occAt (a++(arr++b)) arr j=false:=by
 intro j hj
 unfold Lib.occAt
 rw [List.drop_append_of_le_length (by omega),List.drop_eq_getElem_cons hj]
 have hc:=h _ (List.getElem_mem hj)
 have hb:(32==a[j])=false:=by simpa using fun e:(32:UInt8)=a[j]=>hc e.symm
 show(32==a[j]&&_)=false
 rw [hb,Bool.false_and]
theorem yF (a b:List UInt8) (h: ∀c∈a,c≠32):Lib.cut (a++(arr++b)) arr=(a,b,true):=by
 have hi:=Lib.index_first (s:=a++(arr++b)) (sub:=arr) (i:=a.length) (by rw [List.length_append];omega) (yE a b) (occ_no a b h)
 unfold Lib.cut
 rw [hi,if_pos (by omega),Int.toNat_natCast,List.take_left' rfl]
 have:(a++(arr++b)).drop (a.length+arr.length)=b:=by
  rw [←List.drop_drop,List.drop_left' rfl,List.drop_left' rfl]
 rw [this]
theorem jg:bl dash= [45]:=rfl
theorem lY {c:UInt8} (h:Rk c=true):c≠32∧c≠45:=by
 constructor<;>(rintro rfl;exact absurd h (by decide))
theorem lZ {m:Nat} {p:ByteArray} (h:JK m (bl p)=true): ∀c∈bl (DI p),c≠32:=by
 intro c hc
 unfold DI at hc
 split at hc
 ·rw [jg] at hc
  simp at hc
  subst hc
  decide
 ·exact(lY (((bG _ _).1 h).2 c hc)).1
theorem Wz {m:Nat} {p:ByteArray} (h:JK m (bl p)=true):EC (DI p)=(p,true):=by
 unfold DI
 by_cases hp:p=none_
 ·rw [if_pos hp,hp];rfl
 ·rw [if_neg hp]
  unfold EC
  rw [if_neg,decide_eq_true hp]
  rintro rfl
  have:=((bG _ _).1 h).2 45 (by rw [jg];simp)
  exact absurd this (by decide)
theorem AAu (s:ByteArray):(⟨(bl s).toArray⟩:ByteArray)=s:=by cases s;unfold bl;simp
theorem jh (p r:ByteArray):aO p r=true↔JK 8 (bl p)=true∧JK 8 (bl r)=true:=by unfold aO bl;rw [Bool.and_eq_true]
theorem lg {p r s:ByteArray} (h:MR p r=(s,0)):Gy s=(p,r,0):=by
 unfold MR at h
 split at h
 case isFalse=>injection h with _ h;cases h
 case isTrue hs=>
  injection h with h _
  obtain⟨hp,hr⟩:=(jh p r).1 hs
  have hb:bl s=bl (DI p)++(arr++bl (DI r)):=by
   rw [←h,Wy,Wy,List.append_assoc];rfl
  have hc:Lib.cut s.data.toList [32,45,62,32]=(bl (DI p),bl (DI r),true):=by
   rw [show s.data.toList=bl s from rfl,hb]
   exact yF _ _ (lZ hp)
  have ha:Pz s=DI p:=by unfold Pz;rw [hc];exact AAu _
  have hbb:P_ s=DI r:=by unfold P_;rw [hc];exact AAu _
  have hk:lS s=true:=by unfold lS;rw [hc]
  unfold Gy
  rw [ha,hbb,Wz hp,Wz hr,hk,if_pos ⟨rfl,rfl,rfl,hs⟩]
def YO (c:UInt8):Bool:=Km c.toNat
def Rz:List UInt8→List UInt8→List (List UInt8)
 | cur,[]=>if cur= [] then [] else [cur]
 | cur,b::t=>if YO b=true then(if cur= [] then [] else [cur])++Rz [] t else Rz (cur++ [b]) t
theorem lX {s:ByteArray} (ha: ∀c∈s.data.toList,c.toNat<128) {pos:Nat} (h:pos<s.size):
 ∃b t,s.data.toList.drop pos=b::t∧Utf8.decode s pos=(b.toNat,1):=by
 have hl:pos<s.data.toList.length:=by rw [←Lib.size_eq];exact h
 refine⟨s.data.toList[pos],s.data.toList.drop (pos+1),List.drop_eq_getElem_cons hl,?_⟩
 rw [←Lib.decodeL_drop,List.drop_eq_getElem_cons hl]
 exact Lib.decodeL_ascii _ _ (ha _ (List.getElem_mem hl))
theorem Mx (s:ByteArray) (ha: ∀c∈s.data.toList,c.toNat<128): ∀(f pos:Nat) (st:Option Nat) (acc:List (Nat×Nat)),s.size≤pos+f→pos≤s.size→(∀a,st=some a→a<pos)→
 acc.map (fun p=>Lib.pieceU s.data.toList p.1 p.2)++Rz (Lib.openPiece s.data.toList st pos) (s.data.toList.drop pos)=(Lib.closeSpans s (Lib.spansFromP Km s f pos st acc)).map (fun p=>Lib.pieceU s.data.toList p.1 p.2)
 | 0,pos,st,acc,h,hp,hst=>by
  obtain rfl:pos=s.size:=by omega
  have hd:s.data.toList.drop s.size= []:=List.drop_eq_nil_of_le (by rw [←Lib.size_eq];exact Nat.le_refl _)
  rw [hd]
  cases st with
  | none=>simp [Rz,Lib.spansFromP,Lib.closeSpans,Lib.openPiece]
  | some a=>
   have:=Lib.pieceU_ne s.data.toList a s.size (hst a rfl) (by rw [←Lib.size_eq];exact Nat.le_refl _)
   simp [Rz,Lib.spansFromP,Lib.closeSpans,Lib.openPiece,this]
 | f+1,pos,st,acc,h,hp,hst=>by
  by_cases hlt:pos<s.size
  ·obtain⟨b,t,hbt,hdec⟩:=lX ha hlt
   have ht:t=s.data.toList.drop (pos+1):=by rw [←List.drop_drop,hbt];rfl
   simp only [Lib.spansFromP,if_pos hlt,hdec]
   rw [hbt]
   show _++(if YO b=true then _ else _)=_
   cases hsp:Km b.toNat with
   | true=>
    rw [if_pos (show YO b=true from hsp)]
    simp only [if_true]
    cases st with
    | none=>
     have ih:=Mx s ha f (pos+1) none acc (by omega) (by omega) (fun a h=>by cases h)
     simpa [Lib.openPiece,ht] using ih
    | some a=>
     have hpn:=Lib.pieceU_ne s.data.toList a pos (hst a rfl) (by rw [←Lib.size_eq];omega)
     have ih:=Mx s ha f (pos+1) none (acc++ [(a,pos)]) (by omega) (by omega) (fun a h=>by cases h)
     simpa [Lib.openPiece,hpn,ht] using ih
   | false=>
    rw [if_neg (show ¬YO b=true by unfold YO;rw [hsp];exact Bool.false_ne_true)]
    simp only [Bool.false_eq_true,if_false]
    have hone: [b]=(s.data.toList.drop pos).take 1:=by rw [hbt];rfl
    cases st with
    | none=>
     have ih:=Mx s ha f (pos+1) (some pos) acc (by omega) (by omega) (fun a h=>by cases h;omega)
     have e:([]:List UInt8)++ [b]=Lib.pieceU s.data.toList pos (pos+1):=by
      unfold Lib.pieceU
      rw [List.nil_append,Nat.add_sub_cancel_left,hone]
     simp only [Lib.openPiece] at ih⊢
     rw [e,ht]
     exact ih
    | some a=>
     have ih:=Mx s ha f (pos+1) (some a) acc (by omega) (by omega) (fun b h=>by cases h;have:=hst a rfl;omega)
     simp only [Lib.openPiece] at ih⊢
     rw [hone,Lib.pieceU_grow _ _ _ _ (Nat.le_of_lt (hst a rfl)),ht]
     exact ih
  ·obtain rfl:pos=s.size:=by omega
   have hd:s.data.toList.drop s.size= []:=List.drop_eq_nil_of_le (by rw [←Lib.size_eq];exact Nat.le_refl _)
   rw [hd,Lib.spansFromP_end Km s _ _ _ _ hlt]
   cases st with
   | none=>simp [Rz,Lib.closeSpans,Lib.openPiece]
   | some a=>
    have:=Lib.pieceU_ne s.data.toList a s.size (hst a rfl) (by rw [←Lib.size_eq];exact Nat.le_refl _)
    simp [Rz,Lib.closeSpans,Lib.openPiece,this]
theorem gJ (s:ByteArray) (ha: ∀c∈s.data.toList,c.toNat<128):(EP s).map (·.data.toList)=Rz [] s.data.toList:=by
 have h:=Mx s ha s.size 0 none [] (by omega) (Nat.zero_le _) (fun a h=>by cases h)
 simp only [List.map_nil,List.nil_append,Lib.openPiece,List.drop_zero] at h
 unfold EP Lib.goFieldsP Lib.spansOfP
 rw [h,List.map_map]
 congr 1
 funext p
 simp [Lib.pieceU]
def BA (l:List UInt8):ByteArray:=⟨l.toArray⟩
theorem LG (l:List UInt8):(BA l).data.toList=l:=by simp [BA]
theorem O6 (s:ByteArray):BA s.data.toList=s:=by cases s;simp [BA]
theorem jf {ws:List ByteArray} {l:List (List UInt8)} (h:ws.map (·.data.toList)=l):ws=l.map BA:=by
 rw [←h,List.map_map]
 conv=>lhs;rw [←List.map_id ws]
 refine List.map_congr_left fun s _=> ?_
 exact(O6 s).symm
def bB (w:List UInt8):Prop:=w≠ []∧ ∀c∈w,YO c=false
theorem Uc: ∀(w cur t:List UInt8),(∀c∈w,YO c=false)→Rz cur (w++t)=Rz (cur++w) t
 | [],cur,t,_=>by rw [List.append_nil];rfl
 | c::w,cur,t,h=>by
  show(if YO c=true then _ else _)=_
  rw [if_neg (by rw [h c (List.mem_cons_self ..)];exact Bool.false_ne_true)]
  have ih:=Uc w (cur++ [c]) t (fun d hd=>h d (List.mem_cons_of_mem _ hd))
  rw [List.append_assoc] at ih
  exact ih
theorem OA: ∀(b t:List UInt8),(∀c∈b,YO c=true)→Rz [] (b++t)=Rz [] t
 | [],t,_=>rfl
 | c::b,t,h=>by
  show(if YO c=true then _ else _)=_
  rw [if_pos (h c (List.mem_cons_self ..))]
  exact OA b t (fun d hd=>h d (List.mem_cons_of_mem _ hd))
inductive KU:List UInt8→List (List UInt8)→Prop
 | none {b:List UInt8}:(∀c∈b,YO c=true)→KU b []
 | one {b w e:List UInt8}:(∀c∈b,YO c=true)→bB w→(∀c∈e,YO c=true)→KU (b++(w++e)) [w]
 | more {b w r:List UInt8} {c:UInt8} {l:List (List UInt8)}:(∀c∈b,YO c=true)→bB w→YO c=true→KU r l→KU (b++(w++c::r)) (w::l)
theorem Yu {w:List UInt8} (hw:bB w) (c:UInt8) (r:List UInt8) (hc:YO c=true):Rz [] (w++c::r)=w::Rz [] r:=by
 rw [Uc w [] _ hw.2,List.nil_append]
 show(if YO c=true then _ else _)=_
 rw [if_pos hc,if_neg hw.1]
 rfl
theorem bC {t:List UInt8} {l:List (List UInt8)} (h:KU t l):Rz [] t=l:=by
 induction h with
 | none hb=>
  rename_i b
  have:=OA b [] hb
  rw [List.append_nil] at this
  rw [this];rfl
 | one hb hw he=>
  rename_i b w e
  rw [OA _ _ hb]
  cases e with
  | nil=>
   rw [Uc w [] [] hw.2,List.nil_append]
   show(if w= [] then _ else _)=_
   rw [if_neg hw.1]
  | cons c e=>
   rw [Yu hw c e (he c (List.mem_cons_self ..))]
   have:=OA e [] (fun d hd=>he d (List.mem_cons_of_mem _ hd))
   rw [List.append_nil] at this
   rw [this];rfl
 | more hb hw hc _ ih=>rw [OA _ _ hb,Yu hw _ _ hc,ih]
theorem VD: ∀ {l:List (List UInt8)},(∀w∈l,bB w)→KU (Lib.join l [32]) l
 | [],_=>KU.none (fun c hc=>by cases hc)
 | [w],h=>by
  rw [Lib.join_one]
  have:=KU.one (b:= []) (e:= []) (w:=w) (fun c hc=>by cases hc) (h w (List.mem_cons_self ..)) (fun c hc=>by cases hc)
  rwa [List.nil_append,List.append_nil] at this
 | w::v::l,h=>by
  have ih:=VD (l:=v::l) (fun x hx=>h x (List.mem_cons_of_mem _ hx))
  have:=KU.more (b:= []) (w:=w) (c:=32) (fun c hc=>by cases hc) (h w (List.mem_cons_self ..)) (by decide) ih
  rw [List.nil_append] at this
  have e:Lib.join (w::v::l) [32]=w++32::Lib.join (v::l) [32]:=by simp [Lib.join,List.intercalate]
  rw [e]
  exact this
theorem bD {b t:List UInt8} {l:List (List UInt8)} (hb: ∀c∈b,YO c=true) (h:KU t l):KU (b++t) l:=by
 have hap: ∀ {a:List UInt8},(∀c∈a,YO c=true)→ ∀c∈b++a,YO c=true:=fun ha c hc=>(List.mem_append.1 hc).elim (hb c) (ha c)
 cases h with
 | none h1=>exact KU.none (hap h1)
 | one h1 h2 h3=>rw [←List.append_assoc];exact KU.one (hap h1) h2 h3
 | more h1 h2 h3 h4=>rw [←List.append_assoc];exact KU.more (hap h1) h2 h3 h4
theorem rD {l r:List UInt8} (h: ∀c∈l,c≠10):Lib.index (l++10::r) [10]=l.length:=by
 refine Lib.index_first (by rw [List.length_append];omega) ?_ ?_
 ·unfold Lib.occAt
  rw [List.drop_left' rfl]
  rfl
 ·intro j hj
  unfold Lib.occAt
  rw [List.drop_append_of_le_length (by omega),List.drop_eq_getElem_cons hj]
  show(10==l[j]&&_)=false
  have:(10==l[j])=false:=by simpa using fun e:(10:UInt8)=l[j]=>h _ (List.getElem_mem hj) e.symm
  rw [this,Bool.false_and]
theorem VE: ∀(ls:List (List UInt8)),(∀l∈ls,∀c∈l,c≠10)→
 Lib.count (ls.flatMap (· ++ [10])) [10]=ls.length∧Lib.splitK [10] 0 ls.length (ls.flatMap (· ++ [10]))=ls++ [[]]
 | [],_=>⟨Lib.count_miss (by decide),rfl⟩
 | l::ls,h=>by
  obtain⟨h1,h2⟩:=VE ls (fun x hx=>h x (List.mem_cons_of_mem _ hx))
  have hi:=rD (r:=ls.flatMap (· ++ [10])) (h l (List.mem_cons_self ..))
  have he:(l::ls).flatMap (· ++ [10])=l++10::ls.flatMap (· ++ [10]):=by simp
  have hd:(l++10::ls.flatMap (· ++ [10])).drop (l.length+ [(10:UInt8)].length)=ls.flatMap (· ++ [10]):=by
   rw [←List.drop_drop,List.drop_left' rfl];rfl
  rw [he]
  constructor
  ·rw [Lib.count_hit (by decide) hi,hd,h1,List.length_cons];omega
  ·show(if(Lib.index _ _== -1)=true then _ else _)=_
   rw [hi,if_neg (by simp<;>omega),Int.toNat_natCast,hd,h2,Nat.add_zero,List.take_left' rfl]
   rfl
theorem bF (ls:List (List UInt8)) (h: ∀l∈ls,∀c∈l,c≠10):Em (BA (ls.flatMap (· ++ [10])))=(ls++ [[]]).map BA:=by
 obtain⟨h1,h2⟩:=VE ls h
 unfold Em
 refine jf ?_
 rw [Lib.splitB_data,LG,←h2]
 have:Lib.countB (BA (ls.flatMap (· ++ [10]))) lT=ls.length:=by
  rw [←h1]
  show Lib.count _ _=_
  rw [LG]
  rfl
 rw [this]
 rfl
theorem rE {l:List UInt8} {ws:List (List UInt8)} (ha: ∀c∈l,c.toNat<128) (h:KU l ws):EP (BA l)=ws.map BA:=by
 refine jf ?_
 rw [gJ _ (by rw [LG];exact ha),LG]
 exact bC h
def RY (w:List UInt8):Prop:=w≠ []∧ ∀c∈w,33≤c.toNat∧c.toNat≤126
theorem RY.word {w:List UInt8} (h:RY w):bB w:=by
 refine⟨h.1,fun c hc=> ?_⟩
 have:=(h.2 c hc).1
 unfold YO Km
 simp
 omega
theorem Md {w:List UInt8} (h:(!w.isEmpty&&w.all (fun c=>decide (33≤c.toNat∧c.toNat≤126)))=true):RY w:=by
 rw [Bool.and_eq_true] at h
 refine⟨fun e=>by rw [e] at h;exact absurd h.1 (by decide),fun c hc=> ?_⟩
 exact of_decide_eq_true (List.all_eq_true.1 h.2 c hc)
theorem LP (n:Int):RY (Lib.itoa n):=by
 unfold Lib.itoa
 split
 ·refine⟨List.cons_ne_nil _ _,fun c hc=> ?_⟩
  rcases List.mem_cons.1 hc with rfl | hc
  ·decide
  ·have:=Q8 _ c hc;omega
 ·exact⟨Rt _,fun c hc=>by have:=Q8 _ c hc;omega⟩
theorem Qt {s:ByteArray} (h:s.data.toList.all Rk=true):RY (EW s):=by
 unfold EW
 split
 ·exact Md (by decide)
 ·rename_i hs
  refine⟨fun e=>hs (by rw [Lib.size_eq,e];rfl),fun c hc=> ?_⟩
  have:=List.all_eq_true.1 h c hc
  unfold Rk Qh at this
  simp at this
  omega
theorem TB {n:Nat} (h:n<16):48≤(OX n).toNat∧(OX n).toNat≤102∧Mw (OX n)=some n:=by
 have: ∀k:Fin 16,48≤(OX k.1).toNat∧(OX k.1).toNat≤102∧Mw (OX k.1)=some k.1:=by decide
 exact this ⟨n,h⟩
theorem bT: ∀b:List UInt8,K3 (KX b)=some b
 | []=>rfl
 | c::b=>by
  have hc:c.toNat<256:=c.toNat_lt
  have h1:=(TB (n:=c.toNat/16) (by omega)).2.2
  have h2:=(TB (n:=c.toNat%16) (by omega)).2.2
  show K3 (OX (c.toNat/16)::OX (c.toNat%16)::KX b)=_
  simp only [K3,h1,h2,bT b,Option.map_some]
  congr 2
  rw [show 16*(c.toNat/16)+c.toNat%16=c.toNat by omega]
  simp
theorem yH {b:List UInt8} (h:b≠ []):RY (KX b):=by
 refine⟨?_,fun c hc=> ?_⟩
 ·cases b with
  | nil=>exact absurd rfl h
  | cons c b=>exact List.cons_ne_nil _ _
 ·obtain⟨d,_,hd⟩:=List.mem_flatMap.1 hc
  have hlt:d.toNat<256:=d.toNat_lt
  rcases List.mem_cons.1 hd with rfl | hd
  ·have:=TB (n:=d.toNat/16) (by omega);omega
  ·rw [List.mem_singleton] at hd
   subst hd
   have:=TB (n:=d.toNat%16) (by omega);omega
def Oi (x:Dl):List (List UInt8):= [Sn,EW x.p,[45,62],EW x.r]
def QB (t:Int):List (List UInt8):= [Nj,Lib.itoa t]
def QC (x:Ep):List (List UInt8):= [Ji,[x.l],if x.m then UZ else Ma,Lib.itoa (Au x)]
def rQ (m:AQ):List (List UInt8):= [Ik,Lib.itoa m.first,Lib.itoa m.most]
def rR (f:FL):List (List UInt8):= [QY,Lib.itoa f.t,EW f.loc]
def O7 (x:Av):List (List UInt8):=Na x.op.toNat::((if KS x.op.toNat≠0∧KS x.op.toNat≠3 then [Lib.itoa x.a] else [])++x.l.map Lib.itoa)
def R3 (d:EZ):List (List UInt8):= [Yq,Lib.itoa d.at_,KX d.b]
def Ug (x:LA):List (List UInt8):= [RB,x.n.data.toList,Lib.itoa x.f]
def WL (m:AQ):List (Bool×List (List UInt8)):=(false,[Mi])::(m.types.map (fun x=>(false,Oi x))++(m.hosts.map (fun x=>(false,QB x))++(m.globs.map (fun x=>(false,QC x))++ [(false,rQ m)])))
def Uh (f:FL):List (Bool×List (List UInt8)):=(false,rR f)::f.code.map fun x=>(true,O7 x)
def WM (m:AQ):List (Bool×List (List UInt8)):=m.fns.flatMap Uh++(m.dat.map (fun x=>(false,R3 x))++m.AO.map (fun x=>(false,Ug x)))
def toks (m:AQ):List (Bool×List (List UInt8)):=WL m++WM m
def yI (p:Bool×List (List UInt8)):List UInt8:=(if p.1 then [32,32] else [])++Lib.join p.2 [32]
theorem Yx {α:Type} (w:List UInt8) (l:List α) (f:α→List UInt8):Lib.join (w::l.map f) [32]=w++l.flatMap fun x=>32::f x:=by
 rw [Lib.join_cons]
 unfold Lib.joinTail
 rw [List.map_map,List.flatMap_def]
 rfl
theorem rT (x:Av):Lib.join (O7 x) [32]=PO x:=by
 unfold O7 PO
 by_cases h:KS x.op.toNat≠0∧KS x.op.toNat≠3
 ·rw [if_pos h,if_pos h]
  have:=Yx (Na x.op.toNat) (x.a::x.l) Lib.itoa
  simpa using this
 ·rw [if_neg h,if_neg h]
  have:=Yx (Na x.op.toNat) x.l Lib.itoa
  simpa using this
theorem Oj {α β:Type} {f g:α→List β}: ∀ {l:List α},(∀x∈l,f x=g x)→l.flatMap f=l.flatMap g
 | [],_=>rfl
 | x::l,h=>by rw [List.flatMap_cons,List.flatMap_cons,h x (List.mem_cons_self ..),Oj (fun y hy=>h y (List.mem_cons_of_mem _ hy))]
theorem bU (m:AQ):Il m=(toks m).flatMap fun p=>yI p++ [10]:=by
 have hE: ∀ws,yI (false,ws)++ [10]=Cg ws:=fun ws=>rfl
 unfold Il jZ jc toks WL WM
 simp only [List.flatMap_append,List.flatMap_cons,List.flatMap_nil,List.append_nil,List.flatMap_map,hE,List.append_assoc]
 congr 1
 congr 1
 ·refine Oj fun x _=> ?_
  unfold Cg Oi UY
  simp [Lib.join,List.intercalate]
 congr 1
 congr 1
 congr 1
 congr 1
 rw [List.flatMap_assoc]
 refine Oj fun f _=> ?_
 unfold Sc Uh
 rw [List.flatMap_cons,hE,List.flatMap_map]
 congr 1
 refine Oj fun x _=> ?_
 unfold Cg yI
 rw [Lib.join_one,rT]
 rfl
theorem Di {b:Bool} {e:Int} (he:e≠0) (h:Ae b e=0):b=true:=by
 unfold Ae at h
 split at h
 ·assumption
 ·exact absurd h he
theorem QD {s:ByteArray} {k:Int} (h:Dh s k=0):(s.size:Int)≤k∧s.data.toList.all Rk=true:=by
 have:=AL h
 refine⟨of_decide_eq_true (Di (by decide) this.1),?_⟩
 have h2:=Di (by decide) this.2
 unfold Sk JK at h2
 rw [Bool.and_eq_true] at h2
 exact h2.2
structure yJ (m:AQ):Prop where
 types: ∀x∈m.types,aO x.p x.r=true∧x.p.data.toList.all Rk=true∧x.r.data.toList.all Rk=true
 globs: ∀x∈m.globs,Qh x.l.toNat=true∧JL x.v x.l.toNat=true∧x.v<18446744073709551616
 fns: ∀f∈m.fns,f.loc.data.toList.all Rk=true∧Rd.Ej f.t∧ ∀x∈f.code,Aa x=0∧Rd.Ej x.a∧ ∀n∈x.l,Rd.Ej n
 dat: ∀d∈m.dat,d.b≠ []∧Rd.Ej d.at_
 AO: ∀x∈m.AO,x.n.data.toList≠ []∧(∀c∈x.n.data.toList,33≤c.toNat∧c.toNat≤126)∧Rd.Ej x.f
 hosts: ∀t∈m.hosts,Rd.Ej t
 first:Rd.Ej m.first
 most:Rd.Ej m.most
theorem at_mem {α:Type} {l:List α} {x:α} (h:x∈l): ∃k,k<l.length∧l[k]?=some x:=by
 obtain⟨k,hk,e⟩:=List.mem_iff_getElem.1 h
 exact⟨k,hk,by rw [List.getElem?_eq_getElem hk,e]⟩
theorem WO {m:AQ} (hE:FM m=0) (hN:LM m):yJ m:=by
 obtain⟨hp,_⟩:=AL hE
 obtain⟨hh,hb⟩:=AL hp
 obtain⟨ht,hh⟩:=AL hh
 obtain⟨hho,hh⟩:=AL hh
 obtain⟨hg,hpg⟩:=AL hh
 obtain⟨hf,hb⟩:=AL hb
 obtain⟨hd,he⟩:=AL hb
 have hT:=(AL ht).2
 have hH:=(AL hho).2
 have hF:=(AL hf).2
 have hD:=(AL hd).2
 have hX:=(AL he).2
 have hlt:=of_decide_eq_true (Di (by decide) (AL ht).1)
 have hlf:=of_decide_eq_true (Di (by decide) (AL hf).1)
 have hPg:=of_decide_eq_true (Di (by decide) hpg)
 refine⟨fun x hx=> ?_,fun x hx=> ?_,fun f hf=> ?_,fun d hd=> ?_,fun x hx=> ?_,fun t ht=> ?_,?_,?_⟩
 ·obtain⟨k,hk,hx⟩:=at_mem hx
  have h1:=Aw hT k hk
  unfold fJ at h1
  rw [hx] at h1
  obtain⟨h1,h2⟩:=AL h1
  obtain⟨h2,_⟩:=AL h2
  obtain⟨a1,a2⟩:=QD h1
  obtain⟨b1,b2⟩:=QD h2
  refine⟨?_,a2,b2⟩
  rw [jh]
  unfold JK bl
  rw [Bool.and_eq_true,Bool.and_eq_true]
  refine⟨⟨decide_eq_true ?_,a2⟩,decide_eq_true ?_,b2⟩
  ·rw [←Lib.size_eq];omega
  ·rw [←Lib.size_eq];omega
 ·obtain⟨k,hk,hx'⟩:=at_mem hx
  obtain⟨h1,h2⟩:=PX (AL hg).2 k x hk hx'
  exact⟨h1,h2,hN.globs x hx⟩
 ·obtain⟨k,hk,hx⟩:=at_mem hf
  have h1:=Aw hF k hk
  unfold YK at h1
  rw [hx] at h1
  obtain⟨h1,h2⟩:=AL h1
  obtain⟨h2,h3⟩:=AL h2
  obtain⟨_,h3⟩:=AL h3
  obtain⟨_,h3⟩:=AL h3
  have ht:=of_decide_eq_true (Di (by decide) h1)
  refine⟨(QD h2).2,⟨by omega,(hN.fns f hf).1⟩,fun x hx=> ?_⟩
  obtain⟨j,hj,hx'⟩:=at_mem hx
  have h4:=Aw h3 j hj
  unfold PN at h4
  rw [hx'] at h4
  have hc:Aa x=0:=h4
  obtain⟨q1,q2⟩:=(hN.fns f hf).2 x hx
  refine⟨hc,q1,fun n hn=>⟨?_,q2 n hn⟩⟩
  unfold Aa at hc
  split at hc
  ·cases hc
  ·rename_i r hr
   split at hc
   ·cases hc
   ·split at hc
    ·split at hc
     ·cases hc
     ·rename_i hl
      have:x.l= []:=List.eq_nil_of_length_eq_zero (by omega)
      rw [this] at hn;cases hn
    ·split at hc
     ·cases hc
     ·split at hc
      ·rename_i hall
       have:=of_decide_eq_true (List.all_eq_true.1 hall n hn)
       omega
      ·cases hc
 ·obtain⟨k,hk,hx⟩:=at_mem hd
  have h1:=Aw hD k hk
  unfold Oz at h1
  rw [hx] at h1
  obtain⟨h1,h2⟩:=AL h1
  obtain⟨_,h3⟩:=AL h2
  obtain⟨_,h4⟩:=AL h3
  have ha:=of_decide_eq_true (Di (by decide) h1)
  have hb:=of_decide_eq_true (Di (by decide) h4)
  refine⟨fun e=>by rw [e] at hb;exact absurd hb (by decide),by omega,hN.dat d hd⟩
 ·obtain⟨k,hk,hx'⟩:=at_mem hx
  have h1:=Aw hX k hk
  unfold Rx at h1
  rw [hx'] at h1
  obtain⟨h1,h2⟩:=AL h1
  obtain⟨_,h3⟩:=AL h2
  unfold Qo at h1
  obtain⟨_,h1⟩:=AL h1
  obtain⟨h1,h4⟩:=AL h1
  have hs:=of_decide_eq_true (Di (by decide) h1)
  have hc:=Di (by decide) h4
  have ht:=of_decide_eq_true (Di (by decide) h3)
  refine⟨fun e=>by rw [Lib.size_eq,e] at hs;exact absurd hs (by decide),fun c hc'=> ?_,by omega,by omega⟩
  have:=List.all_eq_true.1 hc c hc'
  unfold Tg at this
  have:=of_decide_eq_true this
  omega
 ·obtain⟨k,hk,hx⟩:=at_mem ht
  have h1:=Aw hH k hk
  unfold LD at h1
  rw [hx] at h1
  have ht':=of_decide_eq_true (Di (by decide) h1)
  exact⟨by omega,hN.hosts t ht⟩
 ·exact⟨by omega,by omega⟩
 ·exact⟨by omega,by omega⟩
theorem rU: ∀r∈Dj,N_ r.word=some r:=by
 unfold Dj
 repeat (refine List.forall_mem_cons.2 ⟨by kernel_rfl,?_⟩)
 exact fun _ h=>by cases h
theorem l8:Dj.all (fun r=>decide (EX r.word=0)&&((!r.word.data.toList.isEmpty&&r.word.data.toList.all (fun c=>decide (33≤c.toNat∧c.toNat≤126)))&& !(r.word.data.toList.head?==some 59)))=true:=by kernel_rfl
theorem XC {r:ZR} (h:r∈Dj):EX r.word=0∧RY r.word.data.toList∧(r.word.data.toList.head?==some 59)=false:=by
 have:=List.all_eq_true.1 l8 r h
 rw [Bool.and_eq_true,Bool.and_eq_true] at this
 exact⟨of_decide_eq_true this.1,Md this.2.1,by simpa using this.2.2⟩
theorem WQ {x:Av} (h:Aa x=0): ∃r,CG x.op.toNat=some r∧r∈Dj∧r.op=x.op.toNat:=by
 unfold Aa at h
 split at h
 ·cases h
 ·rename_i r hr
  exact⟨r,hr,(Jh hr).1,(Jh hr).2⟩
theorem Jp {n:Int} (h:Rd.Ej n):CK (BA (Lib.itoa n))=some n:=by
 unfold CK
 rw [LG]
 exact U4 h.1 (by have:=h.2;omega)
theorem bV: ∀ {l:List Int},(∀n∈l,Rd.Ej n)→((l.map Lib.itoa).map BA).mapM CK=some l
 | [],_=>rfl
 | n::l,h=>by
  have ih:=bV (l:=l) (fun k hk=>h k (List.mem_cons_of_mem _ hk))
  rw [List.map_cons,List.map_cons,List.mapM_cons,Jp (h n (List.mem_cons_self ..)),ih]
  rfl
end Go.Proofs.YtebgikflpgcnlaaGreatDoor
