/- Part 3 of the proof: Size SizeM CopyB CtlP CtlQ CtlA SlT SizeS OpenM -/
import Derived.Deep.CutBlock
import Derived.Deep.DeepCutAuto
import Derived.Laws.ResultCell
import Derived.Laws.Rows
import Derived.Test.YtlagonfamllgjaaGreatDoorR02
namespace Go.Proofs.YtlagonfamllgjaaGreatDoor
set_option linter.unusedVariables false
set_option linter.unusedSimpArgs false
set_option maxRecDepth 100000
set_option maxHeartbeats 4000000
open Go.RowKit Tryz
def Cap (n N:Nat):Prop:=n=N∨(2147483647<n∧2147483647<N)
def BM {α:Type} (f:α→Nat) (l:List α):Nat:=(l.map f).sum
theorem Cap.step {n N m g:Nat} (h:Cap n N) (h2:Cap m g):Cap (n+m) (N+g):=by unfold Cap at*;omega
theorem Cap.stop {n N M:Nat} (h:Cap n N) (hn:2147483647<n) (hM:N≤M):Cap n M:=by unfold Cap at*;omega
theorem Cap.iff {n N:Nat} (h:Cap n N):n≤2147483647↔N≤2147483647:=by unfold Cap at*;omega
theorem NW {α:Type} (f:α→Nat) (l:List α) (k:Nat):BM f (l.take k)≤BM f l:=by
 have:=List.take_append_drop k l
 conv=>rhs;rw [←this]
 unfold BM
 rw [List.map_append,List.sum_append]
 omega
theorem Rb {α:Type} (f:α→Nat) {l:List α} {k:Nat} {x:α} (h:l[k]?=some x):BM f (l.take (k+1))=BM f (l.take k)+f x:=by
 rw [List.take_add_one,h]
 simp [BM]
def UW (x:Ad):Prop:=x.l.length≤140737488351232
def Ki (l:List Ad):Nat:=l.length+BM (fun i=>i.l.length) l
def Ii (x:Bt):Nat:=x.loc.size+Ki x.code
def BU (m:AP):Nat:=m.types.length+m.hosts.length+m.globs.length+m.fns.length+m.dat.length+m.Aw.length+BM (fun t=>t.p.size+t.r.size) m.types+BM Ii m.fns+BM (fun d=>d.b.length) m.dat+BM (fun e=>e.n.size) m.Aw
def Cz:Nat→List Nat→Nat
 | n,[]=>n
 | n,g::gs=>if n≤2147483647 then Cz (n+g) gs else n
theorem VO {n:Nat} (h:2147483647<n) (gs:List Nat):Cz n gs=n:=by cases gs with | nil=>rfl | cons g gs=>unfold Cz;rw [if_neg (by omega)]
theorem QJ: ∀(gs:List Nat) (n:Nat),Cap (Cz n gs) (n+gs.sum)
 | [],n=> .inl (by simp [Cz])
 | g::gs,n=>by
  unfold Cz
  split
  ·have:=QJ gs (n+g)
   rwa [List.sum_cons,←Nat.add_assoc]
  ·rename_i h
   exact .inr ⟨by omega,by omega⟩
theorem Rf: ∀(gs:List Nat) (n U:Nat),n≤U→(∀g∈gs,2147483647+g≤U)→Cz n gs≤U
 | [],n,U,h,_=>h
 | g::gs,n,U,h,hg=>by
  unfold Cz
  split
  ·rename_i hn
   exact Rf gs (n+g) U (by have:=hg g (by simp);omega) (fun x hx=>hg x (by simp [hx]))
  ·exact h
def Kj (l:List Ad):Nat:=Cz l.length (l.map fun i=>i.l.length)
theorem XG (l:List Ad):Cap (Kj l) (Ki l):=QJ _ _
theorem Y3 {l:List Ad} (h:l.length≤140737488351232) (hl: ∀i∈l,UW i):Kj l≤281474976710656:=
 Rf _ _ _ (by omega) (fun g hg=>by
  obtain⟨i,hi,rfl⟩:=List.mem_map.1 hg
  have:=hl i hi
  unfold UW at this
  omega)
def Rh {α:Type} (f:α→Nat) (n0:Nat) (l:List α) (w:World) (x i:Value) (wr:World):Prop:= ∃k m:Nat,k≤l.length∧i= .int .i64 k∧x= .int .i64 m∧wr=w∧Cz m ((l.drop k).map f)=Cz n0 (l.map f)∧m≤281474976710656
theorem Rh.next {α:Type} {f:α→Nat} {n0:Nat} {l:List α} {k m:Nat} {x:α} (h:Cz m ((l.drop k).map f)=Cz n0 (l.map f)) (hx:l[k]?=some x) (hm:m≤2147483647):Cz (m+f x) ((l.drop (k+1)).map f)=Cz n0 (l.map f):=by
 obtain⟨hk,he⟩:=List.getElem?_eq_some_iff.1 hx
 rw [List.drop_eq_getElem_cons hk,List.map_cons,he] at h
 rw [←h]
 conv=>rhs;unfold Cz
 rw [if_pos hm]
theorem Rh.stop {α:Type} {f:α→Nat} {n0:Nat} {l:List α} {k m:Nat} (h:Cz m ((l.drop k).map f)=Cz n0 (l.map f)) (hm:2147483647<m):m=Cz n0 (l.map f):=by rwa [VO hm] at h
theorem Rh.all {α:Type} {f:α→Nat} {n0:Nat} {l:List α} {k m:Nat} (h:Cz m ((l.drop k).map f)=Cz n0 (l.map f)) (hk:k=l.length):m=Cz n0 (l.map f):=by
 subst hk
 rw [List.drop_length] at h
 exact h
theorem dS (A:Option Addr) (n c hi:Nat) (l:List Ad) (w:World) (h:(Ga.sl false).R w 0 hi [.slice A n c] l) (h47:n≤140737488351232) (hl: ∀i∈l,UW i):
 Calls prog 50 #[.slice A n c] w fun e w'=>w=w'∧e= .returned (.int .i64 (Kj l:Nat)):=by
 have Hn:=AA (Dp h)
 have Hh:=AA h;clear h
 have Hl:=AA hl;clear hl
 go_enter func50,ntmps50
 go_wp2_with fail
 go_loopw [3,4] (fun x i wr=>Rh (fun i:Ad=>i.l.length) l.length l w x i wr) (fun _ i _=>n-(intOf i).toNat)
 case atStart=>exact⟨0,n,Nat.zero_le _,rfl,rfl,rfl,by rw [List.drop_zero,←Hn.out],by omega⟩
 case round=>
  obtain⟨k,m,hk,rfl,rfl,rfl,hm,VP⟩:=hrel
  rw [←Hn.out] at hk
  have Hm:=AA hm;clear hm
  by_cases hlt:k<n
  ·by_cases hm2:m≤2147483647
   ·obtain⟨x,hx⟩: ∃x,l[k]?=some x:=⟨_,List.getElem?_eq_getElem (by rw [←Hn.out];exact hlt)⟩
    obtain⟨b,o,Gb,GH,rfl,_,hb,hc0,hc1,hc2,_,La⟩:=EP Hh.out hx
    have hr8:x.l.length≤140737488351232:=Hl.out x (List.mem_of_getElem? hx)
    have HS:=AA (Rh.next Hm.out hx hm2)
    have Yi:decide ((m:Int)≤2147483647)=true:=decide_eq_true (by omega)
    have hi0:(0:Int)≤k:=by omega
    clear hx La hc0 hc1
    go_wp2_with fail
    exact⟨⟨k+1,m+x.l.length,by rw [←Hn.out];omega,by go_num,by go_num,rfl,HS.out,by omega⟩,by simp [intOf];omega⟩
   ·have Yi:decide ((m:Int)≤2147483647)=false:=decide_eq_false (by omega)
    go_wp2_with fail
    go_ret
    exact⟨rfl,by rw [show m=Kj l from Rh.stop Hm.out (by omega)];rfl⟩
  ·obtain rfl:k=n:=by omega
   go_wp2_with fail
   go_ret
   exact⟨rfl,by rw [show k=l.length from Hn.out] at Hm;rw [show m=Kj l from Rh.all Hm.out rfl];rfl⟩
def xq (x:Bt):Prop:=x.loc.size≤140737488351232∧x.code.length≤140737488351232∧ ∀i∈x.code,UW i
structure je (x:AP):Prop where
 types:x.types.length≤140737488351232
 hosts:x.hosts.length≤140737488351232
 globs:x.globs.length≤140737488351232
 fnsl:x.fns.length≤140737488351232
 fns: ∀i∈x.fns,xq i
 datl:x.dat.length≤140737488351232
 dat: ∀i∈x.dat,i.b.length≤140737488351232
 Aw:x.Aw.length≤140737488351232
def SzC (w1:World) (N:Nat) (s:Value) (wx:World):Prop:= ∃(m q:Nat),s= .int .i64 m∧wx=w1.drewN q∧Cap m N∧m≤1125899906842624
def GK (w1:World) (N:Nat) {α:Type} (f:α→Nat) (l:List α) (x i:Value) (wr:World):Prop:= ∃k m q:Nat,k≤l.length∧i= .int .i64 k∧x= .int .i64 m∧wr=w1.drewN q∧Cap m (N+BM f (l.take k))∧m≤1125899906842624
theorem GK.stop {w1:World} {N k m q:Nat} {α:Type} {f:α→Nat} {l:List α} (hm:Cap m (N+BM f (l.take k))) (hn:2147483647<m) (h5:m≤1125899906842624):SzC w1 (N+BM f l) (.int .i64 m) (w1.drewN q):=
 ⟨m,q,rfl,rfl,hm.stop hn (by have:=NW f l k;omega),h5⟩
theorem GK.all {w1:World} {N k m q:Nat} {α:Type} {f:α→Nat} {l:List α} (hm:Cap m (N+BM f (l.take k))) (hk:k=l.length) (h5:m≤1125899906842624):SzC w1 (N+BM f l) (.int .i64 m) (w1.drewN q):=
 ⟨m,q,rfl,rfl,by rwa [List.take_of_length_le (by rw [hk];exact Nat.le_refl _)] at hm,h5⟩
theorem GK.next {α:Type} {f:α→Nat} {l:List α} {N k m g:Nat} {x:α} (hm:Cap m (N+BM f (l.take k))) (hx:l[k]?=some x) (hg:Cap g (f x)):Cap (m+g) (N+BM f (l.take (k+1))):=by
 rw [Rb _ hx,←Nat.add_assoc]
 exact hm.step hg
theorem Xa (cs:List Value) (hi:Nat) (x:AP) (w:World) (h:Db.R w 0 hi cs x) (hhi:hi≤w.heap.size) (hin:je x):
 Calls prog 16 #[.agg cs.toArray] w fun e w'=>Below w.heap.size w w'∧ ∃n:Nat,e= .returned (.int .i64 n)∧Cap n (BU x):=by
 obtain⟨JQ,Ib,Df,Jv,JR,Fq,rfl,E9,E_,Cj,G6,Ji,Jw,Jy,Gp⟩:=Av.1 h
 clear h G6 Ji
 obtain⟨OT,MU,rfl⟩:=AJ E9
 obtain⟨OU,MV,rfl⟩:=AJ E_
 obtain⟨Jb,G5,rfl⟩:=AJ Cj
 obtain⟨Xb,UO,rfl⟩:=AJ Jw
 obtain⟨Xc,UQ,rfl⟩:=AJ Jy
 obtain⟨Rw,PN,rfl⟩:=AJ Gp
 have Vb:=AA E9
 have aZ:=AA E_
 have Q7:=AA Cj
 have jf:=AA Jw
 have jg:=AA Jy
 have ZF:=AA Gp
 clear E9 E_ Cj Jw Jy Gp
 have Hin:=AA hin
 have l0:=hin.types;have l1:=hin.hosts;have l2:=hin.globs;have l3:=hin.fnsl;have l4:=hin.datl;have l5:=hin.Aw
 clear hin
 go_enter func16,ntmps16
 go_upto_block 0 with fail
 generalize hw:w.alloc _=w1
 have Hb1:Hid (AQ w1 w.heap.size 29 [.slice OT x.types.length MU,.slice OU x.hosts.length MV,.slice Jb x.globs.length G5,.int .i64 x.first,.int .i64 x.most,.slice Xb x.fns.length UO,.slice Xc x.dat.length UQ,.slice Rw x.Aw.length PN]):=by rw [←hw];exact AA (AQ.new w 29 [.slice OT x.types.length MU,.slice OU x.hosts.length MV,.slice Jb x.globs.length G5,.int .i64 x.first,.int .i64 x.most,.slice Xb x.fns.length UO,.slice Xc x.dat.length UQ,.slice Rw x.Aw.length PN])
 have H1:Hid (Below w.heap.size w w1):=by rw [←hw];exact AA ((Below.refl _ _).alloc (Nat.le_refl _) _)
 clear hw
 have Te:Hid (Cap (x.types.length+x.hosts.length+x.globs.length+x.fns.length+x.dat.length+x.Aw.length) (x.types.length+x.hosts.length+x.globs.length+x.fns.length+x.dat.length+x.Aw.length)∧(x.types.length+x.hosts.length+x.globs.length+x.fns.length+x.dat.length+x.Aw.length)≤1125899906842624):=AA ⟨.inl rfl,by omega⟩
 go_cut [3] from 31 to 58 (fun s wx=>SzC w1 ((x.types.length+x.hosts.length+x.globs.length+x.fns.length+x.dat.length+x.Aw.length)+BM (fun t:CW=>t.p.size+t.r.size) x.types) s wx)
 case first=>
  have hbx:=Hb1.out.q 0 rfl
  go_wp2_with fail
  go_loopw [3,4] (fun s i wr=>GK w1 (x.types.length+x.hosts.length+x.globs.length+x.fns.length+x.dat.length+x.Aw.length) (fun t:CW=>t.p.size+t.r.size) x.types s i wr) (fun _ i _=>x.types.length-(intOf i).toNat)
  case atStart=>exact⟨0,_,0,Nat.zero_le _,rfl,by go_num,rfl,by simpa [BM] using Te.out.1,Te.out.2⟩
  case round=>
   obtain⟨k,m,q,hk,rfl,rfl,rfl,hm,VP⟩:=hrel
   have Hm:=AA hm;clear hm
   by_cases hlt:k<x.types.length
   ·by_cases hm2:m≤2147483647
    ·obtain⟨y,hx⟩: ∃y,x.types[k]?=some y:=⟨_,List.getElem?_eq_getElem hlt⟩
     obtain⟨b,o,rfl,_,_,hc0,hc1,p_p,p_r⟩:=DN (Rd.below Vb.out H1.out hhi) hx
     unfold Rd.PD at p_p p_r
     have HS:=AA (GK.next Hm.out hx (.inl rfl))
     have Yi:decide ((m:Int)≤2147483647)=true:=decide_eq_true (by omega)
     have hi0:(0:Int)≤k:=by omega
     clear hx
     go_wp2_with fail
     go_quiet (fail)
     go_wp2_with fail
     exact⟨⟨k+1,m+(y.p.size+y.r.size),q+nq,by omega,by go_num,by go_num,rfl,HS.out,by omega⟩,by simp [intOf];omega⟩
    ·have Yi:decide ((m:Int)≤2147483647)=false:=decide_eq_false (by omega)
     go_wp2_with fail
     go_meet
     exact GK.stop Hm.out (by omega) VP
   ·go_wp2_with fail
    go_meet
    exact GK.all Hm.out (by omega) VP
 case rest=>
  obtain⟨n0,q0,rfl,rfl,hcap,jh⟩:=hcut
  clear Te
  have Te:=AA (And.intro hcap jh)
  clear hcap jh
  go_upto_block 2 with fail
  go_cut [3] from 59 to 86 (fun s wx=>SzC w1 (((x.types.length+x.hosts.length+x.globs.length+x.fns.length+x.dat.length+x.Aw.length)+BM (fun t:CW=>t.p.size+t.r.size) x.types)+BM (Ii) x.fns) s wx)
  case first=>
   have hbx:=Hb1.out.q 5 rfl
   go_wp2_with fail
   go_loopw [3,5] (fun s i wr=>GK w1 ((x.types.length+x.hosts.length+x.globs.length+x.fns.length+x.dat.length+x.Aw.length)+BM (fun t:CW=>t.p.size+t.r.size) x.types) (Ii) x.fns s i wr) (fun _ i _=>x.fns.length-(intOf i).toNat)
   case atStart=>exact⟨0,n0,q0,Nat.zero_le _,rfl,rfl,rfl,by simpa [BM] using Te.out.1,Te.out.2⟩
   case round=>
    obtain⟨k,m,q,hk,rfl,rfl,rfl,hm,VP⟩:=hrel
    have Hm:=AA hm;clear hm
    by_cases hlt:k<x.fns.length
    ·by_cases hm2:m≤2147483647
     ·obtain⟨y,hx⟩: ∃y,x.fns[k]?=some y:=⟨_,List.getElem?_eq_getElem hlt⟩
      obtain⟨b,o,IL,Gm,rfl,_,_,hc0,hc1,hc2,_,AB0,Ef⟩:=FN (Rd.below jf.out H1.out hhi) hx
      unfold Rd.PD at AB0
      have hfn:=Hin.out.fns y (List.mem_of_getElem? hx)
      have HX:=AA hx
      have HC:=AA (fun W (hW:Below w1.heap.size w1 W)=>dS IL y.code.length Gm hi y.code W (Rd.below Ef hW (Nat.le_trans hhi H1.out.size)) hfn.2.1 hfn.2.2)
      have hcc:=Y3 hfn.2.1 hfn.2.2
      clear Ef hfn
      have Yi:decide ((m:Int)≤2147483647)=true:=decide_eq_true (by omega)
      have hi0:(0:Int)≤k:=by omega
      clear hx
      go_wp2_with fail
      go_quiet ((go_at_call 50;first | exact Bp (HC.out _ (below_drewN (Below.refl _ _) _)) | exact Bj (HC.out _ (below_drewN (Below.refl _ _) _))))
      go_wp2_with fail
      have HS:=AA (GK.next (g:=y.loc.size+Kj y.code) Hm.out HX.out ((Cap.step (.inl rfl) (XG y.code)):Cap _ (Ii y)))
      exact⟨⟨k+1,m+(y.loc.size+Kj y.code),q+nq,by omega,by go_num,by go_num,rfl,HS.out,by omega⟩,by simp [intOf];omega⟩
     ·have Yi:decide ((m:Int)≤2147483647)=false:=decide_eq_false (by omega)
      go_wp2_with fail
      go_meet
      exact GK.stop Hm.out (by omega) VP
    ·go_wp2_with fail
     go_meet
     exact GK.all Hm.out (by omega) VP
  case rest=>
   obtain⟨n0,q0,rfl,rfl,hcap,jh⟩:=hcut
   clear Te
   have Te:=AA (And.intro hcap jh)
   clear hcap jh
   go_upto_block 4 with fail
   go_cut [3] from 87 to 106 (fun s wx=>SzC w1 ((((x.types.length+x.hosts.length+x.globs.length+x.fns.length+x.dat.length+x.Aw.length)+BM (fun t:CW=>t.p.size+t.r.size) x.types)+BM (Ii) x.fns)+BM (fun d:Gn=>d.b.length) x.dat) s wx)
   case first=>
    have hbx:=Hb1.out.q 6 rfl
    go_wp2_with fail
    go_loopw [3,6] (fun s i wr=>GK w1 (((x.types.length+x.hosts.length+x.globs.length+x.fns.length+x.dat.length+x.Aw.length)+BM (fun t:CW=>t.p.size+t.r.size) x.types)+BM (Ii) x.fns) (fun d:Gn=>d.b.length) x.dat s i wr) (fun _ i _=>x.dat.length-(intOf i).toNat)
    case atStart=>exact⟨0,n0,q0,Nat.zero_le _,rfl,rfl,rfl,by simpa [BM] using Te.out.1,Te.out.2⟩
    case round=>
     obtain⟨k,m,q,hk,rfl,rfl,rfl,hm,VP⟩:=hrel
     have Hm:=AA hm;clear hm
     by_cases hlt:k<x.dat.length
     ·by_cases hm2:m≤2147483647
      ·obtain⟨y,hx⟩: ∃y,x.dat[k]?=some y:=⟨_,List.getElem?_eq_getElem hlt⟩
       obtain⟨b,o,Qw,QH,rfl,_,_,hc0,hc1,_,_⟩:=JO (Rd.below jg.out H1.out hhi) hx
       have hdl:=Hin.out.dat y (List.mem_of_getElem? hx)
       have HS:=AA (GK.next Hm.out hx (.inl rfl))
       have Yi:decide ((m:Int)≤2147483647)=true:=decide_eq_true (by omega)
       have hi0:(0:Int)≤k:=by omega
       clear hx
       go_wp2_with fail
       exact⟨⟨k+1,m+(y.b.length),q,by omega,by go_num,by go_num,rfl,HS.out,by omega⟩,by simp [intOf];omega⟩
      ·have Yi:decide ((m:Int)≤2147483647)=false:=decide_eq_false (by omega)
       go_wp2_with fail
       go_meet
       exact GK.stop Hm.out (by omega) VP
     ·go_wp2_with fail
      go_meet
      exact GK.all Hm.out (by omega) VP
   case rest=>
    obtain⟨n0,q0,rfl,rfl,hcap,jh⟩:=hcut
    clear Te
    have Te:=AA (And.intro hcap jh)
    clear hcap jh
    go_upto_block 6 with fail
    go_cut [3] from 107 to 126 (fun s wx=>SzC w1 (((((x.types.length+x.hosts.length+x.globs.length+x.fns.length+x.dat.length+x.Aw.length)+BM (fun t:CW=>t.p.size+t.r.size) x.types)+BM (Ii) x.fns)+BM (fun d:Gn=>d.b.length) x.dat)+BM (fun e:LC=>e.n.size) x.Aw) s wx)
    case first=>
     have hbx:=Hb1.out.q 7 rfl
     go_wp2_with fail
     go_loopw [3,7] (fun s i wr=>GK w1 ((((x.types.length+x.hosts.length+x.globs.length+x.fns.length+x.dat.length+x.Aw.length)+BM (fun t:CW=>t.p.size+t.r.size) x.types)+BM (Ii) x.fns)+BM (fun d:Gn=>d.b.length) x.dat) (fun e:LC=>e.n.size) x.Aw s i wr) (fun _ i _=>x.Aw.length-(intOf i).toNat)
     case atStart=>exact⟨0,n0,q0,Nat.zero_le _,rfl,rfl,rfl,by simpa [BM] using Te.out.1,Te.out.2⟩
     case round=>
      obtain⟨k,m,q,hk,rfl,rfl,rfl,hm,VP⟩:=hrel
      have Hm:=AA hm;clear hm
      by_cases hlt:k<x.Aw.length
      ·by_cases hm2:m≤2147483647
       ·obtain⟨y,hx⟩: ∃y,x.Aw[k]?=some y:=⟨_,List.getElem?_eq_getElem hlt⟩
        obtain⟨b,o,rfl,_,_,hc0,hc1,p_n,_⟩:=MS (Rd.below ZF.out H1.out hhi) hx
        unfold Rd.PD at p_n
        have HS:=AA (GK.next Hm.out hx (.inl rfl))
        have Yi:decide ((m:Int)≤2147483647)=true:=decide_eq_true (by omega)
        have hi0:(0:Int)≤k:=by omega
        clear hx
        go_wp2_with fail
        exact⟨⟨k+1,m+(y.n.size),q,by omega,by go_num,by go_num,rfl,HS.out,by omega⟩,by simp [intOf];omega⟩
       ·have Yi:decide ((m:Int)≤2147483647)=false:=decide_eq_false (by omega)
        go_wp2_with fail
        go_meet
        exact GK.stop Hm.out (by omega) VP
      ·go_wp2_with fail
       go_meet
       exact GK.all Hm.out (by omega) VP
    case rest=>
     obtain⟨n0,q0,rfl,rfl,hcap,jh⟩:=hcut
     clear Te
     have Te:=AA (And.intro hcap jh)
     clear hcap jh
     go_wp2_with fail
     go_ret
     exact⟨below_drewN H1.out _,n0,rfl,by simpa only [BU,Nat.add_assoc] using Te.out.1⟩
theorem G9 {fn:Func} {p:Tmp} {ty:TypeId} (h:fn.results= #[.cell p ty]) (tmps:Array Value) (P:Program) (w:World):
 (results fn tmps).run P w=((asAddr (tmps.getD p undef)).run P w).andThen fun a w₁=>(loadVar ty a).run P w₁:=by
 simp only [results,h]
 simp [Sem.run_bind,Result.andThen]
def Uh (x:Ad):Prop:=x.l.length≤2147483647
def xw (x:Bt):Prop:=x.code.length≤2147483647∧ ∀i∈x.code,Uh i
def Xe (x:Gn):Prop:=x.b.length≤2147483647
def x9 (x:Js):Prop:=x.loc.length≤2147483647∧x.st.length≤2147483647
def qK (x:List UInt8):Prop:=x.length≤2147483647
def Ui (x:AP):Prop:=x.types.length≤2147483647∧x.hosts.length≤2147483647∧x.globs.length≤2147483647∧(x.fns.length≤2147483647∧ ∀i∈x.fns,xw i)∧(x.dat.length≤2147483647∧ ∀i∈x.dat,Xe i)∧x.Aw.length≤2147483647
def yA (x:FU):Prop:=(x.frames.length≤2147483647∧ ∀i∈x.frames,x9 i)∧x.globs.length≤2147483647∧(x.pages.length≤2147483647∧ ∀i∈x.pages,qK i)∧x.res.length≤2147483647
def Q8 {α:Type} (r:Rd α) (x:α) (w:World) (e:Ending) (w':World):Prop:= ∃cs',e= .returned (.agg cs'.toArray)∧r.R w' w.heap.size w'.heap.size cs' x∧Below w.heap.size w w'
theorem qL {α:Type} {r:Rd α} {W:World} {k hi:Nat} {cs:List Value} {x:α} (h:r.R W (k+2) hi cs x):r.R W k hi cs x:=r.more (Nat.le_add_right _ 2) (Nat.le_refl _) h
def Ve (W:World) (b:Nat):Nat→List Value→World
 | _,[]=>W
 | i,v::l=>Ve (W.setCell ⟨b,i,none⟩ v) b (i+1) l
structure Lu (T:TypeId) (w W:World) (cs zs:List Value) (Q:World→Prop):Prop where
 b:AQ W w.heap.size T cs
 r:AQ W (w.heap.size+1) T zs
 H:Below w.heap.size w W
 s:w.heap.size+2≤W.heap.size
 q:Q W
 st: ∀W1 W2,Q W1→w.heap.size+2≤W1.heap.size→(Below W1.heap.size W1 W2∨ ∃p u,p.block<w.heap.size+2∧W2=W1.setCell p u)→Q W2
section
variable {T:TypeId} {w W W':World} {cs zs:List Value} {Q:World→Prop}
theorem Lu.init (T:TypeId) (w:World) (cs zs:List Value):Lu T w ((w.alloc (.cells cs.toArray T)).alloc (.cells zs.toArray T)) cs zs (fun _=>True):=
 ⟨(AQ.new w T cs).alloc _,by have:=AQ.new (w.alloc (.cells cs.toArray T)) T zs;rwa [World.size_alloc] at this,((Below.refl _ _).alloc (Nat.le_refl _) _).alloc (by simp) _,by simp,trivial,fun _ _ _ _ _=>trivial⟩
theorem Lu.below (h:Lu T w W cs zs Q) (hb:Below W.heap.size W W'):Lu T w W' cs zs Q:=
 ⟨h.b.below hb h.b.lt,h.r.below hb h.r.lt,h.H.trans (hb.mono h.H.size),Nat.le_trans h.s hb.size,h.st _ _ h.q h.s (.inl hb),h.st⟩
theorem Lu.put (h:Lu T w W cs zs Q) {α:Type} (r:Rd α) {v:Value} {x:α} (h2:r.R W' W.heap.size W'.heap.size [v] x) (hb:Below W.heap.size W W') (j:Nat):
 Lu T w (W'.setCell ⟨w.heap.size,j,none⟩ v) (cs.set j v) zs (fun W=>Q W∧r.R W (w.heap.size+2) W.heap.size [v] x):=by
 have h':=h.below hb
 have hs:=h.s
 have key: ∀W1 W2,r.R W1 (w.heap.size+2) W1.heap.size [v] x→(Below W1.heap.size W1 W2∨ ∃p u,p.block<w.heap.size+2∧W2=W1.setCell p u)→r.R W2 (w.heap.size+2) W2.heap.size [v] x:=by
  rintro W1 W2 h1 (h3 | ⟨p,u,hp,rfl⟩)
  ·exact r.more (Nat.le_refl _) h3.size (Rd.below h1 h3 (Nat.le_refl _))
  ·exact r.more (Nat.le_refl _) (by simp [World.setCell]) (Rd.set h1 u (.inl hp))
 exact⟨h'.b.set j v,h'.r.far (p:=⟨w.heap.size,j,none⟩) (by simp) v,h'.H.setCell (p:=⟨w.heap.size,j,none⟩) (Nat.le_refl _) v,by simpa [World.setCell] using h'.s,⟨h'.st _ _ h'.q h'.s (.inr ⟨_,v,by simp,rfl⟩),key _ _ (r.more hs (Nat.le_refl _) h2) (.inr ⟨_,v,by simp,rfl⟩)⟩,fun W1 W2 h1 h2 h3=>⟨h.st _ _ h1.1 h2 h3,key _ _ h1.2 h3⟩⟩
theorem Lu.setR (h:Lu T w W cs zs Q) (j:Nat) (v:Value):Lu T w (W.setCell ⟨w.heap.size+1,j,none⟩ v) cs (zs.set j v) Q:=
 ⟨h.b.far (p:=⟨w.heap.size+1,j,none⟩) (by simp) v,h.r.set j v,h.H.setCell (p:=⟨w.heap.size+1,j,none⟩) (Nat.le_succ _) v,by simpa [World.setCell] using h.s,h.st _ _ h.q h.s (.inr ⟨_,v,by simp,rfl⟩),h.st⟩
theorem Lu.vR: ∀(l a z:List Value) {W:World},Lu T w W cs (a++z) Q→z.length=l.length→Lu T w (Ve W (w.heap.size+1) a.length l) cs (a++l) Q
 | [],a,z,W,h,hz=>by rw [List.length_eq_zero_iff.1 hz] at h;exact h
 | v::l,a,[],W,h,hz=>by cases hz
 | v::l,a,u::z,W,h,hz=>by
  have h1:=h.setR a.length v
  rw [show(a++u::z).set a.length v=(a++ [v])++z by simp] at h1
  have:=Lu.vR l (a++ [v]) z h1 (by simpa using hz)
  simpa [Ve] using this
theorem Lu.fill (h:Lu T w W cs zs Q) (hz:zs.length=cs.length):Lu T w (Ve W (w.heap.size+1) 0 cs) cs cs Q:=Lu.vR cs [] zs h hz
end
theorem yB (cs:List Value) (hi:Nat) (x:Ad) (w:World) (h:Ga.R w 0 hi cs x) (hhi:hi≤w.heap.size) (hle:Uh x):
 Calls prog 118 #[.agg cs.toArray] w (Q8 Ga x w):=by
 obtain⟨Yx,rfl,Ql,La⟩:=Dz.1 h
 obtain⟨Gb,GH,rfl⟩:=AJ La
 have yC:=AA Ql
 have qM:=AA La
 have N8:=AA hle
 clear h hle Ql La
 go_enter func118,ntmps118
 go_wp2_with fail
 generalize hw:(w.alloc _).alloc _=w1
 have S:Hid (Lu 122 w w1 [.int .u8 (x.op.toNat:Int),.int .i64 x.a,.slice Gb x.l.length GH] [.int .u8 0,.int .i64 0,.slice none 0 0] fun _=>True):=by rw [←hw];exact AA (Lu.init _ _ _ _)
 clear hw
 refine(aU Gb x.l.length GH hi x.l w1 (Rd.below qM.out S.out.H hhi) (Nat.le_trans hhi S.out.H.size) (by have:=N8.out;unfold Uh at this;omega)).mono ?_
 rintro e w2 ⟨vT,vU,rfl,h2,h3⟩
 have S2:=AA (S.out.below h3);replace S:=AA (S.out.put _ h2 h3 2)
 clear h2 h3
 have hf:=S2.out.b.frozen 2;have hc:=S2.out.b.q 2 rfl
 have hd0:=S2.out.b.q 0 rfl
 have hd1:=S2.out.b.q 1 rfl
 have hg0:=S2.out.r.frozen 0;have he0:=S2.out.r.q 0 rfl
 have hg1:=S2.out.r.frozen 1;have he1:=S2.out.r.q 1 rfl
 have hg2:=S2.out.r.frozen 2;have he2:=S2.out.r.q 2 rfl
 go_wp2_with fail
 have E:Lu 122 w _ [.int .u8 (x.op.toNat:Int),.int .i64 x.a,.slice vT x.l.length vU] [.int .u8 (x.op.toNat:Int),.int .i64 x.a,.slice vT x.l.length vU] _:=S.out.fill rfl
 refine bodyPost_ret ?_ rfl ⟨_,rfl,Dz.2 ⟨.slice vT x.l.length vU,rfl,yC.out,qL E.q.2⟩,E.H⟩
 rw [G9 rfl]
 simp only [asAddr,Result.andThen]
 exact run_loadVar_row _ _ 122 122 _ (0,0) _ E.r underlying122 rfl (by kernel_rfl)
theorem ZG:(prog.info? 122).map (fun i=>(i.size,i.bytes,i.zero.map fun z=>z.cells.size))=some (3,40,some 3):=by kernel_rfl
def eO (l:List Ad) (w:World) (a i:Value) (wr:World):Prop:= ∃(k:Nat) (A:Option Addr) (c:Nat) (cells:List Value),k≤l.length∧i= .int .i64 k∧a= .slice A k c∧Fu Ga 122 w.heap.size wr A k c cells (l.take k)∧Below w.heap.size w wr
theorem qN (A:Option Addr) (n c hi:Nat) (l:List Ad) (w:World) (h:(Ga.sl false).R w 0 hi [.slice A n c] l) (hhi:hi≤w.heap.size) (hle:l.length≤2147483647∧ ∀x∈l,Uh x):
 Calls prog 92 #[.slice A n c] w (IC Ga l w):=by
 have hn:=Dp h
 have hlen:=hle.1
 rw [←hn] at hlen
 have N8:=AA hle.2
 have Hh:=AA h
 have Hn:=AA hn
 clear h hn hle
 obtain⟨i0,z0,hi0,hz,hs',hb,hzz⟩:=info_parts' ZG
 have Hi:=AA hi0;have Hz:=AA hz;have Hs:=AA hs';have Hb:=AA hb;have M5:=AA hzz;clear hi0 hz hs' hb hzz
 go_enter func92,ntmps92
 go_wp2_with fail
 go_loopw [3,4] (fun a i wr=>eO l w a i wr) (fun _ i _=>n-(intOf i).toNat)
 case atStart=>exact⟨0,none,0,[],Nat.zero_le _,rfl,rfl,Fu.nil _ _ _ _,Below.refl _ _⟩
 case round=>
  obtain⟨k,A1,c1,cells,hk,rfl,rfl,hg,hbel⟩:=hrel
  have Hg:=AA hg;clear hg
  have CP:=AA hbel;clear hbel
  rw [←Hn.out] at hk
  by_cases hlt:k<n
  ·obtain⟨x,hx⟩: ∃x,l[k]?=some x:=⟨_,List.getElem?_eq_getElem (by rw [←Hn.out];exact hlt)⟩
   obtain⟨b,o,Gb,GH,rfl,hlo,qO,hc0,hc1,hc2,Ql,La⟩:=EP ((Ga.sl false).below Hh.out CP.out hhi) hx
   have HE:Hid (Ga.R wr 0 hi [.int .u8 (x.op.toNat:Int),.int .i64 x.a,.slice Gb x.l.length GH] x):=AA (Dz.2 ⟨.slice Gb x.l.length GH,rfl,Ql,La⟩)
   have Hx:=AA hx;clear hx Ql La
   have hsz:w.heap.size≤wr.heap.size:=CP.out.size
   have hk0:(0:Int)≤k:=by omega
   go_wp2_with fail
   refine(yB _ hi x wr HE.out (Nat.le_trans hhi hsz) (N8.out x (List.mem_of_getElem? Hx.out))).mono ?_
   rintro e w2 ⟨cs',rfl,hr2,hbe⟩
   obtain⟨u_l,rfl,g_a,g_l⟩:=Dz.1 hr2
   obtain⟨vT,vU,rfl⟩:=AJ g_l
   have Hr2:=AA hr2
   clear hr2 g_a g_l
   have XM:=AA (Hg.out.below hbe)
   have ak:=AA hbe.size
   have Hb2:=AA (CP.out.trans (hbe.mono hsz))
   have hsz2:w.heap.size≤w2.heap.size:=Hb2.out.size
   clear hbe
   have GL:=AA (JY w2 [.int .u8 (x.op.toNat:Int),.int .i64 x.a,.slice vT x.l.length vU] 122)
   go_wp2_with (at_builtin;refine BL _ rfl (.tmp 11) (.tmp 17) 94 rfl w.heap.size 122 i0 z0 3 40 underlying94 Hi.out Hz.out Hs.out Hb.out M5.out (by omega) (.slice A1 k c1) k cells rfl (XM.out.own.alloc _) (w2.heap.size+1) _ 1 1 [.int .u8 (x.op.toNat:Int),.int .i64 x.a,.slice vT x.l.length vU] rfl rfl GL.out (by intro u hu;simp at hu;rcases hu with rfl | rfl | rfl<;>rfl) (by unfold maxLen;omega) (by omega) (by simp;omega) ?_;intro A3 c3 w3 h2 h3 h4;have H2:=AA h2;have H3:=AA h3;have H4:=AA h4;clear h2 h3 h4)
   have hba:Below w2.heap.size w2 (w2.alloc (.cells #[.int .u8 (x.op.toNat:Int),.int .i64 x.a,.slice vT x.l.length vU] 122)):=(Below.refl _ _).alloc (Nat.le_refl _) _
   have hgn:=(XM.out.below hba).snoc (by simp;omega) (Ga.below Hr2.out hba (Nat.le_refl _)) (Nat.le_trans hsz (Nat.le_refl _)) (by simp) (fun g hg=> .inl (Hg.out.own.lt g hg).2) H2.out H3.out H4.out
   refine⟨⟨k+1,A3,c3,cells++ [.int .u8 (x.op.toNat:Int),.int .i64 x.a,.slice vT x.l.length vU],by rw [←Hn.out];omega,by go_num,rfl,?_,(Hb2.out.alloc hsz2 _).trans (BG (XM.out.own.alloc _) H3.out (by simp;omega))⟩,by simp [intOf];omega⟩
   rw [List.take_add_one,Hx.out]
   exact hgn
  ·obtain rfl:n=k:=by omega
   go_wp2_with fail
   go_ret
   refine⟨A1,c1,by rw [←Hn.out];rfl,?_,CP.out⟩
   have:=Hg.out.reads
   rw [List.take_of_length_le (by rw [←Hn.out];exact Nat.le_refl _)] at this
   rw [←Hn.out]
   exact this
theorem Xf (cs:List Value) (hi:Nat) (x:Bt) (w:World) (h:XA.R w 0 hi cs x) (hhi:hi≤w.heap.size) (hle:xw x):
 Calls prog 62 #[.agg cs.toArray] w (Q8 XA x w):=by
 obtain⟨Jh,rfl,dP,DU,Ef⟩:=MR.1 h
 obtain⟨IL,Gm,rfl⟩:=AJ Ef
 have H_t:=AA dP
 have ji:=AA DU
 have yD:=AA Ef
 have N8:=AA hle
 clear h hle dP DU Ef
 go_enter func62,ntmps62
 go_wp2_with fail
 generalize hw:(w.alloc _).alloc _=w1
 have S:Hid (Lu 96 w w1 [.int .i64 x.t,.string x.loc,.slice IL x.code.length Gm] [.int .i64 0,.string ByteArray.empty,.slice none 0 0] fun _=>True):=by rw [←hw];exact AA (Lu.init _ _ _ _)
 clear hw
 refine(qN IL x.code.length Gm hi x.code w1 (Rd.below yD.out S.out.H hhi) (Nat.le_trans hhi S.out.H.size) N8.out).mono ?_
 rintro e w2 ⟨Lv,Lx,rfl,h2,h3⟩
 have S2:=AA (S.out.below h3);replace S:=AA (S.out.put _ h2 h3 2)
 clear h2 h3
 have hf:=S2.out.b.frozen 2;have hc:=S2.out.b.q 2 rfl
 have hd0:=S2.out.b.q 0 rfl
 have hd1:=S2.out.b.q 1 rfl
 have hg0:=S2.out.r.frozen 0;have he0:=S2.out.r.q 0 rfl
 have hg1:=S2.out.r.frozen 1;have he1:=S2.out.r.q 1 rfl
 have hg2:=S2.out.r.frozen 2;have he2:=S2.out.r.q 2 rfl
 go_wp2_with fail
 have E:Lu 96 w _ [.int .i64 x.t,.string x.loc,.slice Lv x.code.length Lx] [.int .i64 x.t,.string x.loc,.slice Lv x.code.length Lx] _:=S.out.fill rfl
 refine bodyPost_ret ?_ rfl ⟨_,rfl,MR.2 ⟨.slice Lv x.code.length Lx,rfl,H_t.out,ji.out,qL E.q.2⟩,E.H⟩
 rw [G9 rfl]
 simp only [asAddr,Result.andThen]
 exact run_loadVar_row _ _ 96 96 _ (0,0) _ E.r underlying96 rfl (by kernel_rfl)
theorem Qn:(prog.info? 96).map (fun i=>(i.size,i.bytes,i.zero.map fun z=>z.cells.size))=some (3,48,some 3):=by kernel_rfl
def Rx (l:List Bt) (w:World) (a i:Value) (wr:World):Prop:= ∃(k:Nat) (A:Option Addr) (c:Nat) (cells:List Value),k≤l.length∧i= .int .i64 k∧a= .slice A k c∧Fu XA 96 w.heap.size wr A k c cells (l.take k)∧Below w.heap.size w wr
theorem Vf (A:Option Addr) (n c hi:Nat) (l:List Bt) (w:World) (h:(XA.sl false).R w 0 hi [.slice A n c] l) (hhi:hi≤w.heap.size) (hle:l.length≤2147483647∧ ∀x∈l,xw x):
 Calls prog 28 #[.slice A n c] w (IC XA l w):=by
 have hn:=Dp h
 have hlen:=hle.1
 rw [←hn] at hlen
 have N8:=AA hle.2
 have Hh:=AA h
 have Hn:=AA hn
 clear h hn hle
 obtain⟨i0,z0,hi0,hz,hs',hb,hzz⟩:=info_parts' Qn
 have Hi:=AA hi0;have Hz:=AA hz;have Hs:=AA hs';have Hb:=AA hb;have M5:=AA hzz;clear hi0 hz hs' hb hzz
 go_enter func28,ntmps28
 go_wp2_with fail
 go_loopw [3,4] (fun a i wr=>Rx l w a i wr) (fun _ i _=>n-(intOf i).toNat)
 case atStart=>exact⟨0,none,0,[],Nat.zero_le _,rfl,rfl,Fu.nil _ _ _ _,Below.refl _ _⟩
 case round=>
  obtain⟨k,A1,c1,cells,hk,rfl,rfl,hg,hbel⟩:=hrel
  have Hg:=AA hg;clear hg
  have CP:=AA hbel;clear hbel
  rw [←Hn.out] at hk
  by_cases hlt:k<n
  ·obtain⟨x,hx⟩: ∃x,l[k]?=some x:=⟨_,List.getElem?_eq_getElem (by rw [←Hn.out];exact hlt)⟩
   obtain⟨b,o,IL,Gm,rfl,hlo,qO,hc0,hc1,hc2,dP,DU,Ef⟩:=FN ((XA.sl false).below Hh.out CP.out hhi) hx
   have HE:Hid (XA.R wr 0 hi [.int .i64 x.t,.string x.loc,.slice IL x.code.length Gm] x):=AA (MR.2 ⟨.slice IL x.code.length Gm,rfl,dP,DU,Ef⟩)
   have Hx:=AA hx;clear hx dP DU Ef
   have hsz:w.heap.size≤wr.heap.size:=CP.out.size
   have hk0:(0:Int)≤k:=by omega
   go_wp2_with fail
   refine(Xf _ hi x wr HE.out (Nat.le_trans hhi hsz) (N8.out x (List.mem_of_getElem? Hx.out))).mono ?_
   rintro e w2 ⟨cs',rfl,hr2,hbe⟩
   obtain⟨u_code,rfl,g_t,AB3,jk⟩:=MR.1 hr2
   obtain⟨Lv,Lx,rfl⟩:=AJ jk
   have Hr2:=AA hr2
   clear hr2 g_t AB3 jk
   have XM:=AA (Hg.out.below hbe)
   have ak:=AA hbe.size
   have Hb2:=AA (CP.out.trans (hbe.mono hsz))
   have hsz2:w.heap.size≤w2.heap.size:=Hb2.out.size
   clear hbe
   have GL:=AA (JY w2 [.int .i64 x.t,.string x.loc,.slice Lv x.code.length Lx] 96)
   go_wp2_with (at_builtin;refine BL _ rfl (.tmp 11) (.tmp 17) 25 rfl w.heap.size 96 i0 z0 3 48 underlying25 Hi.out Hz.out Hs.out Hb.out M5.out (by omega) (.slice A1 k c1) k cells rfl (XM.out.own.alloc _) (w2.heap.size+1) _ 1 1 [.int .i64 x.t,.string x.loc,.slice Lv x.code.length Lx] rfl rfl GL.out (by intro u hu;simp at hu;rcases hu with rfl | rfl | rfl<;>rfl) (by unfold maxLen;omega) (by omega) (by simp;omega) ?_;intro A3 c3 w3 h2 h3 h4;have H2:=AA h2;have H3:=AA h3;have H4:=AA h4;clear h2 h3 h4)
   have hba:Below w2.heap.size w2 (w2.alloc (.cells #[.int .i64 x.t,.string x.loc,.slice Lv x.code.length Lx] 96)):=(Below.refl _ _).alloc (Nat.le_refl _) _
   have hgn:=(XM.out.below hba).snoc (by simp;omega) (XA.below Hr2.out hba (Nat.le_refl _)) (Nat.le_trans hsz (Nat.le_refl _)) (by simp) (fun g hg=> .inl (Hg.out.own.lt g hg).2) H2.out H3.out H4.out
   refine⟨⟨k+1,A3,c3,cells++ [.int .i64 x.t,.string x.loc,.slice Lv x.code.length Lx],by rw [←Hn.out];omega,by go_num,rfl,?_,(Hb2.out.alloc hsz2 _).trans (BG (XM.out.own.alloc _) H3.out (by simp;omega))⟩,by simp [intOf];omega⟩
   rw [List.take_add_one,Hx.out]
   exact hgn
  ·obtain rfl:n=k:=by omega
   go_wp2_with fail
   go_ret
   refine⟨A1,c1,by rw [←Hn.out];rfl,?_,CP.out⟩
   have:=Hg.out.reads
   rw [List.take_of_length_le (by rw [←Hn.out];exact Nat.le_refl _)] at this
   rw [←Hn.out]
   exact this
theorem qP (cs:List Value) (hi:Nat) (x:Gn) (w:World) (h:M0.R w 0 hi cs x) (hhi:hi≤w.heap.size) (hle:Xe x):
 Calls prog 63 #[.agg cs.toArray] w (Q8 M0 x w):=by
 obtain⟨o_,rfl,Ju,Yy⟩:=Lb.1 h
 obtain⟨Qw,QH,rfl⟩:=AJ Yy
 have AB4:=AA Ju
 have H_b:=AA Yy
 have N8:=AA hle
 clear h hle Ju Yy
 go_enter func63,ntmps63
 go_wp2_with fail
 generalize hw:(w.alloc _).alloc _=w1
 have S:Hid (Lu 99 w w1 [.int .i64 x.at_,.slice Qw x.b.length QH] [.int .i64 0,.slice none 0 0] fun _=>True):=by rw [←hw];exact AA (Lu.init _ _ _ _)
 clear hw
 refine(XF Qw x.b.length QH hi x.b w1 (Rd.below H_b.out S.out.H hhi) (Nat.le_trans hhi S.out.H.size) (by have:=N8.out;unfold Xe at this;omega)).mono ?_
 rintro e w2 ⟨vV,vW,rfl,h2,h3⟩
 have S2:=AA (S.out.below h3);replace S:=AA (S.out.put _ h2 h3 1)
 clear h2 h3
 have hf:=S2.out.b.frozen 1;have hc:=S2.out.b.q 1 rfl
 have hd0:=S2.out.b.q 0 rfl
 have hg0:=S2.out.r.frozen 0;have he0:=S2.out.r.q 0 rfl
 have hg1:=S2.out.r.frozen 1;have he1:=S2.out.r.q 1 rfl
 go_wp2_with fail
 have E:Lu 99 w _ [.int .i64 x.at_,.slice vV x.b.length vW] [.int .i64 x.at_,.slice vV x.b.length vW] _:=S.out.fill rfl
 refine bodyPost_ret ?_ rfl ⟨_,rfl,Lb.2 ⟨.slice vV x.b.length vW,rfl,AB4.out,qL E.q.2⟩,E.H⟩
 rw [G9 rfl]
 simp only [asAddr,Result.andThen]
 exact run_loadVar_row _ _ 99 99 _ (0,0) _ E.r underlying99 rfl (by kernel_rfl)
theorem Xg:(prog.info? 99).map (fun i=>(i.size,i.bytes,i.zero.map fun z=>z.cells.size))=some (2,32,some 2):=by kernel_rfl
def ZH (l:List Gn) (w:World) (a i:Value) (wr:World):Prop:= ∃(k:Nat) (A:Option Addr) (c:Nat) (cells:List Value),k≤l.length∧i= .int .i64 k∧a= .slice A k c∧Fu M0 99 w.heap.size wr A k c cells (l.take k)∧Below w.heap.size w wr
theorem jl (A:Option Addr) (n c hi:Nat) (l:List Gn) (w:World) (h:(M0.sl false).R w 0 hi [.slice A n c] l) (hhi:hi≤w.heap.size) (hle:l.length≤2147483647∧ ∀x∈l,Xe x):
 Calls prog 29 #[.slice A n c] w (IC M0 l w):=by
 have hn:=Dp h
 have hlen:=hle.1
 rw [←hn] at hlen
 have N8:=AA hle.2
 have Hh:=AA h
 have Hn:=AA hn
 clear h hn hle
 obtain⟨i0,z0,hi0,hz,hs',hb,hzz⟩:=info_parts' Xg
 have Hi:=AA hi0;have Hz:=AA hz;have Hs:=AA hs';have Hb:=AA hb;have M5:=AA hzz;clear hi0 hz hs' hb hzz
 go_enter func29,ntmps29
 go_wp2_with fail
 go_loopw [3,4] (fun a i wr=>ZH l w a i wr) (fun _ i _=>n-(intOf i).toNat)
 case atStart=>exact⟨0,none,0,[],Nat.zero_le _,rfl,rfl,Fu.nil _ _ _ _,Below.refl _ _⟩
 case round=>
  obtain⟨k,A1,c1,cells,hk,rfl,rfl,hg,hbel⟩:=hrel
  have Hg:=AA hg;clear hg
  have CP:=AA hbel;clear hbel
  rw [←Hn.out] at hk
  by_cases hlt:k<n
  ·obtain⟨x,hx⟩: ∃x,l[k]?=some x:=⟨_,List.getElem?_eq_getElem (by rw [←Hn.out];exact hlt)⟩
   obtain⟨b,o,Qw,QH,rfl,hlo,qO,hc0,hc1,Ju,Yy⟩:=JO ((M0.sl false).below Hh.out CP.out hhi) hx
   have HE:Hid (M0.R wr 0 hi [.int .i64 x.at_,.slice Qw x.b.length QH] x):=AA (Lb.2 ⟨.slice Qw x.b.length QH,rfl,Ju,Yy⟩)
   have Hx:=AA hx;clear hx Ju Yy
   have hsz:w.heap.size≤wr.heap.size:=CP.out.size
   have hk0:(0:Int)≤k:=by omega
   go_wp2_with fail
   refine(qP _ hi x wr HE.out (Nat.le_trans hhi hsz) (N8.out x (List.mem_of_getElem? Hx.out))).mono ?_
   rintro e w2 ⟨cs',rfl,hr2,hbe⟩
   obtain⟨u_b,rfl,AB5,g_b⟩:=Lb.1 hr2
   obtain⟨vV,vW,rfl⟩:=AJ g_b
   have Hr2:=AA hr2
   clear hr2 AB5 g_b
   have XM:=AA (Hg.out.below hbe)
   have ak:=AA hbe.size
   have Hb2:=AA (CP.out.trans (hbe.mono hsz))
   have hsz2:w.heap.size≤w2.heap.size:=Hb2.out.size
   clear hbe
   have GL:=AA (JY w2 [.int .i64 x.at_,.slice vV x.b.length vW] 99)
   go_wp2_with (at_builtin;refine BL _ rfl (.tmp 11) (.tmp 17) 26 rfl w.heap.size 99 i0 z0 2 32 underlying26 Hi.out Hz.out Hs.out Hb.out M5.out (by omega) (.slice A1 k c1) k cells rfl (XM.out.own.alloc _) (w2.heap.size+1) _ 1 1 [.int .i64 x.at_,.slice vV x.b.length vW] rfl rfl GL.out (by intro u hu;simp at hu;rcases hu with rfl | rfl<;>rfl) (by unfold maxLen;omega) (by omega) (by simp;omega) ?_;intro A3 c3 w3 h2 h3 h4;have H2:=AA h2;have H3:=AA h3;have H4:=AA h4;clear h2 h3 h4)
   have hba:Below w2.heap.size w2 (w2.alloc (.cells #[.int .i64 x.at_,.slice vV x.b.length vW] 99)):=(Below.refl _ _).alloc (Nat.le_refl _) _
   have hgn:=(XM.out.below hba).snoc (by simp;omega) (M0.below Hr2.out hba (Nat.le_refl _)) (Nat.le_trans hsz (Nat.le_refl _)) (by simp) (fun g hg=> .inl (Hg.out.own.lt g hg).2) H2.out H3.out H4.out
   refine⟨⟨k+1,A3,c3,cells++ [.int .i64 x.at_,.slice vV x.b.length vW],by rw [←Hn.out];omega,by go_num,rfl,?_,(Hb2.out.alloc hsz2 _).trans (BG (XM.out.own.alloc _) H3.out (by simp;omega))⟩,by simp [intOf];omega⟩
   rw [List.take_add_one,Hx.out]
   exact hgn
  ·obtain rfl:n=k:=by omega
   go_wp2_with fail
   go_ret
   refine⟨A1,c1,by rw [←Hn.out];rfl,?_,CP.out⟩
   have:=Hg.out.reads
   rw [List.take_of_length_le (by rw [←Hn.out];exact Nat.le_refl _)] at this
   rw [←Hn.out]
   exact this
theorem OV:(prog.info? 91).map (fun i=>(i.size,i.bytes,i.zero.map fun z=>z.cells.size))=some (4,64,some 4):=by kernel_rfl
theorem L6:(prog.info? 40).map (fun i=>(i.size,i.bytes,i.zero.map fun z=>z.cells.size))=some (1,24,some 1):=by kernel_rfl
theorem eP (cs:List Value) (hi:Nat) (x:AP) (w:World) (h:Db.R w 0 hi cs x) (hhi:hi≤w.heap.size) (hle:Ui x):
 Calls prog 7 #[.agg cs.toArray] w (Q8 Db x w):=by
 obtain⟨JQ,Ib,Df,Jv,JR,Fq,rfl,E9,E_,Cj,G6,Ji,Jw,Jy,Gp⟩:=Av.1 h
 obtain⟨OT,MU,rfl⟩:=AJ E9
 obtain⟨OU,MV,rfl⟩:=AJ E_
 obtain⟨Jb,G5,rfl⟩:=AJ Cj
 obtain⟨Xb,UO,rfl⟩:=AJ Jw
 obtain⟨Xc,UQ,rfl⟩:=AJ Jy
 obtain⟨Rw,PN,rfl⟩:=AJ Gp
 have Vb:=AA E9
 have aZ:=AA E_
 have Q7:=AA Cj
 have qQ:=AA G6
 have yE:=AA Ji
 have jf:=AA Jw
 have jg:=AA Jy
 have ZF:=AA Gp
 have N8:=AA hle
 clear h hle E9 E_ Cj G6 Ji Jw Jy Gp
 go_enter func7,ntmps7
 go_wp2_with fail
 generalize hw:(w.alloc _).alloc _=w1
 have S:Hid (Lu 29 w w1 [.slice OT x.types.length MU,.slice OU x.hosts.length MV,.slice Jb x.globs.length G5,.int .i64 x.first,.int .i64 x.most,.slice Xb x.fns.length UO,.slice Xc x.dat.length UQ,.slice Rw x.Aw.length PN] [.slice none 0 0,.slice none 0 0,.slice none 0 0,.int .i64 0,.int .i64 0,.slice none 0 0,.slice none 0 0,.slice none 0 0] fun _=>True):=by rw [←hw];exact AA (Lu.init _ _ _ _)
 clear hw
 refine(pI OT x.types.length MU hi x.types w1 (Rd.below Vb.out S.out.H hhi) (Nat.le_trans hhi S.out.H.size) (by have:=N8.out;unfold Ui at this;omega)).mono ?_
 rintro e w2 ⟨Vg,Vh,rfl,h2,h3⟩
 have S2:=AA (S.out.below h3);replace S:=AA (S.out.put _ h2 h3 0)
 clear h2 h3
 have hf:=S2.out.b.frozen 0;have hc:=S2.out.b.q 0 rfl
 have hn:=S2.out.b.q 1 rfl
 go_wp2_with fail
 clear hn hc hf S2
 generalize w2.setCell _ _=w1 at S⊢
 clear w2
 refine(aU OU x.hosts.length MV hi x.hosts w1 (Rd.below aZ.out S.out.H hhi) (Nat.le_trans hhi S.out.H.size) (by have:=N8.out;unfold Ui at this;omega)).mono ?_
 rintro e w2 ⟨Vi,Vj,rfl,h2,h3⟩
 have S2:=AA (S.out.below h3);replace S:=AA (S.out.put _ h2 h3 1)
 clear h2 h3
 have hf:=S2.out.b.frozen 1;have hc:=S2.out.b.q 1 rfl
 have hn:=S2.out.b.q 2 rfl
 go_wp2_with fail
 clear hn hc hf S2
 generalize w2.setCell _ _=w1 at S⊢
 clear w2
 refine(Y1 Jb x.globs.length G5 hi x.globs w1 (Rd.below Q7.out S.out.H hhi) (Nat.le_trans hhi S.out.H.size) (by have:=N8.out;unfold Ui at this;omega)).mono ?_
 rintro e w2 ⟨Vk,Vl,rfl,h2,h3⟩
 have S2:=AA (S.out.below h3);replace S:=AA (S.out.put _ h2 h3 2)
 clear h2 h3
 have hf:=S2.out.b.frozen 2;have hc:=S2.out.b.q 2 rfl
 have hn:=S2.out.b.q 5 rfl
 go_wp2_with fail
 clear hn hc hf S2
 generalize w2.setCell _ _=w1 at S⊢
 clear w2
 refine(Vf Xb x.fns.length UO hi x.fns w1 (Rd.below jf.out S.out.H hhi) (Nat.le_trans hhi S.out.H.size) N8.out.2.2.2.1).mono ?_
 rintro e w2 ⟨jm,jo,rfl,h2,h3⟩
 have S2:=AA (S.out.below h3);replace S:=AA (S.out.put _ h2 h3 5)
 clear h2 h3
 have hf:=S2.out.b.frozen 5;have hc:=S2.out.b.q 5 rfl
 have hn:=S2.out.b.q 6 rfl
 go_wp2_with fail
 clear hn hc hf S2
 generalize w2.setCell _ _=w1 at S⊢
 clear w2
 refine(jl Xc x.dat.length UQ hi x.dat w1 (Rd.below jg.out S.out.H hhi) (Nat.le_trans hhi S.out.H.size) N8.out.2.2.2.2.1).mono ?_
 rintro e w2 ⟨jq,jr,rfl,h2,h3⟩
 have S2:=AA (S.out.below h3);replace S:=AA (S.out.put _ h2 h3 6)
 clear h2 h3
 have hf:=S2.out.b.frozen 6;have hc:=S2.out.b.q 6 rfl
 have hn:=S2.out.b.q 7 rfl
 go_wp2_with fail
 clear hn hc hf S2
 generalize w2.setCell _ _=w1 at S⊢
 clear w2
 refine(Y2 Rw x.Aw.length PN hi x.Aw w1 (Rd.below ZF.out S.out.H hhi) (Nat.le_trans hhi S.out.H.size) (by have:=N8.out;unfold Ui at this;omega)).mono ?_
 rintro e w2 ⟨ZI,ZJ,rfl,h2,h3⟩
 have S2:=AA (S.out.below h3);replace S:=AA (S.out.put _ h2 h3 7)
 clear h2 h3
 have hf:=S2.out.b.frozen 7;have hc:=S2.out.b.q 7 rfl
 have hd0:=S2.out.b.q 0 rfl
 have hd1:=S2.out.b.q 1 rfl
 have hd2:=S2.out.b.q 2 rfl
 have hd3:=S2.out.b.q 3 rfl
 have hd4:=S2.out.b.q 4 rfl
 have hd5:=S2.out.b.q 5 rfl
 have hd6:=S2.out.b.q 6 rfl
 have hg0:=S2.out.r.frozen 0;have he0:=S2.out.r.q 0 rfl
 have hg1:=S2.out.r.frozen 1;have he1:=S2.out.r.q 1 rfl
 have hg2:=S2.out.r.frozen 2;have he2:=S2.out.r.q 2 rfl
 have hg3:=S2.out.r.frozen 3;have he3:=S2.out.r.q 3 rfl
 have hg4:=S2.out.r.frozen 4;have jv:=S2.out.r.q 4 rfl
 have hg5:=S2.out.r.frozen 5;have he5:=S2.out.r.q 5 rfl
 have hg6:=S2.out.r.frozen 6;have he6:=S2.out.r.q 6 rfl
 have hg7:=S2.out.r.frozen 7;have he7:=S2.out.r.q 7 rfl
 go_wp2_with fail
 have E:Lu 29 w _ [.slice Vg x.types.length Vh,.slice Vi x.hosts.length Vj,.slice Vk x.globs.length Vl,.int .i64 x.first,.int .i64 x.most,.slice jm x.fns.length jo,.slice jq x.dat.length jr,.slice ZI x.Aw.length ZJ] [.slice Vg x.types.length Vh,.slice Vi x.hosts.length Vj,.slice Vk x.globs.length Vl,.int .i64 x.first,.int .i64 x.most,.slice jm x.fns.length jo,.slice jq x.dat.length jr,.slice ZI x.Aw.length ZJ] _:=S.out.fill rfl
 refine bodyPost_ret ?_ rfl ⟨_,rfl,Av.2 ⟨.slice Vg x.types.length Vh,.slice Vi x.hosts.length Vj,.slice Vk x.globs.length Vl,.slice jm x.fns.length jo,.slice jq x.dat.length jr,.slice ZI x.Aw.length ZJ,rfl,qL E.q.1.1.1.1.1.2,qL E.q.1.1.1.1.2,qL E.q.1.1.1.2,qQ.out,yE.out,qL E.q.1.1.2,qL E.q.1.2,qL E.q.2⟩,E.H⟩
 rw [G9 rfl]
 simp only [asAddr,Result.andThen]
 exact run_loadVar_row _ _ 29 29 _ (0,0) _ E.r underlying29 rfl (by kernel_rfl)
structure Ai where
 ends:List Int
 AB:List Int
 BF:List Int
 op:List Nat
 done:Bool
def EF (l:List Nat):Int:=match l with
 | []=> -1
 | p::_=>(p:Int)
def BD (o:UInt8):Bool:=decide (o.toNat=2∨o.toNat=3∨o.toNat=4)
def opAt (code:List Ad) (p:Nat):Nat:=match code[p]? with
 | none=>0
 | some x=>x.op.toNat
def BJ (st:Ai) (p:Nat):Int:=st.AB.getD p (-1)
def Am (st:Ai) (pc:Nat):Ai:= {st with BF:=st.BF.set pc (EF st.op)}
def ER (st:Ai) (p:Nat) (r:List Nat) (pc:Nat):Ai:=
 {st with ends:=if BJ st p<0 then st.ends.set p (pc:Int) else(st.ends.set p (pc:Int)).set (BJ st p).toNat (pc:Int),op:=r}
def Ae (code:List Ad) (st:Ai) (pc:Nat):(Int×Int)⊕Ai:=
 if st.done then .inl (19,pc) else
 match code[pc]? with
 | none=> .inl (38,pc)
 | some x=>
  if BD x.op then(if 32≤st.op.length then .inl (35,pc) else .inr {Am st pc with op:=pc::st.op})
  else if x.op.toNat=5 then
   match st.op with
   | []=> .inl (37,pc)
   | p::_=>if opAt code p=4∧BJ st p<0 then .inr {Am st pc with AB:=st.AB.set p (pc:Int)} else .inl (37,pc)
  else if x.op.toNat=6 then
   match st.op with
   | []=> .inr {Am st pc with done:=true}
   | p::r=> .inr (ER (Am st pc) p r pc)
  else .inr (Am st pc)
def Gf (code:List Ad):Nat→Ai→(Int×Int)⊕Ai
 | 0,st=>if st.done then .inr st else .inl (38,code.length)
 | n+1,st=>match Ae code st (code.length-(n+1))with
  | .inl e=> .inl e
  | .inr st'=>Gf code n st'
def Ck (n:Nat):Ai:=⟨List.replicate n (-1),List.replicate n (-1),List.replicate n (-1),[],false⟩
def ctl (code:List Ad):(Int×Int)⊕Ai:=Gf code code.length (Ck code.length)
structure Lh (n:Nat) (pc:Nat) (st:Ai):Prop where
 ends:st.ends.length=n
 AB:st.AB.length=n
 BF:st.BF.length=n
 le:pc≤n
 few:st.op.length≤32
 low: ∀p∈st.op,p<pc
 bE: ∀v∈st.ends,-1≤v∧v<pc
 bL: ∀v∈st.AB,-1≤v∧v<pc
 bO: ∀v∈st.BF,-1≤v∧v<pc
theorem JW (n:Nat):Lh n 0 (Ck n):=by
 have h: ∀v∈List.replicate n (-1:Int),-1≤v∧v<((0:Nat):Int):=fun v hv=>by
  rw [List.eq_of_mem_replicate hv];decide
 exact⟨by simp [Ck],by simp [Ck],by simp [Ck],Nat.zero_le _,by simp [Ck],fun p hp=>by simp [Ck] at hp,h,h,h⟩
theorem G7 {l:List Int} {k:Nat} {x:Int} {a b b':Int} (h: ∀v∈l,a≤v∧v<b) (hb:b≤b') (h1:a≤x) (h2:x<b'): ∀v∈l.set k x,a≤v∧v<b':=by
 intro v hv
 rcases List.mem_or_eq_of_mem_set hv with h3 | rfl
 ·have:=h v h3;omega
 ·exact⟨h1,h2⟩
theorem XC {l:List Nat} {pc:Nat} (h: ∀p∈l,p<pc): -1≤EF l∧EF l<(pc+1:Nat):=by
 cases l with
 | nil=>simp [EF];omega
 | cons p r=>have:=h p (List.mem_cons_self ..);simp [EF];omega
theorem Kc {code:List Ad} {st st':Ai} {pc:Nat} (h:Lh code.length pc st) (hs:Ae code st pc= .inr st'):Lh code.length (pc+1) st':=by
 unfold Ae at hs
 split at hs
 ·cases hs
 split at hs
 ·cases hs
 ·rename_i x hx
  have hlt:=(List.getElem?_eq_some_iff.1 hx).1
  have ho:=G7 h.bO (k:=pc) (x:=EF st.op) (b':=((pc+1:Nat):Int)) (by omega) (XC h.low).1 (XC h.low).2
  have hE: ∀v∈st.ends,-1≤v∧v<((pc+1:Nat):Int):=fun v hv=>by have:=h.bE v hv;omega
  have hL: ∀v∈st.AB,-1≤v∧v<((pc+1:Nat):Int):=fun v hv=>by have:=h.bL v hv;omega
  have hp: ∀p∈st.op,p<pc+1:=fun p hp=>by have:=h.low p hp;omega
  have hol:(st.BF.set pc (EF st.op)).length=code.length:=by rw [List.length_set];exact h.BF
  split at hs
  ·split at hs
   ·cases hs
   ·injection hs with hs;subst hs
    exact⟨h.ends,h.AB,hol,hlt,by simp;omega,fun p hp'=>by
     rcases List.mem_cons.1 hp' with rfl | h1
     ·omega
     ·exact hp p h1,hE,hL,ho⟩
  ·split at hs
   ·split at hs
    ·cases hs
    ·rename_i p r hop
     split at hs
     ·injection hs with hs;subst hs
      exact⟨h.ends,by simp [h.AB],hol,hlt,h.few,hp,hE,G7 h.bL (by omega) (by omega) (by omega),ho⟩
     ·cases hs
   ·split at hs
    ·split at hs
     ·injection hs with hs;subst hs
      exact⟨h.ends,h.AB,hol,hlt,h.few,hp,hE,hL,ho⟩
     ·rename_i p r hop
      injection hs with hs;subst hs
      have hE1:=G7 h.bE (k:=p) (x:=(pc:Int)) (b':=((pc+1:Nat):Int)) (by omega) (by omega) (by omega)
      refine⟨?_,h.AB,hol,hlt,?_,fun q hq=>hp q ?_,?_,hL,ho⟩
      ·simp only [ER];split<;>simp [Am,h.ends]
      ·have:=h.few;rw [hop] at this;simp [ER] at this⊢;omega
      ·rw [hop];exact List.mem_cons_of_mem _ hq
      ·simp only [ER]
       split
       ·exact hE1
       ·exact G7 hE1 (by omega) (by omega) (by omega)
    ·injection hs with hs;subst hs
     exact⟨h.ends,h.AB,hol,hlt,h.few,hp,hE,hL,ho⟩
theorem I6 {code:List Ad} {st st':Ai} {pc:Nat} (hpc:pc<code.length) (hs:Ae code st pc= .inr st'):Gf code (code.length-pc) st=Gf code (code.length-(pc+1)) st':=by
 rw [show code.length-pc=(code.length-(pc+1))+1 from by omega]
 show(match Ae code st (code.length-(code.length-(pc+1)+1))with | .inl e=>_ | .inr st'=>_)=_
 rw [show code.length-(code.length-(pc+1)+1)=pc from by omega,hs]
theorem Ke {code:List Ad} {st:Ai} {e:Int×Int} {pc:Nat} (hpc:pc<code.length) (hs:Ae code st pc= .inl e):Gf code (code.length-pc) st= .inl e:=by
 rw [show code.length-pc=(code.length-(pc+1))+1 from by omega]
 show(match Ae code st (code.length-(code.length-(pc+1)+1))with | .inl e=>_ | .inr st'=>_)=_
 rw [show code.length-(code.length-(pc+1)+1)=pc from by omega,hs]
theorem PO {code:List Ad} {st:Ai} {pc:Nat} (hpc:pc=code.length):Gf code (code.length-pc) st=if st.done then .inr st else .inl (38,(code.length:Int)):=by
 rw [hpc,Nat.sub_self];rfl
def Chain (BF:List Int):List Nat→Prop
 | []=>True
 | p::r=>BF[p]?=some (EF r)∧Chain BF r
theorem Chain.keep {o o':List Int}: ∀ {l:List Nat},Chain o l→(∀p∈l,o'[p]?=o[p]?)→Chain o' l
 | [],_,_=>trivial
 | p::r,h,hk=>⟨(hk p (List.mem_cons_self ..)).trans h.1,Chain.keep h.2 fun q hq=>hk q (List.mem_cons_of_mem _ hq)⟩
theorem JB {code:List Ad} {st st':Ai} {pc:Nat} (hs:Ae code st pc= .inr st'):st'.BF=st.BF.set pc (EF st.op):=by
 unfold Ae at hs
 split at hs
 ·cases hs
 split at hs
 ·cases hs
 split at hs
 ·split at hs
  ·cases hs
  ·injection hs with hs;subst hs;rfl
 split at hs
 ·split at hs
  ·cases hs
  split at hs
  ·injection hs with hs;subst hs;rfl
  ·cases hs
 split at hs
 ·split at hs
  ·injection hs with hs;subst hs;rfl
  ·injection hs with hs;subst hs;rfl
 ·injection hs with hs;subst hs;rfl
theorem Km {code:List Ad}: ∀(n:Nat) {st c:Ai},n≤code.length→Gf code n st= .inr c→ ∀j,j<code.length-n→c.BF[j]?=st.BF[j]?
 | 0,st,c,_,h,j,_=>by
  unfold Gf at h
  split at h
  ·injection h with h;rw [h]
  ·cases h
 | n+1,st,c,hn,h,j,hj=>by
  unfold Gf at h
  cases hs:Ae code st (code.length-(n+1))with
  | inl e=>rw [hs] at h;cases h
  | inr st'=>
   rw [hs] at h
   rw [Km n (by omega) h j (by omega),JB hs,List.getElem?_set_ne (by omega)]
theorem Nb {code:List Ad} {st st':Ai} {pc:Nat} {x:Ad} (hx:code[pc]?=some x) (hs:Ae code st pc= .inr st'):
 st.done=false∧((BD x.op=true∧st'.op=pc::st.op∧st'.done=false)∨
 (BD x.op=false∧x.op.toNat=6∧st.op= []∧st'.op= []∧st'.done=true)∨
 (BD x.op=false∧x.op.toNat=6∧(∃p,st.op=p::st'.op)∧st'.done=false)∨
 (BD x.op=false∧x.op.toNat=5∧st'.op=st.op∧st'.done=false∧ ∃p r,st.op=p::r∧opAt code p=4)∨
 (BD x.op=false∧x.op.toNat≠5∧x.op.toNat≠6∧st'.op=st.op∧st'.done=false)):=by
 unfold Ae at hs
 split at hs
 ·cases hs
 rename_i hd
 have hd:st.done=false:=by simpa using hd
 rw [hx] at hs
 dsimp only at hs
 refine⟨hd,?_⟩
 split at hs
 ·rename_i ho
  split at hs
  ·cases hs
  ·injection hs with hs;subst hs;exact .inl ⟨ho,rfl,hd⟩
 rename_i ho
 have ho:BD x.op=false:=by simpa using ho
 split at hs
 ·rename_i h5
  split at hs
  ·cases hs
  ·rename_i p r hop
   split at hs
   ·rename_i h4
    injection hs with hs;subst hs
    exact .inr (.inr (.inr (.inl ⟨ho,h5,rfl,hd,p,r,hop,h4.1⟩)))
   ·cases hs
 rename_i h5
 split at hs
 ·rename_i h6
  split at hs
  ·rename_i hop
   injection hs with hs;subst hs
   exact .inr (.inl ⟨ho,h6,hop,hop,rfl⟩)
  ·rename_i p r hop
   injection hs with hs;subst hs
   exact .inr (.inr (.inl ⟨ho,h6,⟨p,hop⟩,hd⟩))
 ·rename_i h6
  injection hs with hs;subst hs
  exact .inr (.inr (.inr (.inr ⟨ho,h5,h6,rfl,hd⟩)))
theorem Y5 {code:List Ad} {st st':Ai} {pc:Nat} {x:Ad} (h:Lh code.length pc st) (hx:code[pc]?=some x) (hs:Ae code st pc= .inr st') (hc:Chain st.BF st.op):Chain st'.BF st'.op:=by
 have hlt:=(List.getElem?_eq_some_iff.1 hx).1
 have hw:=JB hs
 have hk:Chain st'.BF st.op:=hc.keep fun p hp=>by
  have:=h.low p hp
  rw [hw,List.getElem?_set_ne (by omega)]
 have hat:st'.BF[pc]?=some (EF st.op):=by rw [hw,List.getElem?_set_self (by rw [h.BF];exact hlt)]
 rcases(Nb hx hs).2 with⟨_,e,_⟩ | ⟨_,_,_,e,_⟩ | ⟨_,_,⟨p,e⟩,_⟩ | ⟨_,_,e,_⟩ | ⟨_,_,_,e,_⟩
 ·rw [e];exact⟨hat,hk⟩
 ·rw [e];trivial
 ·rw [e] at hk;exact hk.2
 ·rw [e];exact hk
 ·rw [e];exact hk
def iv (n:Int):Value:= .int .i64 n
theorem JG:(prog.info? 3).map (fun i=>(i.zero,i.size,i.bytes))=some (some (.int .i64 0),1,8):=by kernel_rfl
theorem kP (n k:Nat) (h:k<n):(List.replicate k (-1:Int)++List.replicate (n-k) 0).set k (-1)=List.replicate (k+1) (-1:Int)++List.replicate (n-(k+1)) 0:=by
 rw [List.set_append,List.length_replicate,if_neg (Nat.lt_irrefl _),Nat.sub_self,show n-k=(n-(k+1))+1 from by omega,List.replicate_succ,List.set_cons_zero,List.replicate_succ',List.append_assoc]
 rfl
theorem Np (n:Nat) (hn:n≤2147483647) (w:World):
 Calls prog 131 #[.int .i64 n] w fun e w'=>Below w.heap.size w w'∧e= .returned (.slice (some ⟨w.heap.size,0,none⟩) n n)∧AQ w' w.heap.size 3 ((List.replicate n (-1:Int)).map iv):=by
 obtain⟨i0,hi,hz,hs',hb⟩:=info_parts JG
 have hmk:=fun W=>Er (P:=prog) 23 3 i0 (.int .i64 0) 8 underlying23 hi hz rfl hs' hb (n:Int) n rfl (by omega) (by omega) W
 clear hi hz hs' hb
 go_enter func131,ntmps131
 go_wp2_with fail
 generalize hw1:w.alloc _=w1
 have hB1:Hid (Below w.heap.size w w1):=AA (by rw [←hw1];exact(Below.refl _ _).alloc (Nat.le_refl _) _)
 have hb1:Hid (AQ w1 w.heap.size 3 ((List.replicate n (0:Int)).map iv)):=AA (by
  rw [←hw1,List.map_replicate]
  have h:=AQ.new w 3 (List.replicate n (iv 0))
  exact h)
 clear hw1 hmk
 go_loopw [9] (fun i wr=> ∃k:Nat,k≤n∧i= .int .i64 k∧Below w.heap.size w wr∧AQ wr w.heap.size 3 ((List.replicate k (-1:Int)++List.replicate (n-k) 0).map iv))
  (fun i _=>n-(intOf i).toNat)
 case atStart=>exact⟨0,Nat.zero_le _,rfl,hB1.out,by simpa using hb1.out⟩
 case round=>
  obtain⟨k,hk,rfl,hbr,hrr⟩:=hrel
  have HB:=AA hbr;have HR:=AA hrr
  have hfz:=hrr.frozen k
  have hk0:(0:Int)≤k:=by omega
  clear hbr hrr
  by_cases hlt:k<n
  ·have hcell: ∃u,wr.cell? ⟨w.heap.size,k,none⟩=some u:=by
    obtain⟨u,hu⟩: ∃u,((List.replicate k (-1:Int)++List.replicate (n-k) 0).map iv)[k]?=some u:=⟨_,List.getElem?_eq_getElem (by simp;omega)⟩
    exact⟨u,by rw [HR.out.cell k];exact hu⟩
   obtain⟨u,hcell⟩:=hcell
   go_wp2_with fail
   refine⟨⟨k+1,by omega,by go_num,HB.out.setCell (Nat.le_refl _) _,?_⟩,by simp [intOf];omega⟩
   have:=HR.out.set k (iv (-1))
   rw [←List.map_set,kP n k hlt] at this
   exact this
  ·obtain rfl:k=n:=by omega
   go_wp2_with fail
   go_ret
   refine⟨HB.out,rfl,?_⟩
   have:=HR.out
   simpa using this
theorem Zx {α:Type} {r:Rd α} {sp:Bool} {W:World} {lo hi:Nat} {A:Option Addr} {n c:Nat} {xs:List α} (h:(r.sl sp).R W lo hi [.slice A n c] xs):n≤c:=by
 obtain⟨A',c',he,hs,_⟩:=h
 injection he with he _
 injection he with h1 h2 h3
 have:=hs.2
 omega
theorem bW {α:Type} {r:Rd α} {W:World} {lo hi:Nat} {A:Option Addr} {n c:Nat} {xs:List α} (h:(r.sl false).R W lo hi [.slice A n c] xs) {k:Nat} (hk:k≤n):(r.sl false).R W lo hi [.slice A k c] (xs.take k):=by
 have hc:=Zx h
 have hn:=Dp h
 obtain⟨A',c',he,hs,hx⟩:=h
 injection he with he _
 injection he with h1 h2 h3
 subst h1 h2 h3
 have hl:(xs.take k).length=k:=by rw [List.length_take];omega
 refine⟨A,c,by rw [hl],⟨fun h=>(by cases h),by rw [hl];omega⟩,fun h0=> ?_⟩
 obtain⟨b,o,e,b1,b2,hx⟩:=hx (by omega)
 refine⟨b,o,e,b1,b2,fun j x hj=>hx j x ?_⟩
 rw [List.getElem?_take] at hj
 split at hj
 ·exact hj
 ·cases hj
def AB1 (x:Js):Prop:=x.loc.length≤140737488351232∧x.st.length≤140737488351232
structure Vd (x:FU):Prop where
 aj:x.frames.length≤140737488351232
 frames: ∀i∈x.frames,AB1 i
 globs:x.globs.length≤140737488351232
 xu:x.pages.length≤140737488351232
 pages: ∀i∈x.pages,i.length≤140737488351232
 res:x.res.length≤140737488351232
theorem Xd (n:Int) (w:World):Calls prog 15 #[.int .i64 n] w fun e w'=>w=w'∧e= .returned (.bool (decide (n>2147483647))):=by
 go_enter func15,ntmps15
 go_wp2
 go_ret
 simp
theorem E8 {α:Type} {P:Program} {t:TypeId} {r:Rd α} {ok ok':α→Prop} (h:Opens P t r ok) (hm: ∀x,ok x→ok' x):Opens P t r ok':=
 ⟨h.1,fun hx hw=>by obtain⟨y,hy,hk⟩:=h.2 hx hw;exact⟨y,hy,hm y hk⟩⟩
theorem Wq:Opens prog 9 Rd.str Rd.PD:=dO underlying9 (by kernel_rfl)
theorem QG:Opens prog 3 Rd.i64 Rd.Gd:=UK underlying3 (by kernel_rfl)
theorem oC:Opens prog 2 Rd.i64 Rd.Gd:=UK underlying2 (by kernel_rfl)
theorem oD:Opens prog 5 Rd.u8 (fun _=>True):=jD underlying5 (by kernel_rfl)
theorem AAr:Opens prog 87 Rd.u64 Rd.Yv:=dN underlying87 (by kernel_rfl)
theorem vE:Opens prog 4 Rd.bool (fun _=>True):=Yw underlying4 (by kernel_rfl)
def Bd {α:Type} (ok:α→Prop) (l:List α):Prop:=l.length≤140737488351232∧ ∀x∈l,ok x
theorem Qj {α:Type} {P:Program} {t e:TypeId} {r:Rd α} {ok:α→Prop} (ht:P.underlying t=some (.slice e)) (hc:P.cellsOf t=1) (he:Opens P e r ok) {aQ:Nat} (hby:P.bytesOf e=aQ) (h1:0<aQ) (hz:0<P.cellsOf e):Opens P t (r.sl false) (Bd ok):=
 E8 (jE ht hc he hby hz) fun x hx=>⟨Nat.le_trans (by have:=Nat.mul_le_mul_left x.length h1;omega) hx.1,hx.2⟩
theorem dK:Opens prog 23 (Rd.i64.sl false) (Bd Rd.Gd):=Qj underlying23 (by kernel_rfl) QG (aQ:=8) (by kernel_rfl) (by decide) (of_decide_eq_true (by kernel_rfl))
theorem Yh:Opens prog 40 (Rd.u8.sl false) (Bd fun _=>True):=Qj underlying40 (by kernel_rfl) oD (aQ:=1) (by kernel_rfl) (by decide) (of_decide_eq_true (by kernel_rfl))
theorem AAs:Opens prog 93 Qk (fun _=>True):=
 E8 (Gl (EO underlying93 (by kernel_rfl) (BA (by rfl) Wq (BA (by rfl) Wq Fj))) (fun x:CW=>(x.p,x.r,())) (fun a=>⟨a.1,a.2.1⟩) (fun _=>rfl)) fun _ _=>trivial
theorem vG:Opens prog 139 LZ (fun _=>True):=
 E8 (Gl (EO underlying139 (by kernel_rfl) (BA (by rfl) oD (BA (by rfl) vE (BA (by rfl) AAr Fj)))) (fun x:Ei=>(x.l,x.m,x.v,())) (fun a=>⟨a.1,a.2.1,a.2.2.1⟩) (fun _=>rfl)) fun _ _=>trivial
theorem AAt:Opens prog 122 Ga UW:=
 E8 (Gl (EO underlying122 (by kernel_rfl) (BA (by rfl) oD (BA (by rfl) oC (BA (by rfl) dK Fj)))) (fun x:Ad=>(x.op,x.a,x.l,())) (fun a=>⟨a.1,a.2.1,a.2.2.1⟩) (fun _=>rfl)) fun x h=>h.2.2.1.1
theorem vH:Opens prog 94 (Ga.sl false) (Bd UW):=Qj underlying94 (by kernel_rfl) AAt (aQ:=40) (by kernel_rfl) (by decide) (of_decide_eq_true (by kernel_rfl))
theorem AFq:Opens prog 96 XA xq:=
 E8 (Gl (EO underlying96 (by kernel_rfl) (BA (by rfl) QG (BA (by rfl) Wq (BA (by rfl) vH Fj)))) (fun x:Bt=>(x.t,x.loc,x.code,())) (fun a=>⟨a.1,a.2.1,a.2.2.1⟩) (fun _=>rfl)) fun x h=>⟨h.2.1,h.2.2.1.1,h.2.2.1.2⟩
theorem AAu:Opens prog 99 M0 (fun x=>x.b.length≤140737488351232):=
 E8 (Gl (EO underlying99 (by kernel_rfl) (BA (by rfl) QG (BA (by rfl) Yh Fj))) (fun x:Gn=>(x.at_,x.b,())) (fun a=>⟨a.1,a.2.1⟩) (fun _=>rfl)) fun x h=>h.2.1.1
theorem AAv:Opens prog 101 TU (fun _=>True):=
 E8 (Gl (EO underlying101 (by kernel_rfl) (BA (by rfl) Wq (BA (by rfl) QG Fj))) (fun x:LC=>(x.n,x.f,())) (fun a=>⟨a.1,a.2.1⟩) (fun _=>rfl)) fun _ _=>trivial
theorem vI:Opens prog 22 (Qk.sl false) (Bd fun _=>True):=Qj underlying22 (by kernel_rfl) AAs (aQ:=32) (by kernel_rfl) (by decide) (of_decide_eq_true (by kernel_rfl))
theorem oG:Opens prog 24 (LZ.sl false) (Bd fun _=>True):=Qj underlying24 (by kernel_rfl) vG (aQ:=16) (by kernel_rfl) (by decide) (of_decide_eq_true (by kernel_rfl))
theorem AAw:Opens prog 25 (XA.sl false) (Bd xq):=Qj underlying25 (by kernel_rfl) AFq (aQ:=48) (by kernel_rfl) (by decide) (of_decide_eq_true (by kernel_rfl))
theorem vJ:Opens prog 26 (M0.sl false) (Bd fun x=>x.b.length≤140737488351232):=Qj underlying26 (by kernel_rfl) AAu (aQ:=32) (by kernel_rfl) (by decide) (of_decide_eq_true (by kernel_rfl))
theorem vK:Opens prog 27 (TU.sl false) (Bd fun _=>True):=Qj underlying27 (by kernel_rfl) AAv (aQ:=24) (by kernel_rfl) (by decide) (of_decide_eq_true (by kernel_rfl))
theorem Ws:Opens prog 29 Db je:=
 E8 (Gl (EO underlying29 (by kernel_rfl) (BA (by rfl) vI (BA (by rfl) dK (BA (by rfl) oG (BA (by rfl) QG (BA (by rfl) QG (BA (by rfl) AAw (BA (by rfl) vJ (BA (by rfl) vK Fj))))))))) (fun x:AP=>(x.types,x.hosts,x.globs,x.first,x.most,x.fns,x.dat,x.Aw,())) (fun a=>⟨a.1,a.2.1,a.2.2.1,a.2.2.2.1,a.2.2.2.2.1,a.2.2.2.2.2.1,a.2.2.2.2.2.2.1,a.2.2.2.2.2.2.2.1⟩) (fun _=>rfl)) fun x ⟨h1,h2,h3,_,_,h6,h7,h8,_⟩=>⟨h1.1,h2.1,h3.1,h6.1,h6.2,h7.1,h7.2,h8.1⟩
end Go.Proofs.YtlagonfamllgjaaGreatDoor
