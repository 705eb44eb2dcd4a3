/- Part 31 of the proof: R10G R10H R10I -/
import Derived.Test.YtlagonfamllgjaaGreatDoorR30
namespace Go.Proofs.YtlagonfamllgjaaGreatDoor
set_option linter.unusedVariables false
set_option linter.unusedSimpArgs false
set_option maxRecDepth 100000
set_option maxHeartbeats 4000000
open Go.RowKit Tryz
def bJ (o:Option CW):Value:=match o with
 | none=> .tuple #[.agg #[.string Di,.string Di],.bool false]
 | some s=> .tuple #[.agg #[.string s.p,.string s.r],.bool true]
theorem Mj {W:World} {lo hi:Nat} {A:Option Addr} {n c:Nat} {xs:List Int} (h:(Rd.i64.sl false).R W lo hi [.slice A n c] xs) {k:Nat} {t:Int} (hk:xs[k]?=some t): ∃b o,A=some ⟨b,o,none⟩∧b<hi∧W.cell? ⟨b,o+k,none⟩=some (.int .i64 t):=by
 obtain⟨b,o,e,_,hb,cs,hc,hr⟩:=Dj h hk
 obtain⟨rfl,_⟩:=hr
 exact⟨b,o,e,hb,by have:=hc 0 _ rfl;simpa [Rd.i64,Rd.one] using this⟩
section
variable {h1 g:Nat} {y:Fy} {m:AP} {f:Bt} {c:Ai} {vF vS:Value} {fl:List Int} {sh:List ByteArray}
theorem fq (x:Ad) (v:Value) (w:World) (h:D7 w h1 g y m f c vF vS fl sh) (hop:x.op.toNat=11∨x.op.toNat=12∨x.op.toNat=2∨x.op.toNat=3∨x.op.toNat=4) (hn: -9223372036854775808≤x.a∧x.a<9223372036854775808):
 Calls prog 146 #[.pointer (some ⟨g,0,none⟩),.agg #[.int .u8 (x.op.toNat:Int),.int .i64 x.a,v]] w fun e w'=>e= .returned (bJ (Cn m x))∧Below w.heap.size w w':=by
 have H:=AA h
 obtain⟨tk,hHT,kind⟩: ∃tk:Int,(∀w,Calls prog 179 #[.int .u8 (x.op.toNat:Int)] w fun e w'=>Below w.heap.size w w'∧e= .returned (.int .i8 tk))∧(tk=4∧x.op.toNat=11∨tk=5∧x.op.toNat=12∨tk=1∧x.op.toNat≠11∧x.op.toNat≠12):=by
  rcases hop with e | e | e | e | e
  ·exact⟨4,fun w=>II e (by decide) (by kernel_rfl) w,.inl ⟨rfl,e⟩⟩
  ·exact⟨5,fun w=>II e (by decide) (by kernel_rfl) w,.inr (.inl ⟨rfl,e⟩)⟩
  all_goals exact⟨1,fun w=>II e (by decide) (by kernel_rfl) w,.inr (.inr ⟨rfl,by omega,by omega⟩)⟩
 have HT:=AA hHT
 have KIND:=AA kind
 have hg0:g<w.heap.size:=Nat.lt_of_lt_of_le h.gh h.hh
 have zC:=AA h.md.ok
 have HN:=AA hn
 obtain⟨v1,v2,v3,v4,v5,v6,e,h0,h1',_,_,_,h5,_⟩:=Av.1 h.md.rd
 injection e with e0 e;injection e with e1 e;injection e with e2 e;injection e with e3 e;injection e with e4 e;injection e with e5 e
 obtain⟨A0,c0,rfl⟩:=AJ h0
 obtain⟨A1,c1,rfl⟩:=AJ h1'
 obtain⟨A5,c5,rfl⟩:=AJ h5
 have H0:=AA h0;have H1:=AA h1';have H5:=AA h5
 have Q0:=AA ((h.blk.cell 0).trans (by rw [←e0];rfl):w.cell? ⟨g,0,none⟩=some (.slice A0 m.types.length c0))
 have Q1:=AA ((h.blk.cell 1).trans (by rw [←e1];rfl):w.cell? ⟨g,1,none⟩=some (.slice A1 m.hosts.length c1))
 have Q5:=AA ((h.blk.cell 5).trans (by rw [←e5];rfl):w.cell? ⟨g,5,none⟩=some (.slice A5 m.fns.length c5))
 clear h h0 h1' h5 e0 e1 e2 e3 e4 e5 e hop kind hHT hn
 go_enter func146,ntmps146
 go_upto_region 1 with fail
 generalize hwb:w.alloc (.cells #[.int .u8 (x.op.toNat:Int),.int .i64 x.a,v] 122)=wb
 have HBb:Hid (Below w.heap.size w wb):=AA (by rw [←hwb];exact(Below.refl _ _).alloc (Nat.le_refl _) _)
 have HXb:Hid (AQ wb w.heap.size 122 [.int .u8 (x.op.toNat:Int),.int .i64 x.a,v]):=AA (by rw [←hwb];exact AQ.new w 122 _)
 have hzb:wb.heap.size=w.heap.size+1:=by rw [←hwb];simp
 clear hwb
 generalize hw1:wb.alloc (.cells #[.string ⟨#[]⟩,.string ⟨#[]⟩] 93)=w1
 have HB1:Hid (Below w.heap.size w w1):=AA (by rw [←hw1];exact HBb.out.alloc HBb.out.size _)
 have CS:Hid (AQ w1 w.heap.size 122 [.int .u8 (x.op.toNat:Int),.int .i64 x.a,v]):=AA (by rw [←hw1];exact HXb.out.alloc _)
 have Nr:Hid (AQ w1 (w.heap.size+1) 93 [.string ⟨#[]⟩,.string ⟨#[]⟩]):=AA (by rw [←hw1,←hzb];exact AQ.new wb 93 _)
 have c0':=CS.out.q 0 rfl
 clear hw1
 try rw [hzb]
 clear hzb HBb HXb
 go_wp2_with fail
 refine(HT.out w1).mono ?_
 rintro e w2 ⟨hb2,rfl⟩
 have HB2:Hid (Below w.heap.size w w2):=AA (HB1.out.trans (hb2.mono HB1.out.size))
 have Bq:=AA (CS.out.below hb2 CS.out.lt)
 have HS2:=AA (Nr.out.below hb2 Nr.out.lt)
 clear hb2 c0'
 have c1':=Bq.out.q 1 rfl
 have W:=fun(L:Nat) (hL:L≤128) (w:World)=>JI x.a L w HN.out (by omega)
 have T:=fun(t:Nat) (ty:CW) (hty:m.types[t]?=some ty)=>DN H0.out hty
 have E2: ∀b i v,b≤g→w.cell? ⟨b,i,none⟩=some v→w2.cell? ⟨b,i,none⟩=some v:=fun b i v hb h=>(HB2.out.cell (Nat.lt_of_le_of_lt hb hg0) (p:=⟨b,i,none⟩)).trans h
 have KD: ∃L,Cn m x=(if Eo x.a L then Cn m x else none)∧L≤128∧(tk=4∧L=m.fns.length∨tk=5∧L=m.hosts.length∨tk=1∧L=m.types.length)∧(∀k:Nat,x.a=k→k<L→ ∃(t:Nat) (ty:CW),m.types[t]?=some ty∧Cn m x=some ty∧
  (tk=4∧L=m.fns.length∧(∃b o,A5=some ⟨b,o,none⟩∧w2.cell? ⟨b,o+k*3,none⟩=some (.int .i64 t))∨tk=5∧L=m.hosts.length∧(∃b o,A1=some ⟨b,o,none⟩∧w2.cell? ⟨b,o+k,none⟩=some (.int .i64 t))∨tk=1∧L=m.types.length∧k=t)):=by
  rcases KIND.out with⟨rfl,hop⟩ | ⟨rfl,hop⟩ | ⟨rfl,hop,hop'⟩
  ·have hT:Cn m x=if Eo x.a m.fns.length then some (CG m (Qy m x.a).t) else none:=by unfold Cn;rw [if_pos hop]
   refine⟨_,?_,by have:=zC.out.nf;omega,.inl ⟨rfl,rfl⟩,fun k hk hkl=> ?_⟩
   ·rw [hT];split<;>rfl
   have hi:Eo x.a m.fns.length=true:=by unfold Eo;exact decide_eq_true (by omega)
   obtain⟨fn,hfn⟩: ∃fn,m.fns[k]?=some fn:=⟨_,List.getElem?_eq_getElem hkl⟩
   obtain⟨b,o,Jm,KP,fU,_,hb,hf0,_,_,_,_,_⟩:=FN H5.out hfn
   have hfo:=zC.out.fns fn (List.mem_of_getElem? hfn)
   obtain⟨t,ht⟩: ∃t:Nat,fn.t=(t:Int):=⟨fn.t.toNat,by have:=hfo.t0;omega⟩
   obtain⟨ty,hty⟩: ∃ty,m.types[t]?=some ty:=⟨_,List.getElem?_eq_getElem (by have:=hfo.t1;omega)⟩
   refine⟨t,ty,hty,?_,.inl ⟨rfl,rfl,b,o,fU,?_⟩⟩
   ·rw [hT,if_pos hi,hk,Nf hfn,ht,FI hty]
   ·rw [←ht];exact E2 _ _ _ (Nat.le_of_lt hb) hf0
  ·have hT:Cn m x=if Eo x.a m.hosts.length then some (CG m (m.hosts[x.a.toNat]?.getD 0)) else none:=by unfold Cn;rw [if_neg (by omega),if_pos hop]
   refine⟨_,?_,by have:=zC.out.nh;omega,.inr (.inl ⟨rfl,rfl⟩),fun k hk hkl=> ?_⟩
   ·rw [hT];split<;>rfl
   have hi:Eo x.a m.hosts.length=true:=by unfold Eo;exact decide_eq_true (by omega)
   obtain⟨t',hht⟩: ∃t',m.hosts[k]?=some t':=⟨_,List.getElem?_eq_getElem hkl⟩
   obtain⟨b,o,eA1,hb,hf0⟩:=Mj H1.out hht
   have hfo:=zC.out.host t' (List.mem_of_getElem? hht)
   obtain⟨t,ht⟩: ∃t:Nat,t'=(t:Int):=⟨t'.toNat,by omega⟩
   obtain⟨ty,hty⟩: ∃ty,m.types[t]?=some ty:=⟨_,List.getElem?_eq_getElem (by omega)⟩
   refine⟨t,ty,hty,?_,.inr (.inl ⟨rfl,rfl,b,o,eA1,?_⟩)⟩
   ·rw [hT,if_pos hi,hk,Int.toNat_natCast,hht,Option.getD_some,ht,FI hty]
   ·rw [←ht];exact E2 _ _ _ (Nat.le_of_lt hb) hf0
  ·have hT:Cn m x=if Eo x.a m.types.length then some (CG m x.a) else none:=by unfold Cn;rw [if_neg (by omega),if_neg (by omega)]
   refine⟨_,?_,by have:=zC.out.nt;omega,.inr (.inr ⟨rfl,rfl⟩),fun k hk hkl=> ?_⟩
   ·rw [hT];split<;>rfl
   have hi:Eo x.a m.types.length=true:=by unfold Eo;exact decide_eq_true (by omega)
   obtain⟨ty,hty⟩: ∃ty,m.types[k]?=some ty:=⟨_,List.getElem?_eq_getElem hkl⟩
   refine⟨k,ty,hty,?_,.inr (.inr ⟨rfl,rfl,rfl⟩)⟩
   rw [hT,if_pos hi,hk,FI hty]
 obtain⟨L,hL,J_,kL,kd⟩:=KD
 have KL:=AA kL
 have q0:w2.cell? ⟨g,0,none⟩=some (.slice A0 m.types.length c0):=E2 _ _ _ (Nat.le_refl _) Q0.out
 have q1:w2.cell? ⟨g,1,none⟩=some (.slice A1 m.hosts.length c1):=E2 _ _ _ (Nat.le_refl _) Q1.out
 have q5:w2.cell? ⟨g,5,none⟩=some (.slice A5 m.fns.length c5):=E2 _ _ _ (Nat.le_refl _) Q5.out
 by_cases hi:Eo x.a L=true
 ·obtain⟨k,hk,hkl⟩:=Fw hi
  obtain⟨t,ty,hty,Zd,ex⟩:=kd k hk hkl
  have htl:=(List.getElem?_eq_some_iff.1 hty).1
  obtain⟨bt,ot,X3,_,hbt,ht0,ht1,_,_⟩:=T t ty hty
  subst X3
  have HL2:=AA Zd
  have hI: ∀w,Calls prog 180 #[.int .i64 x.a,.int .i64 (L:Int)] w fun e w'=>w=w'∧e= .returned (.bool true):=fun w=>by
   have:=W L J_ w
   rw [hi] at this;exact this
  rw [hk] at c1' hI
  have hk0:(0:Int)≤k:=by omega
  have hk1:(k:Int)<L:=by omega
  have ht0':(0:Int)≤t:=by omega
  have ht1':(t:Int)<m.types.length:=by omega
  have d0:w2.cell? ⟨bt,ot+t*2,none⟩=some (.string ty.p):=E2 _ _ _ (Nat.le_of_lt hbt) ht0
  have d1:w2.cell? ⟨bt,ot+t*2+1,none⟩=some (.string ty.r):=E2 _ _ _ (Nat.le_of_lt hbt) ht1
  have HI:=AA hI
  clear hi hk hty Zd ht0 ht1 hkl kd W T hL E2 hI kL
  rcases ex with⟨rfl,rfl,b,o,rfl,d2⟩ | ⟨rfl,rfl,b,o,rfl,d2⟩ | ⟨rfl,rfl,rfl⟩
  all_goals
   clear KL
   go_wp2_with fail
   go_quiet ((go_at_call 180;first | exact Bp (HI.out _) | exact Bj (HI.out _)))
   go_wp2_with fail
   generalize hw3:w2.drewN _=w3
   have HB3:Hid (Below w.heap.size w w3):=AA (by rw [←hw3];exact below_drewN HB2.out _)
   have Iy:Hid (AQ w3 (w.heap.size+1) 93 [.string ⟨#[]⟩,.string ⟨#[]⟩]):=AA (by rw [←hw3];exact HS2.out.drewN _)
   have E: ∀a,w3.cell? a=w2.cell? a:=fun a=>by rw [←hw3];rfl
   replace c1':=(E _).trans c1'
   replace q0:=(E _).trans q0
   replace q1:=(E _).trans q1
   replace q5:=(E _).trans q5
   replace d0:=(E _).trans d0
   replace d1:=(E _).trans d1
   try replace d2:=(E _).trans d2
   clear hw3 E
   first
   | (have _t:w.cell? ⟨g,5,none⟩=some (.slice (some ⟨b,o,none⟩) m.fns.length c5):=Q5.out
      go_still_tail 17,(by kernel_rfl))
   | (have _t:w.cell? ⟨g,1,none⟩=some (.slice (some ⟨b,o,none⟩) m.hosts.length c1):=Q1.out
      go_still_tail 16,(by kernel_rfl))
   | (go_still_tail 9,(by kernel_rfl))
   repeat still_step
   try refine wpStill_nil ?_
   change wpList _ _ _ _ _ w3.drew
   have Ct:Hid (Below w.heap.size w w3.drew):=AA (below_drewN HB3.out 1)
   have Qp:Hid (AQ w3.drew (w.heap.size+1) 93 [.string ⟨#[]⟩,.string ⟨#[]⟩]):=AA Iy.out
   have s0:=Qp.out.q 0 rfl
   have s1:=Qp.out.q 1 rfl
   have f0:=Qp.out.frozen 0
   have f1:=Qp.out.frozen 1
   clear c1' q0 q1 q5 d0 d1
   try clear d2
   generalize w3.drew=w4 at*
   go_wp2_with fail
   have hT:=(Qp.out.set 0 (.string ty.p)).set 1 (.string ty.r)
   have hB:=(Ct.out.setCell (p:=⟨w.heap.size+1,0,none⟩) (Nat.le_succ _) (.string ty.p)).setCell (p:=⟨w.heap.size+1,1,none⟩) (Nat.le_succ _) (.string ty.r)
   generalize (w4.setCell ⟨w.heap.size+1,0,none⟩ (.string ty.p)).setCell ⟨w.heap.size+1,1,none⟩ (.string ty.r)=w5 at hT hB⊢
   have z0:=hT.q 0 rfl
   have z1:=hT.q 1 rfl
   rw [HL2.out]
   refine⟨rfl,.tuple #[.agg #[.string ty.p,.string ty.r],.bool true],?_,rfl,hB⟩
   simp [results,results146,go_sem,z0,z1]
   try rfl
 ·have hI: ∀w,Calls prog 180 #[.int .i64 x.a,.int .i64 (L:Int)] w fun e w'=>w=w'∧e= .returned (.bool false):=fun w=>by
   have:=W L J_ w
   rw [Bool.eq_false_iff.2 hi] at this;exact this
  have HI:=AA hI
  have HL2:Hid (Cn m x=none):=AA (by rw [hL,if_neg hi])
  have s0:=HS2.out.q 0 rfl
  have s1:=HS2.out.q 1 rfl
  have f0:=HS2.out.frozen 0
  have f1:=HS2.out.frozen 1
  clear hi W T hI kd hL E2 kL
  rcases KL.out with⟨rfl,rfl⟩ | ⟨rfl,rfl⟩ | ⟨rfl,rfl⟩
  all_goals
   clear KL
   go_wp2_with fail
   go_quiet ((go_at_call 180;first | exact Bp (HI.out _) | exact Bj (HI.out _)))
   go_wp2_with fail
   have zD:=HS2.out.drewN nq
   have hB3:=below_drewN HB2.out nq
   generalize w2.drewN nq=w3 at*
   have hT:=(zD.set 0 (.string ⟨#[]⟩)).set 1 (.string ⟨#[]⟩)
   have hB:=(hB3.setCell (p:=⟨w.heap.size+1,0,none⟩) (Nat.le_succ _) (.string ⟨#[]⟩)).setCell (p:=⟨w.heap.size+1,1,none⟩) (Nat.le_succ _) (.string ⟨#[]⟩)
   generalize (w3.setCell ⟨w.heap.size+1,0,none⟩ (.string ⟨#[]⟩)).setCell ⟨w.heap.size+1,1,none⟩ (.string ⟨#[]⟩)=w5 at hT hB⊢
   have z0:=hT.q 0 rfl
   have z1:=hT.q 1 rfl
   rw [HL2.out]
   refine⟨rfl,.tuple #[.agg #[.string ⟨#[]⟩,.string ⟨#[]⟩],.bool false],?_,rfl,hB⟩
   simp [results,results146,go_sem,z0,z1]
   try rfl
end
structure fu (m:AP) (f:Bt) (c:Ai) (fl:List Int) (sh:List ByteArray) (pc:Nat) (ops:List Bo) (l:List Nat):Prop where
 own:c.BF[pc]?=some (EF l)
 ch:Chain c.BF l
 len:l.length≤1000
 is: ∀n:Int,(BK ops n).isSome=zA n l.length
 at_: ∀(n:Int) (q:Bo),BK ops n=some q→q.pc=EF (l.drop n.toNat)∧Nc m f sh fl q
def Lab1 (ops:List Bo) (l:List Int) (k:Nat):Prop:= ∀(j:Nat) (n:Int),j<k→l[j]?=some n→(BK ops n).isSome=true
def Lab2 (ops:List Bo) (l:List Int) (k:Nat):Prop:= ∀(j:Nat) (n:Int),j<k→l[j]?=some n→GA ops n=GA ops (l.headD 0)
section
variable {h1 g:Nat} {y:Fy} {m:AP} {f:Bt} {c:Ai} {vF vS:Value} {fl:List Int} {sh:List ByteArray} {pc:Nat} {ops:List Bo} {l:List Nat}
theorem Oc {n:Int} {q:Bo} (hb:fu m f c fl sh pc ops l) (hq:BK ops n=some q) (hn: -9223372036854775808≤n∧n<9223372036854775808) (hm:f.code.length≤1000000) (W:World) (h:D7 W h1 g y m f c vF vS fl sh):
 Calls prog 181 #[.pointer (some ⟨g,0,none⟩),.int .i64 pc,.int .i64 n] W fun e w'=>W=w'∧e= .returned (.tuple #[.int .i64 q.pc,.bool true]):=by
 have h2:=Uy n pc l W h hb.own hb.ch hb.len hn hm
 rw [←(hb.at_ n q hq).1,←hb.is n,hq] at h2
 exact h2
theorem YB {n:Int} (hb:fu m f c fl sh pc ops l) (hq:BK ops n=none) (hn: -9223372036854775808≤n∧n<9223372036854775808) (hm:f.code.length≤1000000) (W:World) (h:D7 W h1 g y m f c vF vS fl sh):
 Calls prog 181 #[.pointer (some ⟨g,0,none⟩),.int .i64 pc,.int .i64 n] W fun e w'=>W=w'∧e= .returned (.tuple #[.int .i64 (EF (l.drop n.toNat)),.bool false]):=by
 have h2:=Uy n pc l W h hb.own hb.ch hb.len hn hm
 rw [←hb.is n,hq] at h2
 exact h2
theorem Zf {n:Int} {q:Bo} (h:BK ops n=some q):0≤n:=by
 unfold BK at h
 by_cases h0:0≤n
 ·exact h0
 ·rw [if_neg h0] at h;cases h
theorem Pw (x:Ad) (v:Value) (w:World) (h:D7 w h1 g y m f c vF vS fl sh) (hb:fu m f c fl sh pc ops l) (h9:x.op.toNat≠9) (hn: -9223372036854775808≤x.a∧x.a<9223372036854775808) (hm:f.code.length≤1000000):
 Calls prog 147 #[.pointer (some ⟨g,0,none⟩),.int .i64 pc,.agg #[.int .u8 (x.op.toNat:Int),.int .i64 x.a,v]] w fun e w'=>e= .returned (.tuple #[.string (BI ops x).1,.int .i64 (BI ops x).2])∧Below w.heap.size w w':=by
 have H:=AA h;have HN:=AA hn;have HM:=AA hm;have iU:=AA hb
 have HL:Hid (BI ops x=if(BK ops x.a).isSome then(GA ops x.a,0) else(Di,31)):=AA (by unfold BI;rw [if_pos h9])
 have q9:((x.op.toNat:Int) !=9)=true:=by simp;omega
 clear h hb h9 hn hm
 cases hq:BK ops x.a with
 | none=>
  have HC:=AA (YB iU.out hq HN.out HM.out (h1:=h1) (g:=g) (y:=y) (vF:=vF) (vS:=vS))
  have HL2:Hid (BI ops x=(Di,31)):=AA (by rw [HL.out,hq];rfl)
  clear hq
  go_enter func147,ntmps147
  go_upto_region 1 with fail
  generalize hw1:w.alloc (.cells #[.int .u8 (x.op.toNat:Int),.int .i64 x.a,v] 122)=w1
  have HB1:Hid (Below w.heap.size w w1):=AA (by rw [←hw1];exact(Below.refl _ _).alloc (Nat.le_refl _) _)
  have CS:Hid (AQ w1 w.heap.size 122 [.int .u8 (x.op.toNat:Int),.int .i64 x.a,v]):=AA (by rw [←hw1];exact AQ.new w 122 _)
  have c0:=CS.out.q 0 rfl
  have c1:=CS.out.q 1 rfl
  clear hw1
  go_wp2_with fail
  refine(HC.out w1 (H.out.below HB1.out)).mono ?_
  rintro e w2 ⟨rfl,rfl⟩
  go_wp2_with fail
  go_ret2
  rw [HL2.out]
  exact⟨rfl,HB1.out⟩
 | some q=>
  have HC:=AA (Oc iU.out hq HN.out HM.out (h1:=h1) (g:=g) (y:=y) (vF:=vF) (vS:=vS))
  have HL2:Hid (BI ops x=(BZ q,0)):=AA (by rw [HL.out];unfold GA;rw [hq];rfl)
  have HQ:=AA (iU.out.at_ _ _ hq).2
  have ha:=Zf hq
  have hd:decide (x.a<0)=false:=decide_eq_false (by omega)
  clear hq
  go_enter func147,ntmps147
  go_upto_region 1 with fail
  generalize hw1:w.alloc (.cells #[.int .u8 (x.op.toNat:Int),.int .i64 x.a,v] 122)=w1
  have HB1:Hid (Below w.heap.size w w1):=AA (by rw [←hw1];exact(Below.refl _ _).alloc (Nat.le_refl _) _)
  have CS:Hid (AQ w1 w.heap.size 122 [.int .u8 (x.op.toNat:Int),.int .i64 x.a,v]):=AA (by rw [←hw1];exact AQ.new w 122 _)
  have c0:=CS.out.q 0 rfl
  have c1:=CS.out.q 1 rfl
  clear hw1
  go_wp2_with fail
  refine(HC.out w1 (H.out.below HB1.out)).mono ?_
  rintro e w2 ⟨rfl,rfl⟩
  go_wp2_with fail
  refine(Ky q w1 (H.out.below HB1.out) HQ.out).mono ?_
  rintro e w2 ⟨rfl,hb2⟩
  have HB2:Hid (Below w.heap.size w w2):=AA (HB1.out.trans (hb2.mono HB1.out.size))
  clear hb2
  go_wp2_with fail
  go_ret2
  rw [HL2.out]
  exact⟨rfl,HB2.out⟩
theorem Ns (x:Ad) (A:Option Addr) (d hi:Nat) (w:World) (h:D7 w h1 g y m f c vF vS fl sh) (hb:fu m f c fl sh pc ops l) (h9:x.op.toNat=9) (hx:(Rd.i64.sl false).R w 0 hi [.slice A x.l.length d] x.l) (hhi:hi≤w.heap.size) (hne:1≤x.l.length) (hle:x.l.length≤1000)
 (hsm: ∀n∈x.l,0≤n∧n≤2147483647) (hm:f.code.length≤1000000):
 Calls prog 147 #[.pointer (some ⟨g,0,none⟩),.int .i64 pc,.agg #[.int .u8 (x.op.toNat:Int),.int .i64 x.a,.slice A x.l.length d]] w fun e w'=>e= .returned (.tuple #[.string (BI ops x).1,.int .i64 (BI ops x).2])∧Below w.heap.size w w':=by
 have H:=AA h;have HM:=AA hm;have iU:=AA hb;have HSM:=AA hsm;have HX:=AA hx
 have HL:Hid (BI ops x=if x.l.all (fun n=>(BK ops n).isSome) then(if x.l.all (fun n=>decide (GA ops n=GA ops (x.l.headD 0))) then(GA ops (x.l.headD 0),0) else(Di,32)) else(Di,31)):=AA (by unfold BI;rw [if_neg (by omega)])
 have q9:((x.op.toNat:Int) !=9)=false:=by simp;omega
 obtain⟨n0,hn0⟩: ∃n0,x.l[0]?=some n0:=⟨_,List.getElem?_eq_getElem (by omega)⟩
 obtain⟨b,o,eA,hbl,hc0⟩:=Mj hx hn0
 subst eA
 have Te:Hid (x.l.headD 0=n0):=AA (by cases hh:x.l with | nil=>rw [hh] at hn0;cases hn0 | cons a r=>rw [hh] at hn0;injection hn0)
 have zF:=AA hn0
 have lI:Hid (∀(W:World),Below w.heap.size w W→ ∀(k:Nat) (n:Int),x.l[k]?=some n→W.cell? ⟨b,o+k,none⟩=some (.int .i64 n)):=AA (fun W hW k n hk=>by
  obtain⟨b',o',e,_,hc⟩:=Mj hx hk
  injection e with e;injection e with e1 e2 _;subst e1 e2
  exact(hW.cell (by simp;omega) (p:=⟨b,o+k,none⟩)).trans hc)
 clear h hb h9 hm hx hn0 hc0 hsm
 go_enter func147,ntmps147
 go_upto_region 1 with fail
 generalize hw1:w.alloc (.cells #[.int .u8 (x.op.toNat:Int),.int .i64 x.a,.slice (some ⟨b,o,none⟩) x.l.length d] 122)=w1
 have HB1:Hid (Below w.heap.size w w1):=AA (by rw [←hw1];exact(Below.refl _ _).alloc (Nat.le_refl _) _)
 have CS:Hid (AQ w1 w.heap.size 122 [.int .u8 (x.op.toNat:Int),.int .i64 x.a,.slice (some ⟨b,o,none⟩) x.l.length d]):=AA (by rw [←hw1];exact AQ.new w 122 _)
 have c0:=CS.out.q 0 rfl
 have c2:=CS.out.q 2 rfl
 have HW1:=AA (H.out.below HB1.out)
 clear hw1
 go_wp2_with fail
 go_loop [10,11,12] (fun i _ _=> ∃k:Nat,k≤x.l.length∧i= .int .i64 k∧Lab1 ops x.l k) (fun i _ _=>x.l.length-(intOf i).toNat)
 case atStart=>exact⟨0,Nat.zero_le _,rfl,fun j n hj=>absurd hj (Nat.not_lt_zero _)⟩
 case round=>
  obtain⟨k,hk,rfl,hl1⟩:=hrel
  have oU:=AA hl1
  clear hl1 c0
  by_cases hlt:k<x.l.length
  ·obtain⟨n,hn⟩: ∃n,x.l[k]?=some n:=⟨_,List.getElem?_eq_getElem hlt⟩
   have hcn:=lI.out w1 HB1.out k n hn
   have hk0:(0:Int)≤k:=by omega
   have hk1:(k:Int)<x.l.length:=by omega
   have hsn:=HSM.out n (List.mem_of_getElem? hn)
   have hd:decide (n<0)=false:=decide_eq_false (by omega)
   have wT:=AA hn
   clear hn
   cases hq:BK ops n with
   | none=>
    have HC:=AA (YB iU.out hq (by omega) HM.out (h1:=h1) (g:=g) (y:=y) (vF:=vF) (vS:=vS))
    have HL2:Hid (BI ops x=(Di,31)):=AA (by
     rw [HL.out,if_neg]
     intro hall
     have:=List.all_eq_true.1 hall n (List.mem_of_getElem? wT.out)
     rw [hq] at this;cases this)
    clear hq
    go_wp2_with fail
    refine(HC.out w1 HW1.out).mono ?_
    rintro e w2 ⟨rfl,rfl⟩
    go_wp2_with fail
    go_ret2
    rw [HL2.out]
    exact⟨rfl,HB1.out⟩
   | some q=>
    have HC:=AA (Oc iU.out hq (by omega) HM.out (h1:=h1) (g:=g) (y:=y) (vF:=vF) (vS:=vS))
    have HQ:=AA hq
    clear hq
    go_wp2_with fail
    refine(HC.out w1 HW1.out).mono ?_
    rintro e w2 ⟨rfl,rfl⟩
    go_wp2_with fail
    go_round
    case rel=>exact⟨k+1,by omega,by go_num,fun j n' hj hn'=>by
     by_cases e:j=k
     ·subst e;rw [wT.out] at hn';injection hn' with hn';subst hn';rw [HQ.out];rfl
     ·exact oU.out j n' (by omega) hn'⟩
    case measure=>simp [intOf];omega
  ·obtain rfl:x.l.length=k:=by omega
   have MG:Hid (x.l.all (fun n=>(BK ops n).isSome)=true):=AA (List.all_eq_true.2 fun n hn=>by
    obtain⟨j,hj⟩:=List.getElem?_of_mem hn
    exact oU.out j n (List.getElem?_eq_some_iff.1 hj).1 hj)
   have hcn:w1.cell? ⟨b,o,none⟩=some (.int .i64 n0):=lI.out w1 HB1.out 0 n0 zF.out
   have hs0:=HSM.out n0 (List.mem_of_getElem? zF.out)
   have hl0:(0:Int)<x.l.length:=by omega
   obtain⟨q0,hq0⟩: ∃q0,BK ops n0=some q0:=Option.isSome_iff_exists.1 (List.all_eq_true.1 MG.out n0 (List.mem_of_getElem? zF.out))
   have HC0:=AA (Oc iU.out hq0 (by omega) HM.out (h1:=h1) (g:=g) (y:=y) (vF:=vF) (vS:=vS))
   have Ym:Hid (GA ops (x.l.headD 0)=BZ q0):=AA (by rw [Te.out];unfold GA;rw [hq0])
   have HO0:=AA (iU.out.at_ _ _ hq0).2
   clear hq0
   go_wp2_with fail
   refine(HC0.out w1 HW1.out).mono ?_
   rintro e w2 ⟨rfl,rfl⟩
   go_wp2_with fail
   clear hcn
   go_loopw [15,16,17] (fun i _ _ wr=> ∃k:Nat,k≤x.l.length∧i= .int .i64 k∧Lab2 ops x.l k∧Below w1.heap.size w1 wr) (fun i _ _ _=>x.l.length-(intOf i).toNat)
   case atStart=>exact⟨0,Nat.zero_le _,rfl,fun j n hj=>absurd hj (Nat.not_lt_zero _),Below.refl _ _⟩
   case round=>
    obtain⟨k,hk,rfl,hl2,hbr⟩:=hrel
    have HL2:=AA hl2
    have Io:=AA hbr
    have Ec:Hid (Below w.heap.size w wr):=AA (HB1.out.trans (hbr.mono HB1.out.size))
    have HWR:=AA (HW1.out.below hbr)
    have c2:=(CS.out.below hbr CS.out.lt).q 2 rfl
    clear hl2 hbr
    by_cases hlt:k<x.l.length
    ·obtain⟨n,hn⟩: ∃n,x.l[k]?=some n:=⟨_,List.getElem?_eq_getElem hlt⟩
     have hcn:=lI.out wr Ec.out k n hn
     have hk0:(0:Int)≤k:=by omega
     have hk1:(k:Int)<x.l.length:=by omega
     have hsn:=HSM.out n (List.mem_of_getElem? hn)
     have wT:=AA hn
     obtain⟨q,hq⟩: ∃q,BK ops n=some q:=Option.isSome_iff_exists.1 (List.all_eq_true.1 MG.out n (List.mem_of_getElem? hn))
     have HC:=AA (Oc iU.out hq (by omega) HM.out (h1:=h1) (g:=g) (y:=y) (vF:=vF) (vS:=vS))
     have HS:Hid (GA ops n=BZ q):=AA (by unfold GA;rw [hq])
     have HO:=AA (iU.out.at_ _ _ hq).2
     clear hn hq
     go_wp2_with fail
     refine(HC.out wr HWR.out).mono ?_
     rintro e w2 ⟨rfl,rfl⟩
     clear hcn
     go_wp2_with fail
     refine(Ky q wr HWR.out HO.out).mono ?_
     rintro e w2 ⟨rfl,hb2⟩
     have HB2:=AA hb2
     have HW2:=AA (HWR.out.below hb2)
     clear hb2 c2
     go_wp2_with fail
     refine(Ky q0 w2 HW2.out HO0.out).mono ?_
     rintro e w3 ⟨rfl,hb3⟩
     have HB3:Hid (Below wr.heap.size wr w3):=AA (HB2.out.trans (hb3.mono HB2.out.size))
     have HB3':Hid (Below w.heap.size w w3):=AA (Ec.out.trans (HB3.out.mono Ec.out.size))
     clear hb3
     by_cases he:BZ q=BZ q0
     ·have e1:((BZ q).toList==(BZ q0).toList)=true:=by rw [he];simp
      have HE:=AA he
      clear he
      go_wp2_with fail
      go_roundw
      case rel=>exact⟨k+1,by omega,by go_num,fun j n' hj hn'=>by
       by_cases e:j=k
       ·subst e;rw [wT.out] at hn';injection hn' with hn';subst hn';rw [HS.out,Ym.out];exact HE.out
       ·exact HL2.out j n' (by omega) hn',Io.out.trans (HB3.out.mono Io.out.size)⟩
      case measure=>simp [intOf];omega
     ·have e1:((BZ q).toList==(BZ q0).toList)=false:=by
       rw [beq_eq_false_iff_ne]
       intro e
       rw [ByteArray.toList_eq,ByteArray.toList_eq] at e
       exact he (ByteArray.ext (Array.toList_inj.1 e))
      have HE:Hid (BI ops x=(Di,32)):=AA (by
       rw [HL.out,if_pos MG.out,if_neg]
       intro hall
       have:=of_decide_eq_true (List.all_eq_true.1 hall n (List.mem_of_getElem? wT.out))
       rw [HS.out,Ym.out] at this
       exact he this)
      clear he
      go_wp2_with fail
      go_ret2
      rw [HE.out]
      exact⟨rfl,HB3'.out⟩
    ·obtain rfl:x.l.length=k:=by omega
     have HE:Hid (BI ops x=(BZ q0,0)):=AA (by
      rw [HL.out,if_pos MG.out,if_pos,Ym.out]
      refine List.all_eq_true.2 fun n hn=>decide_eq_true ?_
      obtain⟨j,hj⟩:=List.getElem?_of_mem hn
      exact HL2.out j n (List.getElem?_eq_some_iff.1 hj).1 hj)
     go_wp2_with fail
     refine(Ky q0 wr HWR.out HO0.out).mono ?_
     rintro e w2 ⟨rfl,hb2⟩
     have HB2:Hid (Below w.heap.size w w2):=AA (Ec.out.trans (hb2.mono Ec.out.size))
     clear hb2
     go_wp2_with fail
     go_ret2
     rw [HE.out]
     exact⟨rfl,HB2.out⟩
end
def wU (o:Option CW) (n:Nat):ByteArray×ByteArray×Int:=match o with
 | none=>(Di,Di,30)
 | some t=>if n=4 then(t.p++wS,t.p,0) else if n<4 then(t.p,t.p,0) else(t.p,t.r,0)
def Jq (a:ByteArray×ByteArray×Int):Value:= .tuple #[.string a.1,.string a.2.1,.int .i64 a.2.2]
theorem MH {op:Nat} {r:Yz} {b:Bool} (hr:Au op=some r) (hp:r.plain=b) (hop:op<256) (W:World):
 Calls prog 145 #[.int .u8 (op:Int)] W fun e w'=>Below W.heap.size W w'∧e= .returned (.tuple #[.agg #[.int .u8 (r.op:Nat),.string r.word,.int .i8 r.takes,.string r.pops,.string r.pushes,.bool b],.bool true]):=by
 have h:=Vw op W hop
 unfold EZ at h
 rw [hr] at h
 subst hp
 exact h
theorem QX {m:AP} (hm:J7 m) {x:Ad} {t:CW} (h:Cn m x=some t):t.p.size≤8∧t.r.size≤8:=by
 unfold Cn at h
 split at h
 ·split at h
  ·injection h with h;rw [←h];exact Gs hm _
  ·cases h
 split at h
 ·split at h
  ·injection h with h;rw [←h];exact Gs hm _
  ·cases h
 ·split at h
  ·injection h with h;rw [←h];exact Gs hm _
  ·cases h
theorem ru {m:AP} {f:Bt} {st:Cm} {x:Ad} {r:Yz} (hr:Au x.op.toNat=some r) (hp:r.plain=true):BN m f st x=(r.pops,r.pushes,0):=by
 unfold BN;rw [hr];simp only [hp,if_true]
theorem Sb {w w1:World} {t:TypeId} {a b v:Value} (h:w.alloc (.cells #[a,b,v] t)=w1):Below w.heap.size w w1∧w1.cell? ⟨w.heap.size,0,none⟩=some a∧w1.cell? ⟨w.heap.size,1,none⟩=some b∧w1.cell? ⟨w.heap.size,2,none⟩=some v∧AQ w1 w.heap.size t [a,b,v]:=by
 have hb:=AQ.new w t [a,b,v]
 change AQ (w.alloc (.cells #[a,b,v] t)) _ _ _ at hb
 rw [h] at hb
 exact⟨by rw [←h];exact(Below.refl _ _).alloc (Nat.le_refl _) _,hb.cell 0,hb.cell 1,hb.cell 2,hb⟩
section
variable {h1 g:Nat} {y:Fy} {m:AP} {f:Bt} {c:Ai} {vF vS:Value} {fl:List Int} {sh:List ByteArray} {pc:Nat} {st:Cm} {l:List Nat}
theorem Px (x:Ad) (v:Value) (r:Yz) (ab:ByteArray) (p:Int) (w:World) (hr:Au x.op.toNat=some r) (hp:r.plain=true):
 Calls prog 115 #[.pointer (some ⟨g,0,none⟩),.int .i64 p,.agg #[.int .u8 (x.op.toNat:Int),.int .i64 x.a,v],.string ab] w fun e w'=>e= .returned (Jq (BN m f st x))∧Below w.heap.size w w':=by
 have HE:=AA (ru (m:=m) (f:=f) (st:=st) hr hp)
 have Jt:=AA (MH hr hp x.op.toNat_lt)
 clear hr hp
 go_enter func115,ntmps115
 go_upto_region 1 with fail
 generalize hw1:w.alloc (.cells #[.int .u8 (x.op.toNat:Int),.int .i64 x.a,v] 122)=w1
 have HB1:Hid (Below w.heap.size w w1):=AA (by rw [←hw1];exact(Below.refl _ _).alloc (Nat.le_refl _) _)
 have c0:w1.cell? ⟨w.heap.size,0,none⟩=some (.int .u8 (x.op.toNat:Int)):=by rw [←hw1];exact(AQ.new w 122 _).cell 0
 clear hw1
 go_wp2_with fail
 refine(Jt.out w1).mono ?_
 rintro e w2 ⟨hb2,rfl⟩
 have HB2:Hid (Below w.heap.size w w2):=AA (HB1.out.trans (hb2.mono HB1.out.size))
 clear hb2 c0
 go_wp2_with fail
 go_quiet (fail)
 go_wp2_with fail
 go_ret3
 rw [HE.out]
 exact⟨rfl,below_drewN (HB2.out.alloc HB2.out.size _) _⟩
theorem Py (x:Ad) (v:Value) (ab:ByteArray) (p:Int) (w:World) (h:D7 w h1 g y m f c vF vS fl sh) (hop:x.op.toNat=2∨x.op.toNat=3∨x.op.toNat=4∨x.op.toNat=11∨x.op.toNat=12) (hn: -9223372036854775808≤x.a∧x.a<9223372036854775808):
 Calls prog 115 #[.pointer (some ⟨g,0,none⟩),.int .i64 p,.agg #[.int .u8 (x.op.toNat:Int),.int .i64 x.a,v],.string ab] w fun e w'=>e= .returned (Jq (BN m f st x))∧Below w.heap.size w w':=by
 have H:=AA h
 have LQ: ∀W,D7 W h1 g y m f c vF vS fl sh→Calls prog 146 #[.pointer (some ⟨g,0,none⟩),.agg #[.int .u8 (x.op.toNat:Int),.int .i64 x.a,v]] W fun e w'=>e= .returned (bJ (Cn m x))∧Below W.heap.size W w':=fun W hW=>by
  exact fq x v W hW (by omega) hn
 obtain⟨r,hr,N9⟩: ∃r,Au x.op.toNat=some r∧r.plain=false:=by
  have:((Au x.op.toNat).map (·.plain))=some false:=by rcases hop with e | e | e | e | e<;>(rw [e];kernel_rfl)
  obtain⟨r,h1,h2⟩:=Option.map_eq_some_iff.1 this
  exact⟨r,h1,h2⟩
 have HE:Hid (BN m f st x=wU (Cn m x) x.op.toNat):=AA (by
  unfold BN wU
  rw [hr]
  simp only [N9,Bool.false_eq_true,if_false]
  rw [if_neg (by omega),if_pos (by omega)]
  cases Cn m x<;>rfl)
 have Jt:=MH hr N9 x.op.toNat_lt
 clear h hn hr N9
 obtain⟨N,hN⟩: ∃N,x.op.toNat=N:=⟨_,rfl⟩
 have hd2:Hid (N=2∨N=3∨N=4∨N=11∨N=12):=AA (hN▸hop)
 rw [hN] at HE LQ Jt⊢
 clear hop hN
 have LQ:=AA LQ;have Jt:=AA Jt
 rcases hd2.out with rfl | rfl | rfl | rfl | rfl
 all_goals
  clear hd2
  go_enter func115,ntmps115
  go_upto_region 1 with fail
  generalize hw1:w.alloc (.cells #[_,.int .i64 x.a,v] 122)=w1
  obtain⟨hb1,c0,c1,c2,hx1⟩:=Sb hw1
  have HB1:=AA hb1;have CS:=AA hx1
  clear hw1 hb1 hx1 c1 c2
  go_wp2_with fail
  refine(Jt.out w1).mono ?_
  rintro e w2 ⟨hb2,rfl⟩
  have HB2:Hid (Below w.heap.size w w2):=AA (HB1.out.trans (hb2.mono HB1.out.size))
  have Bq:=AA (CS.out.below hb2 CS.out.lt)
  clear hb2 c0
  have c0:=Bq.out.cell 0
  have c1:=Bq.out.cell 1
  have c2:=Bq.out.cell 2
  have hlt:=Bq.out.lt
  go_wp2_with fail
  generalize hw3:w2.alloc _=w3
  have hb3:Below w2.heap.size w2 w3:=by rw [←hw3];exact(Below.refl _ _).alloc (Nat.le_refl _) _
  have HB3:Hid (Below w.heap.size w w3):=AA (HB2.out.trans (hb3.mono HB2.out.size))
  have Nq:=AA (Bq.out.below hb3 Bq.out.lt)
  clear hw3 hb3 c0 c1 c2 hlt
  refine(LQ.out w3 (H.out.below HB3.out)).mono ?_
  rintro e w4 ⟨rfl,hb4⟩
  have Ct:Hid (Below w.heap.size w w4):=AA (HB3.out.trans (hb4.mono HB3.out.size))
  have Ob:=AA (Nq.out.below hb4 Nq.out.lt)
  clear hb4
  have c0:=Ob.out.cell 0
  have hlt:=Ob.out.lt
  cases hty:Cn m x with
  | none=>
   rw [hty] at HE
   clear hty
   dsimp only [bJ]
   go_wp2_with fail
   go_ret3
   rw [HE.out]
   exact⟨rfl,Ct.out.alloc Ct.out.size _⟩
  | some t=>
   rw [hty] at HE
   have ht8:=(QX H.out.md.ok hty).1
   have hadd:binOp .add 9 (.string t.p) (.string ⟨#[119]⟩)=pure (.string (t.p++⟨#[119]⟩)):=Fh _ _ _ (by show t.p.size+1≤_;omega)
   clear hty ht8
   dsimp only [bJ]
   go_wp2_with fail
   go_quiet (fail)
   go_wp2_with fail
   go_ret3
   rw [HE.out]
   exact⟨rfl,below_drewN (Ct.out.alloc Ct.out.size _) _⟩
end
end Go.Proofs.YtlagonfamllgjaaGreatDoor
