/- Part 14 of the proof: Par1 RdrB RdrP RdrQ RdrC -/
import Derived.Deep.RegionHeld3
import Derived.Test.YtejbcledkhioeaaGreatDoorQ13
namespace Go.Proofs.YtejbcledkhioeaaGreatDoor
set_option linter.unusedVariables false
set_option linter.unusedSimpArgs false
set_option maxRecDepth 100000
set_option maxHeartbeats 4000000
open Go.RowKit Tryz
def Q5:List Value:= [.slice none 0 0,.slice none 0 0,.slice none 0 0,.int .i64 0,.int .i64 0,.slice none 0 0,.slice none 0 0,.slice none 0 0]
theorem ZN (pr pm pe pa:Addr) (w:World):
 CallsD prog 56 #[.pointer (some pr),.pointer (some pm),.pointer (some pe),.pointer (some pa)] .returning w fun e u' w'=>e= .returned (.tuple #[])∧u'= .returning∧w'=w:=by
 refine callsD_of_wpS func56 rfl fun c₀ cs hu=> ?_
 apply wpS_seq
 apply wpS_region
 simp [wpOpsS,go_sem,recoverD,hu,ntmps56,Exit.thenS,Array.replicate]
 have Hu:=AA hu;clear hu
 refine wpS_of_wp ?_
 go_wp2_with fail
 simp [bodyPostS,results,results56,←Hu.out]
theorem Vv (W:World):(Instr.typeAssert (.iface 106 (.agg #[])) 20 106 true).run prog W= .ok (.tuple #[.agg #[],.bool true]) W:=by kernel_rfl
theorem WX (gr gm ge ga b:Nat) (e0 a0 ln:Int) (c0 c1 c2 c3 c4 c5 c6 c7:Value) (w:World) (hr:AL w gr 102 [.pointer (some ⟨b,0,none⟩)]) (hm:AL w gm 29 [c0,c1,c2,c3,c4,c5,c6,c7]) (he:AL w ge 33 [.int .i64 e0]) (ha:AL w ga 3 [.int .i64 a0])
 (h1:gm≠ge) (h2:gm≠ga) (h3:ge≠ga) (hl:w.cell? ⟨b,9,none⟩=some (.int .i64 ln)) (hb1:b≠gm) (hb2:b≠ge) (hb3:b≠ga) (hbl:b<w.heap.size) (hg1:gr≠gm):
 CallsD prog 56 #[.pointer (some ⟨gr,0,none⟩),.pointer (some ⟨gm,0,none⟩),.pointer (some ⟨ge,0,none⟩),.pointer (some ⟨ga,0,none⟩)] (.panicking QT) w fun e u' w'=>
  e= .returned (.tuple #[])∧u'= .panicking [{v:= .iface 106 (.agg #[]),recovered:=true}]∧Keep (fun k=>k≠gm∧k≠ge∧k≠ga) w w'∧AL w' gm 29 Q5∧AL w' ge 33 [.int .i64 22]∧AL w' ga 3 [.int .i64 ln]:=by
 refine callsD_of_wpS func56 rfl fun c₀ cs hu=> ?_
 apply wpS_seq
 apply wpS_region
 simp [wpOpsS,go_sem,recoverD,hu,ntmps56,Exit.thenS,QT,Array.replicate]
 have Hu:=AA hu;clear hu
 refine wpS_of_wp ?_
 have HM:=AA hm;have HE:=AA he;have HA:=AA ha
 have hgm:=hm.lt
 have hge:=he.lt
 have hga:=ha.lt
 have hgr:=hr.lt
 have q0:=hr.q 0 rfl
 have m0:=hm.q 0 rfl
 have m1:=hm.q 1 rfl
 have m2:=hm.q 2 rfl
 have m3:=hm.q 3 rfl
 have m4:=hm.q 4 rfl
 have m5:=hm.q 5 rfl
 have m6:=hm.q 6 rfl
 have m7:=hm.q 7 rfl
 have n0:=hm.frozen 0
 have n1:=hm.frozen 1
 have n2:=hm.frozen 2
 have n3:=hm.frozen 3
 have n4:=hm.frozen 4
 have n5:=hm.frozen 5
 have n6:=hm.frozen 6
 have n7:=hm.frozen 7
 have q1:=he.q 0 rfl
 have q2:=ha.q 0 rfl
 have f1:=he.frozen 0
 have f2:=ha.frozen 0
 clear hm he ha hr
 have has:=Vv
 go_wp2_with fail
 refine⟨rfl,_,rfl,.tuple #[],?_,rfl,rfl,(((((((((((Keep.refl _ w).setCell (p:=⟨gm,0,none⟩) (by simp) (.slice none 0 0)).setCell (p:=⟨gm,1,none⟩) (by simp) (.slice none 0 0)).setCell (p:=⟨gm,2,none⟩) (by simp) (.slice none 0 0)).setCell (p:=⟨gm,3,none⟩) (by simp) (.int .i64 0)).setCell (p:=⟨gm,4,none⟩) (by simp) (.int .i64 0)).setCell (p:=⟨gm,5,none⟩) (by simp) (.slice none 0 0)).setCell (p:=⟨gm,6,none⟩) (by simp) (.slice none 0 0)).setCell (p:=⟨gm,7,none⟩) (by simp) (.slice none 0 0)).setCell (p:=⟨ge,0,none⟩) (by simp) (.int .i64 22)).setCell (p:=⟨ga,0,none⟩) (by simp) (.int .i64 ln)).alloc _,((((((((((HM.out.set 0 (.slice none 0 0)).set 1 (.slice none 0 0)).set 2 (.slice none 0 0)).set 3 (.int .i64 0)).set 4 (.int .i64 0)).set 5 (.slice none 0 0)).set 6 (.slice none 0 0)).set 7 (.slice none 0 0)).far (p:=⟨ge,0,none⟩) h1 _).far (p:=⟨ga,0,none⟩) h2 _).alloc _,((((((((((HE.out.far (p:=⟨gm,0,none⟩) (Ne.symm h1) (.slice none 0 0)).far (p:=⟨gm,1,none⟩) (Ne.symm h1) (.slice none 0 0)).far (p:=⟨gm,2,none⟩) (Ne.symm h1) (.slice none 0 0)).far (p:=⟨gm,3,none⟩) (Ne.symm h1) (.int .i64 0)).far (p:=⟨gm,4,none⟩) (Ne.symm h1) (.int .i64 0)).far (p:=⟨gm,5,none⟩) (Ne.symm h1) (.slice none 0 0)).far (p:=⟨gm,6,none⟩) (Ne.symm h1) (.slice none 0 0)).far (p:=⟨gm,7,none⟩) (Ne.symm h1) (.slice none 0 0)).set 0 (.int .i64 22)).far (p:=⟨ga,0,none⟩) h3 _).alloc _,((((((((((HA.out.far (p:=⟨gm,0,none⟩) (Ne.symm h2) (.slice none 0 0)).far (p:=⟨gm,1,none⟩) (Ne.symm h2) (.slice none 0 0)).far (p:=⟨gm,2,none⟩) (Ne.symm h2) (.slice none 0 0)).far (p:=⟨gm,3,none⟩) (Ne.symm h2) (.int .i64 0)).far (p:=⟨gm,4,none⟩) (Ne.symm h2) (.int .i64 0)).far (p:=⟨gm,5,none⟩) (Ne.symm h2) (.slice none 0 0)).far (p:=⟨gm,6,none⟩) (Ne.symm h2) (.slice none 0 0)).far (p:=⟨gm,7,none⟩) (Ne.symm h2) (.slice none 0 0)).far (p:=⟨ge,0,none⟩) (Ne.symm h3) _).set 0 (.int .i64 ln)).alloc _⟩
 simp [results,results56]
structure Lens (m:AP) (q:Nat):Prop where
 types:m.types.length≤q
 hosts:m.hosts.length≤q
 globs:m.globs.length≤q
 fns:m.fns.length≤q
 dat:m.dat.length≤q
 AU:m.AU.length≤q
 code: ∀f∈m.fns,f.code.length≤q
theorem Lens.mono {m:AP} {q q':Nat} (h:Lens m q) (hq:q≤q'):Lens m q':=
 ⟨Nat.le_trans h.types hq,Nat.le_trans h.hosts hq,Nat.le_trans h.globs hq,Nat.le_trans h.fns hq,Nat.le_trans h.dat hq,Nat.le_trans h.AU hq,fun f hf=>Nat.le_trans (h.code f hf) hq⟩
structure OL (B b:Nat) (W:World) (col:Nat→Nat) (v1 v2 v3 v6 v7 v8:Value) (m:AP) (st ln:Nat):Prop where
 blk:AL W b 104 [v1,v2,v3,.int .i64 m.first,.int .i64 m.most,v6,v7,v8,.int .i64 st,.int .i64 ln]
 six:Ur B col W v1 v2 v3 v6 v7 v8 m
 low:b<B
 top:B≤W.heap.size
 first:Rd.ER m.first
 most:Rd.ER m.most
def Ru (B b:Nat) (W:World) (m:AP) (st ln:Nat):Prop:= ∃col v1 v2 v3 v6 v7 v8,OL B b W col v1 v2 v3 v6 v7 v8 m st ln
structure ED (W:World) (A:Nat) (ws:List ByteArray):Prop where
 lt:A<W.heap.size
 at_: ∀(j:Nat) x,ws[j]?=some x→W.cell? ⟨A,j,none⟩=some (.string x)
 tot:Em ws≤1048577
theorem ED.sz {W:World} {A:Nat} {ws:List ByteArray} (h:ED W A ws): ∀x∈ws,x.size≤1048576:=fun x hx=>by have:=M9 hx;have:=h.tot;omega
theorem ED.keep {W W':World} {A:Nat} {ws:List ByteArray} {K:Nat→Prop} (h:ED W A ws) (hK:Keep K W W') (hA:K A):ED W' A ws:=
 ⟨Nat.lt_of_lt_of_le h.lt hK.size,fun j x hx=>by
  have:=hK.block A h.lt hA
  have h2:=h.at_ j x hx
  unfold World.cell? at h2⊢
  rw [this]
  exact h2,h.tot⟩
theorem ED.below {W W':World} {A:Nat} {ws:List ByteArray} (h:ED W A ws) (hb:Below W.heap.size W W'):ED W' A ws:=h.keep (K:=fun _=>True) (Keep.Aq hb |>.mono fun _ _=>trivial) trivial
section
variable {B b:Nat} {W W':World} {col:Nat→Nat} {v1 v2 v3 v6 v7 v8:Value} {m:AP} {st ln:Nat}
theorem OL.below (h:OL B b W col v1 v2 v3 v6 v7 v8 m st ln) (hb:Below W.heap.size W W'):OL B b W' (Dy W col 0) v1 v2 v3 v6 v7 v8 m st ln:=
 ⟨h.blk.below hb h.blk.lt,h.six.keep (K:=fun _=>True) (Keep.Aq hb |>.mono fun _ _=>trivial) (fun _ _ _ _=>trivial) _ (fun k hk _=>AV hk rfl),h.low,Nat.le_trans h.top hb.size,h.first,h.most⟩
theorem Ru.below (h:Ru B b W m st ln) (hb:Below W.heap.size W W'):Ru B b W' m st ln:=by
 obtain⟨col,v1,v2,v3,v6,v7,v8,h⟩:=h
 exact⟨_,v1,v2,v3,v6,v7,v8,h.below hb⟩
end
structure FnO (B lo:Nat) (col:Nat→Nat) (W:World) (A:Option Addr) (c:Nat) (cells:List Value) (vc:Value) (fs:List GR) (f:GR):Prop where
 own:W.ownsRow B 56 3 (.slice A (fs.length+1) c) (fs.length+1) (cells++ [.int .i64 f.t,.string f.loc,vc])
 at_: ∀g,(Value.slice A (fs.length+1) c).ownBlock=some g→col g=6∧g<lo
 els: ∀(k:Nat) x,fs[k]?=some x→ ∃l h,B≤l∧h≤lo∧(∀g,(Value.slice A (fs.length+1) c).ownBlock=some g→g<l∨h≤g)∧(∀g,l≤g→g<h→col g=6)∧Rt.R W l h ((cells.drop (k*3)).take 3) x
 t:Rd.ER f.t
 loc:Rd.Yb f.loc
 code:J6 JA 53 lo (fun _=>True) W vc f.code
 lo_:B≤lo
 vo:lo≤W.heap.size
 new: ∀k,lo≤k→k<W.heap.size→col k=9
structure Five (B:Nat) (col:Nat→Nat) (W:World) (v1 v2 v3 v7 v8:Value) (m:AP):Prop where
 p1:J6 LD 51 B (fun k=>col k=1) W v1 m.types
 p2:J6 Rd.i64 3 B (fun k=>col k=2) W v2 m.hosts
 p3:J6 Jf 82 B (fun k=>col k=3) W v3 m.globs
 p7:J6 JC 59 B (fun k=>col k=7) W v7 m.dat
 p8:J6 Lf 61 B (fun k=>col k=8) W v8 m.AU
theorem Five.keep {B:Nat} {col:Nat→Nat} {W W':World} {v1 v2 v3 v7 v8:Value} {m m':AP} {K:Nat→Prop} (h:Five B col W v1 v2 v3 v7 v8 m) (hK:Keep K W W') (hk: ∀k,B≤k→k<W.heap.size→(col k=1∨col k=2∨col k=3∨col k=7∨col k=8)→K k) (col':Nat→Nat)
 (hc: ∀k,k<W.heap.size→(col k=1∨col k=2∨col k=3∨col k=7∨col k=8)→col' k=col k)
 (h1:m'.types=m.types) (h2:m'.hosts=m.hosts) (h3:m'.globs=m.globs) (h7:m'.dat=m.dat) (h8:m'.AU=m.AU):Five B col' W' v1 v2 v3 v7 v8 m':=by
 have hx: ∀ {i k:Nat},(i=1∨i=2∨i=3∨i=7∨i=8)→col k=i→(col k=1∨col k=2∨col k=3∨col k=7∨col k=8):=fun hi e=>by rw [e];exact hi
 refine⟨?_,?_,?_,?_,?_⟩
 ·rw [h1];exact h.p1.keep hK (fun k hB hlt e=>hk k hB hlt (hx (by omega) e)) (fun k hlt e=>by rw [hc k hlt (hx (by omega) e)];exact e)
 ·rw [h2];exact h.p2.keep hK (fun k hB hlt e=>hk k hB hlt (hx (by omega) e)) (fun k hlt e=>by rw [hc k hlt (hx (by omega) e)];exact e)
 ·rw [h3];exact h.p3.keep hK (fun k hB hlt e=>hk k hB hlt (hx (by omega) e)) (fun k hlt e=>by rw [hc k hlt (hx (by omega) e)];exact e)
 ·rw [h7];exact h.p7.keep hK (fun k hB hlt e=>hk k hB hlt (hx (by omega) e)) (fun k hlt e=>by rw [hc k hlt (hx (by omega) e)];exact e)
 ·rw [h8];exact h.p8.keep hK (fun k hB hlt e=>hk k hB hlt (hx (by omega) e)) (fun k hlt e=>by rw [hc k hlt (hx (by omega) e)];exact e)
structure iD (B b:Nat) (W:World) (m:AP) (ln:Nat) (fs:List GR) (f:GR) (lo:Nat) (col:Nat→Nat) (v1 v2 v3 v7 v8:Value) (A:Option Addr) (c:Nat) (cells:List Value) (vc:Value):Prop where
 blk:AL W b 104 [v1,v2,v3,.int .i64 m.first,.int .i64 m.most,.slice A (fs.length+1) c,v7,v8,.int .i64 6,.int .i64 ln]
 five:Five B col W v1 v2 v3 v7 v8 m
 fn:FnO B lo col W A c cells vc fs f
 fns:m.fns=fs++ [f]
 low:b<B
 top:B≤W.heap.size
 first:Rd.ER m.first
 most:Rd.ER m.most
def JW (B b:Nat) (W:World) (m:AP) (ln:Nat):Prop:= ∃fs f lo col v1 v2 v3 v7 v8 A c cells vc,iD B b W m ln fs f lo col v1 v2 v3 v7 v8 A c cells vc
theorem iD.close {B b:Nat} {W:World} {m:AP} {ln:Nat} {fs:List GR} {f:GR} {lo:Nat} {col:Nat→Nat} {v1 v2 v3 v7 v8:Value} {A:Option Addr} {c:Nat} {cells:List Value} {vc:Value} (h:iD B b W m ln fs f lo col v1 v2 v3 v7 v8 A c cells vc):
 OL B b W (fun k=>if lo≤k then 6 else col k) v1 v2 v3 (.slice A (fs.length+1) c) v7 v8 m 6 ln:=by
 have hF:=h.fn
 have hlow: ∀k,k<W.heap.size→(col k=1∨col k=2∨col k=3∨col k=7∨col k=8)→ ¬lo≤k:=fun k hk hc hl=>by
  have:=hF.new k hl hk
  omega
 have h5:=h.five.keep (m':=m) (K:=fun _=>True) (Keep.refl _ W) (fun _ _ _ _=>trivial) (fun k=>if lo≤k then 6 else col k) (fun k hk hc=>if_neg (hlow k hk hc)) rfl rfl rfl rfl rfl
 refine⟨h.blk,⟨h5.p1,h5.p2,h5.p3,⟨A,c,cells++ [.int .i64 f.t,.string f.loc,vc],?_,?_⟩,h5.p7,h5.p8⟩,h.low,h.top,h.first,h.most⟩
 ·rw [h.fns,List.length_append];rfl
 have hlen:m.fns.length=fs.length+1:=by rw [h.fns,List.length_append];rfl
 have hcl:cells.length=fs.length*3:=by
  have:=hF.own.1
  rw [List.length_append] at this
  simp at this
  omega
 refine⟨by rw [hlen];exact hF.own,rfl,fun g hg=> ?_,fun k x hk=> ?_⟩
 ·rw [hlen] at hg
  have:=hF.at_ g hg
  show(if lo≤g then 6 else col g)=6
  rw [if_neg (by omega)]
  exact this.1
 ·rw [h.fns,List.getElem?_append] at hk
  rw [hlen]
  split at hk
  ·rename_i hlt
   obtain⟨l,hh,g1,g2,g3,g4,g5⟩:=hF.els k x hk
   refine⟨l,hh,g1,Nat.le_trans g2 hF.vo,g3,fun g ha hb=> ?_,?_⟩
   ·show(if lo≤g then 6 else col g)=6
    rw [if_neg (by omega)]
    exact g4 g ha hb
   ·show Rt.R W l hh (((cells++_).drop (k*3)).take 3) x
    rw [List.drop_append_of_le_length (by omega),List.take_append_of_le_length (by rw [List.length_drop];omega)]
    exact g5
  ·rename_i hge
   have hk0:k=fs.length:=by
    have:=(List.getElem?_eq_some_iff.1 hk).1
    simp at this;omega
   subst hk0
   rw [Nat.sub_self] at hk
   simp at hk
   subst hk
   refine⟨lo,W.heap.size,hF.lo_,Nat.le_refl _,fun g hg=> .inl (hF.at_ g hg).2,fun g ha hb=>if_pos ha,?_⟩
   show Rt.R W lo W.heap.size (((cells++_).drop (fs.length*3)).take 3) f
   rw [←hcl,List.drop_left' rfl]
   exact LG.2 ⟨vc,rfl,hF.t,hF.loc,hF.code.reads⟩
theorem JW.close {B b:Nat} {W:World} {m:AP} {ln:Nat} (h:JW B b W m ln):Ru B b W m 6 ln:=by
 obtain⟨fs,f,lo,col,v1,v2,v3,v7,v8,A,c,cells,vc,h⟩:=h
 exact⟨_,v1,v2,v3,_,v7,v8,h.close⟩
def Qt (B b:Nat) (W:World) (r:Ka) (ln:Nat):Prop:=(r.st≠6∧Ru B b W r.m r.st ln)∨(r.st=6∧JW B b W r.m ln)
theorem Qt.close {B b:Nat} {W:World} {r:Ka} {ln:Nat} (h:Qt B b W r ln):Ru B b W r.m r.st ln:=by
 rcases h with⟨_,h⟩ | ⟨h0,h⟩
 ·exact h
 ·rw [h0];exact h.close
theorem OL.reads {B b:Nat} {W:World} {col:Nat→Nat} {v1 v2 v3 v6 v7 v8:Value} {m:AP} {st ln:Nat} (h:OL B b W col v1 v2 v3 v6 v7 v8 m st ln):JQ.R W B W.heap.size [v1,v2,v3,.int .i64 m.first,.int .i64 m.most,v6,v7,v8] m:=
 EK.2 ⟨v1,v2,v3,v6,v7,v8,rfl,h.six.p1.reads,h.six.p2.reads,h.six.p3.reads,h.first,h.most,h.six.p6.reads,h.six.p7.reads,h.six.p8.reads⟩
def Jd (Inv:World→AP→Prop) (B b:Nat) (w:World) (res:Option AP) (e:Ending) (w':World):Prop:=
 (res=none∧e= .panicked QT∧Below w.heap.size w w')∨ ∃m',res=some m'∧e= .returned (.tuple #[])∧Keep (fun k=>k<B∧k≠b) w w'∧Inv w' m'
theorem J7 {b:Nat} {w w3 w4:World} {v:Value} (hb:Below w.heap.size w w3) (hg:w3.grownBy w4 v.ownBlock) (p:Nat) (u:Value):Keep (fun k=>k≠b∧v.ownBlock≠some k) w (w4.setCell ⟨b,p,none⟩ u):=
 ((Keep.Aq hb |>.mono (K':=fun k=>(k≠b∧v.ownBlock≠some k)∧k<w.heap.size) (fun k h=>h.2) |>.Dt (fun k hk h=>⟨h,hk⟩)).grown hg (fun k hk h=>h.2 hk)).setCell (p:=⟨b,p,none⟩) (fun h=>h.1 rfl) u
section
variable {B b:Nat} {w w3 w4:World} {col:Nat→Nat} {v1 v2 v3 v6 v7 v8:Value} {m:AP} {st ln:Nat}
theorem OL.eF {A:Option Addr} {c:Nat} {cells:List Value} (h:OL B b w col (.slice A m.types.length c) v2 v3 v6 v7 v8 m st ln) (hP:Gc LD 51 B (fun k=>col k=1) w A m.types.length c cells m.types)
 (hb:Below w.heap.size w w3) {A':Option Addr} {c' lo hi:Nat} {cs:List Value} {x:DI} (hr:LD.R w3 lo hi cs x) (hlo:w.heap.size≤lo) (hhi:hi≤w3.heap.size)
 (ho:w4.ownsRow B 51 LD.z (.slice A' (m.types.length+1) c') (m.types.length+1) (cells++cs)) (hg:w3.grownBy w4 (Value.slice A m.types.length c).ownBlock) (hat:(Value.slice A' (m.types.length+1) c').ownBlock=(Value.slice A m.types.length c).ownBlock∨(Value.slice A' (m.types.length+1) c').ownBlock=some w3.heap.size):
 Keep (fun k=>k<B∧k≠b) w (w4.setCell ⟨b,0,none⟩ (.slice A' (m.types.length+1) c'))∧Ru B b (w4.setCell ⟨b,0,none⟩ (.slice A' (m.types.length+1) c')) {m with types:=m.types++ [x]} st ln:=by
 have hK:=J7 (b:=b) hb hg 0 (.slice A' (m.types.length+1) c')
 have hB:=h.top
 have hown:=hP.lt
 have hlow:=h.low
 refine⟨hK.mono fun k hk=>⟨hk.2,fun e=>by have:=(hown k e).1;omega⟩,?_⟩
 have hsn:=hP.snoc hb hB hr hlo hhi ho hg hat (S':=fun k=>Dy w col 1 k=1) (fun k hk e=>AV hk e) (fun k hk=>EY hk)
 have h5:Keep (fun k=>k≠b) w4 (w4.setCell ⟨b,0,none⟩ (.slice A' (m.types.length+1) c')):=(Keep.refl _ w4).setCell (p:=⟨b,0,none⟩) (fun e=>e rfl) _
 have hl:(m.types++ [x]).length=m.types.length+1:=by rw [List.length_append];rfl
 have Ml:J6 LD 51 B (fun k=>Dy w col 1 k=1) (w4.setCell ⟨b,0,none⟩ (.slice A' (m.types.length+1) c')) (.slice A' (m.types.length+1) c') (m.types++ [x]):=
  ⟨A',c',_,by rw [hl],by rw [hl];exact hsn.keep h5 (fun k hk _ _=>by omega) (fun k _ e=>e)⟩
 have Mq:=h.six.AAs hK (fun k UA hk h1 _=>⟨by omega,fun e=>h1 (hP.at_ k e)⟩) Ml
 have hbl:AL w4 b 104 [.slice A m.types.length c,v2,v3,.int .i64 m.first,.int .i64 m.most,v6,v7,v8,.int .i64 st,.int .i64 ln]:=(hg.block b (Nat.lt_of_lt_of_le h.blk.lt hb.size) (fun e=>by have:=(hown b e.symm).1;omega)).trans (h.blk.below hb h.blk.lt)
 exact⟨_,_,v2,v3,v6,v7,v8,hbl.set 0 _,Mq,hlow,Nat.le_trans hB hK.size,h.first,h.most⟩
theorem OL.Y3 {A:Option Addr} {c:Nat} {cells:List Value} (h:OL B b w col v1 (.slice A m.hosts.length c) v3 v6 v7 v8 m st ln) (hP:Gc Rd.i64 3 B (fun k=>col k=2) w A m.hosts.length c cells m.hosts)
 (hb:Below w.heap.size w w3) {A':Option Addr} {c' lo hi:Nat} {cs:List Value} {x:Int} (hr:Rd.i64.R w3 lo hi cs x) (hlo:w.heap.size≤lo) (hhi:hi≤w3.heap.size)
 (ho:w4.ownsRow B 3 Rd.i64.z (.slice A' (m.hosts.length+1) c') (m.hosts.length+1) (cells++cs)) (hg:w3.grownBy w4 (Value.slice A m.hosts.length c).ownBlock) (hat:(Value.slice A' (m.hosts.length+1) c').ownBlock=(Value.slice A m.hosts.length c).ownBlock∨(Value.slice A' (m.hosts.length+1) c').ownBlock=some w3.heap.size):
 Keep (fun k=>k<B∧k≠b) w (w4.setCell ⟨b,1,none⟩ (.slice A' (m.hosts.length+1) c'))∧Ru B b (w4.setCell ⟨b,1,none⟩ (.slice A' (m.hosts.length+1) c')) {m with hosts:=m.hosts++ [x]} st ln:=by
 have hK:=J7 (b:=b) hb hg 1 (.slice A' (m.hosts.length+1) c')
 have hB:=h.top
 have hown:=hP.lt
 have hlow:=h.low
 refine⟨hK.mono fun k hk=>⟨hk.2,fun e=>by have:=(hown k e).1;omega⟩,?_⟩
 have hsn:=hP.snoc hb hB hr hlo hhi ho hg hat (S':=fun k=>Dy w col 2 k=2) (fun k hk e=>AV hk e) (fun k hk=>EY hk)
 have h5:Keep (fun k=>k≠b) w4 (w4.setCell ⟨b,1,none⟩ (.slice A' (m.hosts.length+1) c')):=(Keep.refl _ w4).setCell (p:=⟨b,1,none⟩) (fun e=>e rfl) _
 have hl:(m.hosts++ [x]).length=m.hosts.length+1:=by rw [List.length_append];rfl
 have Ml:J6 Rd.i64 3 B (fun k=>Dy w col 2 k=2) (w4.setCell ⟨b,1,none⟩ (.slice A' (m.hosts.length+1) c')) (.slice A' (m.hosts.length+1) c') (m.hosts++ [x]):=
  ⟨A',c',_,by rw [hl],by rw [hl];exact hsn.keep h5 (fun k hk _ _=>by omega) (fun k _ e=>e)⟩
 have Mq:=h.six.AAt hK (fun k UA hk h1 _=>⟨by omega,fun e=>h1 (hP.at_ k e)⟩) Ml
 have hbl:AL w4 b 104 [v1,.slice A m.hosts.length c,v3,.int .i64 m.first,.int .i64 m.most,v6,v7,v8,.int .i64 st,.int .i64 ln]:=(hg.block b (Nat.lt_of_lt_of_le h.blk.lt hb.size) (fun e=>by have:=(hown b e.symm).1;omega)).trans (h.blk.below hb h.blk.lt)
 exact⟨_,v1,_,v3,v6,v7,v8,hbl.set 1 _,Mq,hlow,Nat.le_trans hB hK.size,h.first,h.most⟩
theorem OL.Uu {A:Option Addr} {c:Nat} {cells:List Value} (h:OL B b w col v1 v2 (.slice A m.globs.length c) v6 v7 v8 m st ln) (hP:Gc Jf 82 B (fun k=>col k=3) w A m.globs.length c cells m.globs)
 (hb:Below w.heap.size w w3) {A':Option Addr} {c' lo hi:Nat} {cs:List Value} {x:EJ} (hr:Jf.R w3 lo hi cs x) (hlo:w.heap.size≤lo) (hhi:hi≤w3.heap.size)
 (ho:w4.ownsRow B 82 Jf.z (.slice A' (m.globs.length+1) c') (m.globs.length+1) (cells++cs)) (hg:w3.grownBy w4 (Value.slice A m.globs.length c).ownBlock) (hat:(Value.slice A' (m.globs.length+1) c').ownBlock=(Value.slice A m.globs.length c).ownBlock∨(Value.slice A' (m.globs.length+1) c').ownBlock=some w3.heap.size):
 Keep (fun k=>k<B∧k≠b) w (w4.setCell ⟨b,2,none⟩ (.slice A' (m.globs.length+1) c'))∧Ru B b (w4.setCell ⟨b,2,none⟩ (.slice A' (m.globs.length+1) c')) {m with globs:=m.globs++ [x]} st ln:=by
 have hK:=J7 (b:=b) hb hg 2 (.slice A' (m.globs.length+1) c')
 have hB:=h.top
 have hown:=hP.lt
 have hlow:=h.low
 refine⟨hK.mono fun k hk=>⟨hk.2,fun e=>by have:=(hown k e).1;omega⟩,?_⟩
 have hsn:=hP.snoc hb hB hr hlo hhi ho hg hat (S':=fun k=>Dy w col 3 k=3) (fun k hk e=>AV hk e) (fun k hk=>EY hk)
 have h5:Keep (fun k=>k≠b) w4 (w4.setCell ⟨b,2,none⟩ (.slice A' (m.globs.length+1) c')):=(Keep.refl _ w4).setCell (p:=⟨b,2,none⟩) (fun e=>e rfl) _
 have hl:(m.globs++ [x]).length=m.globs.length+1:=by rw [List.length_append];rfl
 have Ml:J6 Jf 82 B (fun k=>Dy w col 3 k=3) (w4.setCell ⟨b,2,none⟩ (.slice A' (m.globs.length+1) c')) (.slice A' (m.globs.length+1) c') (m.globs++ [x]):=
  ⟨A',c',_,by rw [hl],by rw [hl];exact hsn.keep h5 (fun k hk _ _=>by omega) (fun k _ e=>e)⟩
 have Mq:=h.six.AAu hK (fun k UA hk h1 _=>⟨by omega,fun e=>h1 (hP.at_ k e)⟩) Ml
 have hbl:AL w4 b 104 [v1,v2,.slice A m.globs.length c,.int .i64 m.first,.int .i64 m.most,v6,v7,v8,.int .i64 st,.int .i64 ln]:=(hg.block b (Nat.lt_of_lt_of_le h.blk.lt hb.size) (fun e=>by have:=(hown b e.symm).1;omega)).trans (h.blk.below hb h.blk.lt)
 exact⟨_,v1,v2,_,v6,v7,v8,hbl.set 2 _,Mq,hlow,Nat.le_trans hB hK.size,h.first,h.most⟩
theorem OL.Y4 {A:Option Addr} {c:Nat} {cells:List Value} (h:OL B b w col v1 v2 v3 v6 (.slice A m.dat.length c) v8 m st ln) (hP:Gc JC 59 B (fun k=>col k=7) w A m.dat.length c cells m.dat)
 (hb:Below w.heap.size w w3) {A':Option Addr} {c' lo hi:Nat} {cs:List Value} {x:EU} (hr:JC.R w3 lo hi cs x) (hlo:w.heap.size≤lo) (hhi:hi≤w3.heap.size)
 (ho:w4.ownsRow B 59 JC.z (.slice A' (m.dat.length+1) c') (m.dat.length+1) (cells++cs)) (hg:w3.grownBy w4 (Value.slice A m.dat.length c).ownBlock) (hat:(Value.slice A' (m.dat.length+1) c').ownBlock=(Value.slice A m.dat.length c).ownBlock∨(Value.slice A' (m.dat.length+1) c').ownBlock=some w3.heap.size):
 Keep (fun k=>k<B∧k≠b) w (w4.setCell ⟨b,6,none⟩ (.slice A' (m.dat.length+1) c'))∧Ru B b (w4.setCell ⟨b,6,none⟩ (.slice A' (m.dat.length+1) c')) {m with dat:=m.dat++ [x]} st ln:=by
 have hK:=J7 (b:=b) hb hg 6 (.slice A' (m.dat.length+1) c')
 have hB:=h.top
 have hown:=hP.lt
 have hlow:=h.low
 refine⟨hK.mono fun k hk=>⟨hk.2,fun e=>by have:=(hown k e).1;omega⟩,?_⟩
 have hsn:=hP.snoc hb hB hr hlo hhi ho hg hat (S':=fun k=>Dy w col 7 k=7) (fun k hk e=>AV hk e) (fun k hk=>EY hk)
 have h5:Keep (fun k=>k≠b) w4 (w4.setCell ⟨b,6,none⟩ (.slice A' (m.dat.length+1) c')):=(Keep.refl _ w4).setCell (p:=⟨b,6,none⟩) (fun e=>e rfl) _
 have hl:(m.dat++ [x]).length=m.dat.length+1:=by rw [List.length_append];rfl
 have Ml:J6 JC 59 B (fun k=>Dy w col 7 k=7) (w4.setCell ⟨b,6,none⟩ (.slice A' (m.dat.length+1) c')) (.slice A' (m.dat.length+1) c') (m.dat++ [x]):=
  ⟨A',c',_,by rw [hl],by rw [hl];exact hsn.keep h5 (fun k hk _ _=>by omega) (fun k _ e=>e)⟩
 have Mq:=h.six.AAv hK (fun k UA hk h1 _=>⟨by omega,fun e=>h1 (hP.at_ k e)⟩) Ml
 have hbl:AL w4 b 104 [v1,v2,v3,.int .i64 m.first,.int .i64 m.most,v6,.slice A m.dat.length c,v8,.int .i64 st,.int .i64 ln]:=(hg.block b (Nat.lt_of_lt_of_le h.blk.lt hb.size) (fun e=>by have:=(hown b e.symm).1;omega)).trans (h.blk.below hb h.blk.lt)
 exact⟨_,v1,v2,v3,v6,_,v8,hbl.set 6 _,Mq,hlow,Nat.le_trans hB hK.size,h.first,h.most⟩
theorem OL.Y5 {A:Option Addr} {c:Nat} {cells:List Value} (h:OL B b w col v1 v2 v3 v6 v7 (.slice A m.AU.length c) m st ln) (hP:Gc Lf 61 B (fun k=>col k=8) w A m.AU.length c cells m.AU)
 (hb:Below w.heap.size w w3) {A':Option Addr} {c' lo hi:Nat} {cs:List Value} {x:Jy} (hr:Lf.R w3 lo hi cs x) (hlo:w.heap.size≤lo) (hhi:hi≤w3.heap.size)
 (ho:w4.ownsRow B 61 Lf.z (.slice A' (m.AU.length+1) c') (m.AU.length+1) (cells++cs)) (hg:w3.grownBy w4 (Value.slice A m.AU.length c).ownBlock) (hat:(Value.slice A' (m.AU.length+1) c').ownBlock=(Value.slice A m.AU.length c).ownBlock∨(Value.slice A' (m.AU.length+1) c').ownBlock=some w3.heap.size):
 Keep (fun k=>k<B∧k≠b) w (w4.setCell ⟨b,7,none⟩ (.slice A' (m.AU.length+1) c'))∧Ru B b (w4.setCell ⟨b,7,none⟩ (.slice A' (m.AU.length+1) c')) {m with AU:=m.AU++ [x]} st ln:=by
 have hK:=J7 (b:=b) hb hg 7 (.slice A' (m.AU.length+1) c')
 have hB:=h.top
 have hown:=hP.lt
 have hlow:=h.low
 refine⟨hK.mono fun k hk=>⟨hk.2,fun e=>by have:=(hown k e).1;omega⟩,?_⟩
 have hsn:=hP.snoc hb hB hr hlo hhi ho hg hat (S':=fun k=>Dy w col 8 k=8) (fun k hk e=>AV hk e) (fun k hk=>EY hk)
 have h5:Keep (fun k=>k≠b) w4 (w4.setCell ⟨b,7,none⟩ (.slice A' (m.AU.length+1) c')):=(Keep.refl _ w4).setCell (p:=⟨b,7,none⟩) (fun e=>e rfl) _
 have hl:(m.AU++ [x]).length=m.AU.length+1:=by rw [List.length_append];rfl
 have Ml:J6 Lf 61 B (fun k=>Dy w col 8 k=8) (w4.setCell ⟨b,7,none⟩ (.slice A' (m.AU.length+1) c')) (.slice A' (m.AU.length+1) c') (m.AU++ [x]):=
  ⟨A',c',_,by rw [hl],by rw [hl];exact hsn.keep h5 (fun k hk _ _=>by omega) (fun k _ e=>e)⟩
 have Mq:=h.six.AAw hK (fun k UA hk h1 _=>⟨by omega,fun e=>h1 (hP.at_ k e)⟩) Ml
 have hbl:AL w4 b 104 [v1,v2,v3,.int .i64 m.first,.int .i64 m.most,v6,v7,.slice A m.AU.length c,.int .i64 st,.int .i64 ln]:=(hg.block b (Nat.lt_of_lt_of_le h.blk.lt hb.size) (fun e=>by have:=(hown b e.symm).1;omega)).trans (h.blk.below hb h.blk.lt)
 exact⟨_,v1,v2,v3,v6,v7,_,hbl.set 7 _,Mq,hlow,Nat.le_trans hB hK.size,h.first,h.most⟩
end
theorem ZF (fs:List GR) (f:GR) (x:DL):GJ (fs++ [f]) x=fs++ [{f with code:=f.code++ [x]}]:=by
 unfold GJ
 rw [List.getLast?_concat,List.dropLast_concat]
theorem FnO.XW {B lo:Nat} {col:Nat→Nat} {W w3 w4:World} {gF c:Nat} {cells:List Value} {vc:Value} {fs:List GR} {f:GR} (h:FnO B lo col W (some ⟨gF,0,none⟩) c cells vc fs f) (hb:Below W.heap.size W w3) {v:Value} (hg:w3.grownBy w4 v.ownBlock) (hv: ∀g,v.ownBlock=some g→lo≤g∧g<W.heap.size):
 w4.frozen? ⟨gF,fs.length*3+2,none⟩=false∧w4.cell? ⟨gF,fs.length*3+2,none⟩=some vc:=by
 have h1:=BI h.own hb
 have h2:=h1.kept hg (.inr (fun e=>by
  have e2:v.ownBlock=some gF:=e.symm
  have:=(hv gF e2).1
  have:=(h.at_ gF rfl).2
  omega))
 have hcl:cells.length=fs.length*3:=by
  have:=h.own.1
  rw [List.length_append] at this
  simp at this
  omega
 constructor
 ·rcases h2.2 with⟨_,h0⟩ | ⟨g,cap,cur,hv,_,hg,_⟩
  ·omega
  ·injection hv with e1
   injection e1 with e1
   injection e1 with e1
   subst e1
   exact AL.frozen (xs:=cur.toList) (t:=56) hg _
 ·have:=h2.cells (g:=gF) rfl (fs.length*3+2) vc (by rw [List.getElem?_append,if_neg (by omega),show fs.length*3+2-cells.length=2 by omega];rfl)
  rwa [Addr.add_lit,Nat.zero_add] at this
section
variable {B b:Nat} {w w3 w4:World} {m:AP} {ln:Nat} {fs:List GR} {f:GR} {lo:Nat} {col:Nat→Nat} {v1 v2 v3 v7 v8:Value} {gF c:Nat} {cells:List Value}
theorem iD.push (vc:Value) {Ac:Option Addr} {cc:Nat} {Gd:List Value} (h:iD B b w m ln fs f lo col v1 v2 v3 v7 v8 (some ⟨gF,0,none⟩) c cells (.slice Ac f.code.length cc)) (hP:Gc JA 53 lo (fun _=>True) w Ac f.code.length cc Gd f.code)
 (hb:Below w.heap.size w w3) {A':Option Addr} {c' l1 h1:Nat} {cs:List Value} {x:DL} (hr:JA.R w3 l1 h1 cs x) (hlo:w.heap.size≤l1) (hhi:h1≤w3.heap.size)
 (ho:w4.ownsRow lo 53 3 (.slice A' (f.code.length+1) c') (f.code.length+1) (Gd++cs)) (hg:w3.grownBy w4 (Value.slice Ac f.code.length cc).ownBlock) (hat:(Value.slice A' (f.code.length+1) c').ownBlock=(Value.slice Ac f.code.length cc).ownBlock∨(Value.slice A' (f.code.length+1) c').ownBlock=some w3.heap.size):
 Keep (fun k=>k<B∧k≠b) w (w4.setCell ⟨gF,fs.length*3+2,none⟩ (.slice A' (f.code.length+1) c'))∧JW B b (w4.setCell ⟨gF,fs.length*3+2,none⟩ (.slice A' (f.code.length+1) c')) {m with fns:=GJ m.fns x} ln:=by
 have hF:=h.fn
 have hlow:=h.low
 have htop:=h.top
 have aY:=hF.at_ gF rfl
 have hgB:B≤gF:=(hF.own.lt gF rfl).1
 have hK:=J7 (b:=gF) hb hg (fs.length*3+2) (.slice A' (f.code.length+1) c')
 have hcb: ∀k,(Value.slice Ac f.code.length cc).ownBlock=some k→lo≤k∧k<w.heap.size:=fun k e=>hP.lt k e
 have hlB:=hF.lo_
 have YP:=hF.vo
 have nA:w3.heap.size≤w4.heap.size:=hg.size
 have iK:=hb.size
 have hKB: ∀k,k<w.heap.size→k<lo→k≠gF→(k≠gF∧(Value.slice Ac f.code.length cc).ownBlock≠some k):=fun k h1 h2 h3=>⟨h3,fun e=>by have:=(hcb k e).1;omega⟩
 refine⟨hK.Dt fun k hk hk2=>hKB k hk (by omega) (by omega),?_⟩
 have eP: ∀k,k<w.heap.size→Dy w col 9 k=col k:=fun k hk=>AV hk rfl
 have hc9: ∀k,k<w.heap.size→(col k=1∨col k=2∨col k=3∨col k=7∨col k=8∨col k=6)→k<lo:=fun k hk hc=>by
  refine Decidable.byContradiction fun hn=> ?_
  have:=hF.new k (by omega) hk
  omega
 have hsn:=hP.snoc hb (Nat.le_trans (Nat.le_refl _) YP) hr hlo hhi ho hg hat (S':=fun _=>True) (fun _ _ _=>trivial) (fun _ _=>trivial)
 have hrow:w4.ownsRow B 56 3 (.slice (some ⟨gF,0,none⟩) (fs.length+1) c) (fs.length+1) (cells++ [.int .i64 f.t,.string f.loc,.slice Ac f.code.length cc]):=by
  have h1:=BI hF.own hb
  exact h1.kept hg (.inr (fun e=>by
   have e2:(Value.slice Ac f.code.length cc).ownBlock=some gF:=e.symm
   have:=(hcb gF e2).1
   omega))
 have hst:=hrow.stored (fs.length*3+2) (.slice A' (f.code.length+1) c')
 have hcl:cells.length=fs.length*3:=by
  have:=hF.own.1
  rw [List.length_append] at this
  simp at this
  omega
 have hset:(cells++ [Value.int .i64 f.t,.string f.loc,.slice Ac f.code.length cc]).set (fs.length*3+2) (.slice A' (f.code.length+1) c')=cells++ [.int .i64 f.t,.string f.loc,.slice A' (f.code.length+1) c']:=by
  rw [List.set_append,if_neg (by omega),show fs.length*3+2-cells.length=2 by omega]
  rfl
 rw [hset] at hst
 have hl1:(f.code++ [x]).length=f.code.length+1:=by rw [List.length_append];rfl
 have hblk:AL (w4.setCell ⟨gF,fs.length*3+2,none⟩ (.slice A' (f.code.length+1) c')) b 104 [v1,v2,v3,.int .i64 m.first,.int .i64 m.most,.slice (some ⟨gF,0,none⟩) (fs.length+1) c,v7,v8,.int .i64 (6:Nat),.int .i64 ln]:=
  h.blk.keep hK ⟨by omega,fun e=>by have:=(hcb b e).1;omega⟩
 refine⟨fs,{f with code:=f.code++ [x]},lo,Dy w col 9,v1,v2,v3,v7,v8,some ⟨gF,0,none⟩,c,cells,.slice A' (f.code.length+1) c',⟨hblk,?_,⟨hst.1,?_,?_,hF.t,hF.loc,?_,hlB,Nat.le_trans YP hK.size,?_⟩,?_,hlow,Nat.le_trans htop hK.size,h.first,h.most⟩⟩
 ·exact h.five.keep hK (fun k UA hk hc=>hKB k hk (hc9 k hk (by omega)) (fun e=>by rw [e] at hc;omega)) _ (fun k hk _=>eP k hk) rfl rfl rfl rfl rfl
 ·intro g hg'
  have:=hF.at_ g hg'
  exact⟨by rw [eP g (by omega)];exact this.1,this.2⟩
 ·intro k y hk
  obtain⟨l,hh,g1,g2,g3,g4,g5⟩:=hF.els k y hk
  refine⟨l,hh,g1,g2,g3,fun g ha hb'=>by rw [eP g (by omega)];exact g4 g ha hb',?_⟩
  refine Rd.GX (K:=fun k=>k≠gF∧(Value.slice Ac f.code.length cc).ownBlock≠some k) g5 hK (by omega) (fun k ha hb'=>hKB k (by omega) (by omega) (fun e=> ?_))
  have:=g3 gF rfl
  omega
 ·refine⟨A',c',Gd++cs,by show _=Value.slice A' (f.code++ [x]).length c';rw [hl1],?_⟩
  show Gc JA 53 lo _ _ A' (f.code++ [x]).length c' (Gd++cs) (f.code++ [x])
  rw [hl1]
  refine hsn.keep (K:=fun k=>k≠gF) ((Keep.refl _ w4).setCell (p:=⟨gF,fs.length*3+2,none⟩) (fun e=>e rfl) _) (fun k hk _ _=>by omega) (fun k _ e=>e)
 ·intro k hk hk2
  by_cases h2:k<w.heap.size
  ·rw [eP k h2];exact hF.new k hk h2
  ·exact EY (by omega)
 ·show GJ m.fns x=_
  rw [h.fns,ZF]
end
theorem Qu:(prog.info? 3).map (fun i=>(i.zero,i.size,i.bytes))=some (some (.int .i64 0),1,8):=by kernel_rfl
theorem Y6:(prog.info? 61).map (fun i=>(i.zero,i.size,i.bytes))=some (some (.agg #[.string ⟨#[]⟩,.int .i64 0]),2,24):=by kernel_rfl
theorem OL.old {B b:Nat} {w w3 w4:World} {col:Nat→Nat} {v1 v2 v3 v6 v7 v8:Value} {m:AP} {st ln:Nat} (h:OL B b w col v1 v2 v3 v6 v7 v8 m st ln) (hb:Below w.heap.size w w3) {v:Value} (hg:w3.grownBy w4 v.ownBlock) (hv: ∀g,v.ownBlock=some g→B≤g):
 AL w4 b 104 [v1,v2,v3,.int .i64 m.first,.int .i64 m.most,v6,v7,v8,.int .i64 st,.int .i64 ln]:=
 (hg.block b (Nat.lt_of_lt_of_le h.blk.lt hb.size) (fun e=>by have:=hv b e.symm;have:=h.low;omega)).trans (h.blk.below hb h.blk.lt)
structure Uv (B b A hi:Nat) (w:World) (col:Nat→Nat) (v1 v2 v3 v6 v7 v8:Value) (m:AP) (st ln:Nat) (ws:List ByteArray):Prop where
 rd:OL B b w col v1 v2 v3 v6 v7 v8 m st ln
 wd:ED w A ws
 env:Dv hi w
 hhi:hi≤b
 lens:Lens m 4194304
 ne:A≠b
theorem len2 {ws:List ByteArray} (h:ws.length=2): ∃a b,ws= [a,b]:=by
 rcases ws with _ | ⟨a,_ | ⟨b,_ | ⟨c,t⟩⟩⟩<;>simp_all
theorem sK {ws:List ByteArray} (h:ws.length=3): ∃a b c,ws= [a,b,c]:=by
 rcases ws with _ | ⟨a,_ | ⟨b,_ | ⟨c,_ | ⟨d,t⟩⟩⟩⟩<;>simp_all
theorem len4 {ws:List ByteArray} (h:ws.length=4): ∃a b c d,ws= [a,b,c,d]:=by
 rcases ws with _ | ⟨a,_ | ⟨b,_ | ⟨c,_ | ⟨d,_ | ⟨e,t⟩⟩⟩⟩⟩<;>simp_all
section
variable {B b A hi:Nat} {w:World} {col:Nat→Nat} {v1 v2 v3 v6 v7 v8:Value} {m:AP} {st ln:Nat} {ws:List ByteArray}
theorem J8 {p k:Nat} (h:(p,k)∈ [(1,1),(3,2),(4,4),(5,3),(6,3),(7,3),(8,3)]) (h0:ws≠ []) (hk:ws.length≠k):Av p m ws.tail=none:=by
 simp only [List.mem_cons,Prod.mk.injEq,List.not_mem_nil,or_false] at h
 rcases h with⟨rfl,rfl⟩ | ⟨rfl,rfl⟩ | ⟨rfl,rfl⟩ | ⟨rfl,rfl⟩ | ⟨rfl,rfl⟩ | ⟨rfl,rfl⟩ | ⟨rfl,rfl⟩<;>
  rcases ws with _ | ⟨x0,_ | ⟨x1,_ | ⟨x2,_ | ⟨x3,_ | ⟨x4,t⟩⟩⟩⟩⟩<;>simp_all [Av]
theorem XR (h0:ws≠ []) (hk:ws.length≠1) (Inv:World→AP→Prop):
 Calls prog 88 #[.pointer (some ⟨b,0,none⟩),.slice (some ⟨A,0,none⟩) ws.length ws.length] w (Jd Inv B b w (Av 1 m ws.tail)):=by
 have HN:=AA (J8 (m:=m) (p:=1) (k:=1) (by decide) h0 hk)
 have HK:Hid (decide (ws.length=1)=false):=AA (decide_eq_false hk)
 clear h0 hk
 go_enter func88,ntmps88
 go_wp2_with fail
 refine(BU (some ⟨A,0,none⟩) ws.length ws.length 1 w).mono ?_
 rintro e w1 ⟨rfl,⟨h1,rfl⟩ | ⟨h1,rfl⟩⟩
 ·rw [HK.out] at h1;cases h1
 go_wp2_with fail
 exact⟨rfl,.inl ⟨HN.out,rfl,Below.refl _ _⟩⟩
theorem mZ (h:Uv B b A hi w col v1 v2 v3 v6 v7 v8 m st ln ws) (h0:ws≠ []):
 Calls prog 88 #[.pointer (some ⟨b,0,none⟩),.slice (some ⟨A,0,none⟩) ws.length ws.length] w (Jd (fun W m'=>Ru B b W m' st ln) B b w (Av 1 m ws.tail)):=by
 by_cases hk:ws.length=1
 case neg=>exact XR h0 hk _
 obtain⟨x0,rfl⟩:=List.length_eq_one_iff.1 hk
 have HR:=AA h.rd
 clear h h0 hk
 show Calls _ _ #[_,.slice _ 1 1] _ _
 go_enter func88,ntmps88
 go_wp2_with fail
 refine(BU (some ⟨A,0,none⟩) 1 1 1 w).mono ?_
 rintro e w1 ⟨rfl,D5⟩
 rcases D5 with⟨_,rfl⟩ | ⟨hf,_⟩
 case inr=>exact absurd hf (by decide)
 go_wp2_with fail
 go_end0
 exact .inr ⟨m,rfl,rfl,Keep.refl _ _,⟨_,_,_,_,_,_,_,HR.out⟩⟩
end
end Go.Proofs.YtejbcledkhioeaaGreatDoor
