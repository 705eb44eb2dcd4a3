/- Part 22 of the proof: VdR SnwB WireA SrdA -/
import Derived.Deep.MidRow
import Derived.Stop.BytesEq
import Derived.Test.YtlagonfamllgjaaGreatDoorR13
import Derived.Test.YtlagonfamllgjaaGreatDoorR21
namespace Go.Proofs.YtlagonfamllgjaaGreatDoor
set_option linter.unusedVariables false
set_option linter.unusedSimpArgs false
set_option maxRecDepth 100000
set_option maxHeartbeats 4000000
open Go.RowKit Tryz
theorem Sv {code:List Ad} {e:Int×Int} (h:ctl code= .inl e):e.1≠0:=PZ _ h
def Gw (W:World) (b:Nat):World:=((((W.setCell ⟨b,0,none⟩ (.slice none 0 0)).setCell ⟨b,1,none⟩ (.slice none 0 0)).setCell ⟨b,2,none⟩ (.slice none 0 0)).setCell ⟨b,3,none⟩ (.slice none 0 0)).setCell ⟨b,4,none⟩ (.int .i64 0)
theorem MK {w W:World} {n:Nat} (h:AQ W (n+1) 107 [.slice none 0 0,.slice none 0 0,.slice none 0 0,.slice none 0 0,.int .i64 0]) (hb:Below n w W):
 AQ (Gw W (n+1)) (n+1) 107 [.slice none 0 0,.slice none 0 0,.slice none 0 0,.slice none 0 0,.int .i64 0]∧Below n w (Gw W (n+1)):=by
 unfold Gw
 have h1:=h.set 0 (.slice none 0 0)
 have h2:=h1.set 1 (.slice none 0 0)
 have h3:=h2.set 2 (.slice none 0 0)
 have h4:=h3.set 3 (.slice none 0 0)
 have h5:=h4.set 4 (.int .i64 0)
 have c1:=hb.setCell (p:=⟨n+1,0,none⟩) (Nat.le_succ _) (.slice none 0 0)
 have c2:=c1.setCell (p:=⟨n+1,1,none⟩) (Nat.le_succ _) (.slice none 0 0)
 have c3:=c2.setCell (p:=⟨n+1,2,none⟩) (Nat.le_succ _) (.slice none 0 0)
 have c4:=c3.setCell (p:=⟨n+1,3,none⟩) (Nat.le_succ _) (.slice none 0 0)
 exact⟨h5,c4.setCell (p:=⟨n+1,4,none⟩) (Nat.le_succ _) (.int .i64 0)⟩
def Nv:Value:= .agg #[.slice none 0 0,.slice none 0 0,.slice none 0 0,.slice none 0 0,.int .i64 0]
def mD (m:AP) (f:Bt) (w:World) (e:Ending) (w':World):Prop:=Below w.heap.size w w'∧match Fv m f with
 | .inl q=>e= .returned (.tuple #[Nv,.int .i64 q.1,.int .i64 q.2])
 | .inr tb=> ∃cs:List Value,e= .returned (.tuple #[.agg cs.toArray,.int .i64 0,.int .i64 0])∧NU.R w' w.heap.size w'.heap.size cs tb
def Gx (W:World) (b:Nat) (a0 a1 a2 a3 a4:Value):World:=((((W.setCell ⟨b,0,none⟩ a0).setCell ⟨b,1,none⟩ a1).setCell ⟨b,2,none⟩ a2).setCell ⟨b,3,none⟩ a3).setCell ⟨b,4,none⟩ a4
theorem WV {w W:World} {n:Nat} {z0 z1 z2 z3 z4:Value} (a0 a1 a2 a3 a4:Value) (h:AQ W (n+1) 107 [z0,z1,z2,z3,z4]) (hb:Below n w W):
 AQ (Gx W (n+1) a0 a1 a2 a3 a4) (n+1) 107 [a0,a1,a2,a3,a4]∧Below n w (Gx W (n+1) a0 a1 a2 a3 a4)∧
 (∀(base:Nat) (e:TypeId) (v:Value) (k:Nat) (xs:List Value),n+1<base→W.ownsRow base e 1 v k xs→(Gx W (n+1) a0 a1 a2 a3 a4).ownsRow base e 1 v k xs)∧
 (∀(g:Nat) (t:TypeId) (xs:List Value),g≠n+1→AQ W g t xs→AQ (Gx W (n+1) a0 a1 a2 a3 a4) g t xs):=by
 unfold Gx
 have h1:=h.set 0 a0
 have h2:=h1.set 1 a1
 have h3:=h2.set 2 a2
 have h4:=h3.set 3 a3
 have h5:=h4.set 4 a4
 have c1:=hb.setCell (p:=⟨n+1,0,none⟩) (Nat.le_succ _) a0
 have c2:=c1.setCell (p:=⟨n+1,1,none⟩) (Nat.le_succ _) a1
 have c3:=c2.setCell (p:=⟨n+1,2,none⟩) (Nat.le_succ _) a2
 have c4:=c3.setCell (p:=⟨n+1,3,none⟩) (Nat.le_succ _) a3
 refine⟨h5,c4.setCell (p:=⟨n+1,4,none⟩) (Nat.le_succ _) a4,fun base e v k xs hl ho=> ?_,fun g t xs hg hk=> ?_⟩
 ·exact JX (JX (JX (JX (JX ho (p:=⟨n+1,0,none⟩) hl a0) (p:=⟨n+1,1,none⟩) hl a1) (p:=⟨n+1,2,none⟩) hl a2) (p:=⟨n+1,3,none⟩) hl a3) (p:=⟨n+1,4,none⟩) hl a4
 ·exact((((hk.far (p:=⟨n+1,0,none⟩) hg a0).far (p:=⟨n+1,1,none⟩) hg a1).far (p:=⟨n+1,2,none⟩) hg a2).far (p:=⟨n+1,3,none⟩) hg a3).far (p:=⟨n+1,4,none⟩) hg a4
theorem bT {W:World} {base g:Nat} {t:TypeId} {xs:List Value} {n:Nat} (hb:AQ W g t xs) (hg:base≤g) (hn:n=xs.length) (hm:n≤1000000):W.ownsRow base t 1 (.slice (some ⟨g,0,none⟩) n n) n xs:=by
 subst hn
 exact⟨by simp,.inr ⟨g,xs.length,xs.toArray,rfl,hg,hb,Nat.le_refl _,by unfold maxLen;omega,by simp,by simp⟩⟩
theorem YH {w:World} {base:Nat} {e:TypeId} {A:Option Addr} {n c:Nat} {xs:List ByteArray} (h:w.ownsRow base e 1 (.slice A n c) n (xs.map Value.string)) (hb: ∀x∈xs,Rd.PD x):
 (Rd.str.sl false).R w base w.heap.size [.slice A n c] xs:=by
 have hl:n=xs.length:=by have:=h.1;simpa using this.symm
 refine Rd.own false (r:=Rd.str) h hl fun k x hk=> ?_
 show(((xs.map Value.string).drop (k*1)).take 1)= [Value.string x]∧Rd.PD x
 have hlt:=(List.getElem?_eq_some_iff.1 hk)
 refine⟨?_,hb x (List.mem_of_getElem? hk)⟩
 rw [Nat.mul_one,←List.map_drop,List.drop_eq_getElem_cons hlt.1,hlt.2]
 rfl
theorem sS {W:World} {n b1 b2 N:Nat} {vS vF:Value} {sh:List ByteArray} {fl en el:List Int} {hg:Nat} (h0:W.ownsRow n 9 1 vS sh.length (sh.map Value.string)) (h1:W.ownsRow n 3 1 vF fl.length (fl.map iv)) (h2:AQ W b1 3 (en.map iv)) (h3:AQ W b2 3 (el.map iv))
 (e1:N=en.length) (e2:N=el.length) (hN:N≤2048) (g1:n≤b1) (g2:n≤b2) (hs: ∀s∈sh,s.size≤256) (hf: ∀v∈fl,-1≤v∧v≤256) (hE: ∀v∈en,-1≤v∧v<(N:Int)) (hL: ∀v∈el,-1≤v∧v<(N:Int)) (hh:hg≤256):
 NU.R W n W.heap.size [vS,.slice (some ⟨b1,0,none⟩) N N,.slice (some ⟨b2,0,none⟩) N N,vF,.int .i64 (hg:Int)] ⟨sh,en,el,fl,(hg:Int)⟩:=by
 obtain⟨A,c,rfl⟩:=CZ h0
 obtain⟨A',c',rfl⟩:=CZ h1
 refine Lc.2 ⟨_,_,_,_,rfl,YH h0 fun s hm=> ?_,MB (bT h2 g1 (by simp [e1]) (by omega)) fun v hm=> ?_,MB (bT h3 g2 (by simp [e2]) (by omega)) fun v hm=> ?_,MB h1 fun v hm=> ?_,?_⟩
 ·have:=hs s hm;unfold Rd.PD;omega
 ·have:=hE v hm;unfold Rd.Gd;omega
 ·have:=hL v hm;unfold Rd.Gd;omega
 ·have:=hf v hm;unfold Rd.Gd;omega
 ·show Rd.Gd (hg:Int)
  unfold Rd.Gd;omega
theorem gN {W:World} {base g:Nat} {t:TypeId} {v:Value} (hb:AQ W g t [v]) (hg:base≤g):W.ownsRow base t 1 (.slice (some ⟨g,0,none⟩) 1 1) 1 [v]:=
 ⟨rfl,.inr ⟨g,1,#[v],rfl,hg,hb,Nat.le_refl _,by unfold maxLen;omega,rfl,rfl⟩⟩
theorem ADO {w5:World} {lo g:Nat} {x:Fx} {m:AP} {f:Bt} {r:ByteArray} (hr:(CG m f.t).r=r) (hx:x.ext= []) (hl:lo≤g)
 (h:AQ w5 g 172 [x.m0,x.m1,x.m2,x.m3,x.m4,x.m5,x.m6,x.m7,.string x.sp,.string x.sr,.string x.loc,x.code,.slice none 0 0,x.ends,x.AB,.slice none 0 0,.int .i64 0,.slice none 0 0,.string ⟨#[]⟩,.bool false,.int .i64 0]):
 Wk (((w5.setCell ⟨g,17,none⟩ (.slice (some ⟨w5.heap.size+1,0,none⟩) 1 1)).alloc (.cells #[.string ⟨#[]⟩,.string r,.int .i64 (-1),.int .u8 0,.string ⟨#[]⟩] 175)).alloc (.cells #[.pointer (some ⟨w5.heap.size,0,none⟩)] 173)) lo g x (CO m f) 0∧
 Below lo w5 (((w5.setCell ⟨g,17,none⟩ (.slice (some ⟨w5.heap.size+1,0,none⟩) 1 1)).alloc (.cells #[.string ⟨#[]⟩,.string r,.int .i64 (-1),.int .u8 0,.string ⟨#[]⟩] 175)).alloc (.cells #[.pointer (some ⟨w5.heap.size,0,none⟩)] 173)):=by
 have hlt:=h.lt
 have k1:=h.set 17 (.slice (some ⟨w5.heap.size+1,0,none⟩) 1 1)
 have hb1:Below lo w5 (w5.setCell ⟨g,17,none⟩ (.slice (some ⟨w5.heap.size+1,0,none⟩) 1 1)):=(Below.refl _ _).setCell hl _
 have hz1:(w5.setCell ⟨g,17,none⟩ (.slice (some ⟨w5.heap.size+1,0,none⟩) 1 1)).heap.size=w5.heap.size:=by simp
 generalize w5.setCell ⟨g,17,none⟩ (.slice (some ⟨w5.heap.size+1,0,none⟩) 1 1)=W1 at k1 hb1 hz1⊢
 have o1:=AQ.new W1 175 [.string ⟨#[]⟩,.string r,.int .i64 (-1),.int .u8 0,.string ⟨#[]⟩]
 have k2:=k1.alloc (.cells #[.string ⟨#[]⟩,.string r,.int .i64 (-1),.int .u8 0,.string ⟨#[]⟩] 175)
 have hz2:(W1.alloc (.cells #[.string ⟨#[]⟩,.string r,.int .i64 (-1),.int .u8 0,.string ⟨#[]⟩] 175)).heap.size=w5.heap.size+1:=by rw [World.size_alloc,hz1]
 have hb2:=hb1.alloc (by omega) (.cells #[.string ⟨#[]⟩,.string r,.int .i64 (-1),.int .u8 0,.string ⟨#[]⟩] 175)
 rw [hz1] at o1
 change AQ (W1.alloc (.cells #[.string ⟨#[]⟩,.string r,.int .i64 (-1),.int .u8 0,.string ⟨#[]⟩] 175)) _ _ _ at o1
 generalize W1.alloc (.cells #[.string ⟨#[]⟩,.string r,.int .i64 (-1),.int .u8 0,.string ⟨#[]⟩] 175)=W2 at k2 hz2 hb2 o1⊢
 have p1:=AQ.new W2 173 [.pointer (some ⟨w5.heap.size,0,none⟩)]
 rw [hz2] at p1
 have k3:=k2.alloc (.cells #[.pointer (some ⟨w5.heap.size,0,none⟩)] 173)
 have o3:=o1.alloc (.cells #[.pointer (some ⟨w5.heap.size,0,none⟩)] 173)
 have hb3:=hb2.alloc (by omega) (.cells #[.pointer (some ⟨w5.heap.size,0,none⟩)] 173)
 change AQ (W2.alloc (.cells #[.pointer (some ⟨w5.heap.size,0,none⟩)] 173)) _ _ _ at p1
 generalize W2.alloc (.cells #[.pointer (some ⟨w5.heap.size,0,none⟩)] 173)=W3 at k3 o3 hb3 p1⊢
 refine⟨⟨.slice none 0 0,.slice none 0 0,.slice (some ⟨w5.heap.size+1,0,none⟩) 1 1,[w5.heap.size],?_⟩,hb3⟩
 refine⟨k3,⟨rfl,Or.inl ⟨rfl,rfl⟩⟩,⟨rfl,Or.inl ⟨rfl,rfl⟩⟩,gN p1 (by omega),rfl,?_,hl,fun q hq=>absurd hq (by rw [hx];simp),fun q hq=>absurd hq (by rw [hx];simp)⟩
 intro k o b h1 h2
 cases k with
 | zero=>
  injection h1 with h1;injection h2 with h2
  subst h1;subst h2
  refine⟨by omega,?_⟩
  subst hr
  exact o3
 | succ k=>simp at h2
theorem YI (cs:List Value) (hi:Nat) (m:AP) (k:Nat) (f:Bt) (w:World) (h:Db.R w 0 hi cs m) (hhi:hi≤w.heap.size) (hm:J7 m) (hk:m.fns[k]?=some f)
 (htab: ∀w',Below hi w w'→Lib.TabIs prog w' "strings.asciiSpace" .u8 Lib.asciiSpaceTab):
 Calls prog 78 #[.agg cs.toArray,.int .i64 k] w fun e w'=>mD m f w e w':=by
 have H:=AA h;have HT:=AA htab;have HM:=AA hm
 obtain⟨v1,v2,v3,v4,v5,v6,rfl,h0,h1,h2,_,_,h5,_,_⟩:=Av.1 h
 obtain⟨A5,c5,rfl⟩:=AJ h5
 obtain⟨A0,c0,rfl⟩:=AJ h0
 obtain⟨bf,of,Jm,KP,fU,_,hbf,hf0,hf1,hf2,hfB,yV,iT⟩:=FN h5 hk
 subst fU
 have hfo:=hm.fns f (List.mem_of_getElem? hk)
 have hlt:=(List.getElem?_eq_some_iff.1 hk).1
 have hk0:(0:Int)≤k:=by omega
 have hk1:(k:Int)<m.fns.length:=by omega
 obtain⟨t,ht⟩: ∃t:Nat,f.t=(t:Int):=⟨f.t.toNat,by have:=hfo.t0;omega⟩
 have htl:t<m.types.length:=by have:=hfo.t1;omega
 obtain⟨ty,hty⟩: ∃ty,m.types[t]?=some ty:=⟨_,List.getElem?_eq_getElem htl⟩
 obtain⟨bt,ot,X3,_,hbt,ht0,ht1,htp,htr⟩:=DN h0 hty
 subst X3
 have JN:CG m f.t=ty:=by rw [ht];exact FI hty
 have SQ:=AA JN
 have HTZ:=AA (hm.types ty (List.mem_of_getElem? hty))
 have hloc:f.loc.size+ty.p.size≤64:=by have:=hfo.loc;rw [JN] at this;exact this
 have HLC:=AA hloc
 have qz:(0:Int)≤t:=by omega
 have rA:(t:Int)<m.types.length:=by omega
 rw [ht] at hf0
 have HT_:=AA ht
 have HG0:=AA ht0;have HG1:=AA ht1;have HG2:=AA hbt
 have wN:=AA iT;have wZ:=AA hfo
 clear h htab hm h0 h1 h2 h5 hk iT yV hfB hfo JN hloc ht ht0 ht1 hbt htp htr hty
 go_enter func78,ntmps78
 go_upto_region 1 with fail
 generalize hw1:(w.alloc (.cells #[.slice (some ⟨bt,ot,none⟩) m.types.length c0,v2,v3,.int .i64 m.first,.int .i64 m.most,.slice (some ⟨bf,of,none⟩) m.fns.length c5,v5,v6] 29)).alloc (.cells #[.slice none 0 0,.slice none 0 0,.slice none 0 0,.slice none 0 0,.int .i64 0] 107)=w1
 have hb1:Below w.heap.size w w1:=by rw [←hw1];exact((Below.refl _ _).alloc (Nat.le_refl _) _).alloc (by simp only [World.size_alloc];omega) _
 have PI:Hid (AQ w1 w.heap.size 29 [.slice (some ⟨bt,ot,none⟩) m.types.length c0,v2,v3,.int .i64 m.first,.int .i64 m.most,.slice (some ⟨bf,of,none⟩) m.fns.length c5,v5,v6]):=AA (by rw [←hw1];exact(AQ.new w 29 _).alloc _)
 have HT1:Hid (AQ w1 (w.heap.size+1) 107 [.slice none 0 0,.slice none 0 0,.slice none 0 0,.slice none 0 0,.int .i64 0]):=AA (by
  have:=AQ.new (w.alloc (.cells #[.slice (some ⟨bt,ot,none⟩) m.types.length c0,v2,v3,.int .i64 m.first,.int .i64 m.most,.slice (some ⟨bf,of,none⟩) m.fns.length c5,v5,v6] 29)) 107 [.slice none 0 0,.slice none 0 0,.slice none 0 0,.slice none 0 0,.int .i64 0]
  rw [World.size_alloc] at this
  rw [←hw1];exact this)
 have HSZ1:Hid (w1.heap.size=w.heap.size+1+1):=AA (by rw [←hw1];simp only [World.size_alloc])
 have hm5:=PI.out.q 5 rfl
 have hg0:w1.cell? ⟨bf,of+k*3,none⟩=some (.int .i64 (t:Int)):=(hb1.cell (Nat.lt_of_lt_of_le hbf hhi)).trans hf0
 have hg1:w1.cell? ⟨bf,of+k*3+1,none⟩=some (.string f.loc):=(hb1.cell (Nat.lt_of_lt_of_le hbf hhi)).trans hf1
 have hg2:w1.cell? ⟨bf,of+k*3+2,none⟩=some (.slice Jm f.code.length KP):=(hb1.cell (Nat.lt_of_lt_of_le hbf hhi)).trans hf2
 have HB1:=AA hb1
 clear hw1 hf0 hf1 hf2 hb1
 go_upto_region 2 with fail
 generalize hw2:w1.alloc (.cells #[.int .i64 (t:Int),.string f.loc,.slice Jm f.code.length KP] 96)=w2
 have hb2:Below w1.heap.size w1 w2:=by rw [←hw2];exact(Below.refl _ _).alloc (Nat.le_refl _) _
 have Jo:Hid (AQ w2 w1.heap.size 96 [.int .i64 (t:Int),.string f.loc,.slice Jm f.code.length KP]):=AA (by rw [←hw2];exact AQ.new w1 96 _)
 have HSZ2:Hid (w2.heap.size=w1.heap.size+1):=AA (by rw [←hw2];simp only [World.size_alloc])
 have HB2:Hid (Below w.heap.size w w2):=AA (HB1.out.trans (hb2.mono HB1.out.size))
 have Yo:=AA (PI.out.below hb2 PI.out.lt)
 have HT2:=AA (HT1.out.below hb2 HT1.out.lt)
 have hf2:=Jo.out.q 2 rfl
 clear hw2 hb2 hm5 hg0 hg1 hg2
 go_wp2_with fail
 refine(qw Jm KP hi f.code w2 (Rd.below wN.out HB2.out hhi) (Nat.le_trans hhi HB2.out.size) (by have:=wZ.out.few;omega)).mono ?_
 rintro e w3 ⟨hb3,hp3⟩
 unfold Ip at hp3
 have HB3:=AA hb3
 cases hc:ctl f.code with
 | inl q=>
  rw [hc] at hp3
  subst hp3
  have HC:=AA hc
  have Zp:=HT2.out.below hb3 HT2.out.lt
  have HT3:=AA Zp
  have hr: ∀j,j<5→ ∃u,w3.cell? ⟨w.heap.size+1,j,none⟩=some u:=fun j hj=>⟨_,by rw [Zp.cell j,List.getElem?_eq_getElem (by simpa using hj)]⟩
  have hl3:=Zp.lt
  have hf3:=fun j=>Zp.frozen j
  have q0:=Zp.q 0 rfl
  have q1:=Zp.q 1 rfl
  have q2:=Zp.q 2 rfl
  have q3:=Zp.q 3 rfl
  have q4:=Zp.q 4 rfl
  have q5:=Zp.frozen 0
  have q6:=Zp.frozen 1
  have q7:=Zp.frozen 2
  have q8:=Zp.frozen 3
  have q9:=Zp.frozen 4
  have hne:(q.1 !=0)=true:=by have:=Sv hc;simpa using this
  clear hc Zp hf3 hr hb3
  go_wp2_with fail
  obtain⟨hz,hbz⟩:=MK HT3.out (HB2.out.trans (HB3.out.mono HB2.out.size))
  change bodyPost _ _ _ _ _ (Gw w3 (w.heap.size+1))
  generalize Gw w3 (w.heap.size+1)=w4 at*
  have z0:=hz.q 0 rfl
  have z1:=hz.q 1 rfl
  have z2:=hz.q 2 rfl
  have z3:=hz.q 3 rfl
  have z4:=hz.q 4 rfl
  refine⟨rfl,.tuple #[Nv,.int .i64 q.1,.int .i64 q.2],?_,hbz,?_⟩
  ·simp [results,results78,go_sem,z0,z1,z2,z3,z4,Nv]
  ·have:Fv m f= .inl q:=by unfold Fv;rw [HC.out]
   rw [this]
 | inr c=>
  rw [hc] at hp3
  obtain⟨b1,b2,b3,rfl,e1,e2,e3,l1,l2,l3,n12,n13,n23⟩:=hp3
  have HC:=AA hc
  have Xq:=AA e1;have HE2:=AA e2;have l6:=AA e3;have oU:=AA l1;have HL2:=AA l2;have oK:=AA l3
  have HM3:=AA (Yo.out.below hb3 Yo.out.lt)
  have HT3:=AA (HT2.out.below hb3 HT2.out.lt)
  have TR:=AA (Jo.out.below hb3 Jo.out.lt)
  have HW3:=AA (HB2.out.trans (hb3.mono HB2.out.size))
  have m0:=HM3.out.q 0 rfl
  have f0:=TR.out.q 0 rfl
  have g0:w3.cell? ⟨bt,ot+t*2,none⟩=some (.string ty.p):=(HW3.out.cell (Nat.lt_of_lt_of_le HG2.out hhi)).trans HG0.out
  have g1:w3.cell? ⟨bt,ot+t*2+1,none⟩=some (.string ty.r):=(HW3.out.cell (Nat.lt_of_lt_of_le HG2.out hhi)).trans HG1.out
  clear hc hb3 e1 e2 e3 l1 l2 l3 n12 n13 n23 hf2
  go_upto_region 6 with fail
  generalize hw4:w3.alloc (.cells #[.string ty.p,.string ty.r] 93)=w4
  have hb4:Below w3.heap.size w3 w4:=by rw [←hw4];exact(Below.refl _ _).alloc (Nat.le_refl _) _
  have Qp:Hid (AQ w4 w3.heap.size 93 [.string ty.p,.string ty.r]):=AA (by rw [←hw4];exact AQ.new w3 93 _)
  have HSZ4:Hid (w4.heap.size=w3.heap.size+1):=AA (by rw [←hw4];simp only [World.size_alloc])
  have gP:=AA (HM3.out.below hb4 HM3.out.lt)
  have X6:=AA (TR.out.below hb4 TR.out.lt)
  have Ct:=AA hb4
  have s0:=Qp.out.q 0 rfl
  have s1:=Qp.out.q 1 rfl
  have k1:=X6.out.q 1 rfl
  have k2:=X6.out.q 2 rfl
  have q0:=gP.out.q 0 rfl
  have q1:=gP.out.q 1 rfl
  have q2:=gP.out.q 2 rfl
  have q3:=gP.out.q 3 rfl
  have q4:=gP.out.q 4 rfl
  have q5:=gP.out.q 5 rfl
  have q6:=gP.out.q 6 rfl
  have q7:=gP.out.q 7 rfl
  have hz1:ty.p.size≤8:=HTZ.out.1
  have hz2:f.loc.size≤64:=by have:=HLC.out;omega
  clear hw4 hb4 m0 f0 g0 g1
  go_upto_region 7 with fail
  generalize Pn:w4.alloc (.cells #[.slice (some ⟨bt,ot,none⟩) m.types.length c0,v2,v3,.int .i64 m.first,.int .i64 m.most,.slice (some ⟨bf,of,none⟩) m.fns.length c5,v5,v6,.string ty.p,.string ty.r,.string (ty.p++f.loc),.slice Jm f.code.length KP,.slice none 0 0,.slice (some ⟨b1,0,none⟩) f.code.length f.code.length,.slice (some ⟨b2,0,none⟩) f.code.length f.code.length,.slice none 0 0,.int .i64 0,.slice none 0 0,.string ⟨#[]⟩,.bool false,.int .i64 0] 172)=w5
  have hb5:Below w4.heap.size w4 w5:=by rw [←Pn];exact(Below.refl _ _).alloc (Nat.le_refl _) _
  have Vp:Hid (AQ w5 w4.heap.size 172 [.slice (some ⟨bt,ot,none⟩) m.types.length c0,v2,v3,.int .i64 m.first,.int .i64 m.most,.slice (some ⟨bf,of,none⟩) m.fns.length c5,v5,v6,.string ty.p,.string ty.r,.string (ty.p++f.loc),.slice Jm f.code.length KP,.slice none 0 0,.slice (some ⟨b1,0,none⟩) f.code.length f.code.length,.slice (some ⟨b2,0,none⟩) f.code.length f.code.length,.slice none 0 0,.int .i64 0,.slice none 0 0,.string ⟨#[]⟩,.bool false,.int .i64 0]):=AA (by rw [←Pn];exact AQ.new w4 172 _)
  have HSZ5:Hid (w5.heap.size=w4.heap.size+1):=AA (by rw [←Pn];simp only [World.size_alloc])
  have Yp:=AA (Qp.out.below hb5 Qp.out.lt)
  have Dv:=AA hb5
  have s1:=Yp.out.q 1 rfl
  have k17:=Vp.out.q 17 rfl
  have k17f:=Vp.out.frozen 17
  have hkl:=Vp.out.lt
  clear Pn hb5 s0 k1 k2 q0 q1 q2 q3 q4 q5 q6 q7
  go_upto_region 8 with fail
  generalize hx:(⟨.slice (some ⟨bt,ot,none⟩) m.types.length c0,v2,v3,.int .i64 m.first,.int .i64 m.most,.slice (some ⟨bf,of,none⟩) m.fns.length c5,v5,v6,ty.p,ty.r,ty.p++f.loc,.slice Jm f.code.length KP,.slice (some ⟨b1,0,none⟩) f.code.length f.code.length,.slice (some ⟨b2,0,none⟩) f.code.length f.code.length,[]⟩:Fx)=x
  have vw:w3.heap.size≤w4.heap.size:=Ct.out.size
  have hq:Wk (((w5.setCell ⟨w4.heap.size,17,none⟩ (.slice (some ⟨w5.heap.size+1,0,none⟩) 1 1)).alloc (.cells #[.string ⟨#[]⟩,.string ty.r,.int .i64 (-1),.int .u8 0,.string ⟨#[]⟩] 175)).alloc (.cells #[.pointer (some ⟨w5.heap.size,0,none⟩)] 173)) w3.heap.size w4.heap.size x (CO m f) 0∧
   Below w3.heap.size w5 (((w5.setCell ⟨w4.heap.size,17,none⟩ (.slice (some ⟨w5.heap.size+1,0,none⟩) 1 1)).alloc (.cells #[.string ⟨#[]⟩,.string ty.r,.int .i64 (-1),.int .u8 0,.string ⟨#[]⟩] 175)).alloc (.cells #[.pointer (some ⟨w5.heap.size,0,none⟩)] 173)):=
   ADO (by rw [SQ.out]) (by rw [←hx]) vw (by rw [←hx];exact Vp.out)
  generalize (((w5.setCell ⟨w4.heap.size,17,none⟩ (.slice (some ⟨w5.heap.size+1,0,none⟩) 1 1)).alloc (.cells #[.string ⟨#[]⟩,.string ty.r,.int .i64 (-1),.int .u8 0,.string ⟨#[]⟩] 175)).alloc (.cells #[.pointer (some ⟨w5.heap.size,0,none⟩)] 173))=w6 at hq⊢
  have HQ:=AA hq
  have HX:=AA hx
  clear hq hx s1 k17 k17f hkl
  have sU:Below w3.heap.size w3 w6:=(Ct.out.trans (Dv.out.mono vw)).trans HQ.out.2
  have zW:=AA sU
  have EL:=AA (HW3.out.trans (sU.mono HW3.out.size))
  have hrd:Db.R w6 0 hi [x.m0,x.m1,x.m2,x.m3,x.m4,x.m5,x.m6,x.m7] m:=by rw [←HX.out];exact Rd.below H.out EL.out hhi
  have hcr:(Ga.sl false).R w6 0 hi [.slice Jm f.code.length KP] f.code:=Rd.below wN.out EL.out hhi
  have hCO:=Pt HC.out
  have hLE:HE2.out.lt=HE2.out.lt:=rfl
  have hel:Sq w6 w3.heap.size x c.AB:=⟨b2,by rw [←HX.out,hCO.AB],HE2.out.below sU HE2.out.lt,HE2.out.lt⟩
  have hxe:x.ext= []:=by rw [←HX.out]
  have hxc:x.code= .slice Jm f.code.length KP:=by rw [←HX.out]
  have hxl:x.loc=C8 m f:=by rw [←HX.out];unfold C8;rw [SQ.out]
  have hxr:x.sr=(CG m f.t).r:=by rw [←HX.out];show ty.r=_;rw [SQ.out]
  have hht: ∀w',Below hi w6 w'→Lib.TabIs prog w' "strings.asciiSpace" .u8 Lib.asciiSpaceTab:=fun w' hw'=>HT.out w' ((EL.out.mono hhi).trans hw')
  have CS:=AA hrd;have Bq:=AA hcr;have Nq:=AA hel;have Ob:=AA hxe;have HX5:=AA hxc;have HX6:=AA hxl;have HX7:=AA hxr;have HX8:=AA hht
  clear sU hrd hcr hCO hLE hel hxe hxc hxl hxr hht vw
  go_wp2_with fail
  refine(sQ w6 HQ.out.1 Ob.out ⟨CS.out⟩ (Nat.le_trans hhi HW3.out.size) zW.out.size HM.out wZ.out HC.out Nq.out HX5.out Bq.out HX6.out HX7.out HX8.out).mono ?_
  rintro e w7 ⟨Q9,mE⟩
  have TP:=AA Q9
  cases hgo:PV m f c.AB f.code.length (CO m f)with
  | inl q=>
   rw [hgo] at mE
   subst mE
   have HC':=AA hgo
   have gQ:=HT3.out.below (zW.out.trans Q9) HT3.out.lt
   have bU:=AA gQ
   have hl3:=gQ.lt
   have q0:=gQ.q 0 rfl
   have q1:=gQ.q 1 rfl
   have q2:=gQ.q 2 rfl
   have q3:=gQ.q 3 rfl
   have q4:=gQ.q 4 rfl
   have q5:=gQ.frozen 0
   have q6:=gQ.frozen 1
   have q7:=gQ.frozen 2
   have q8:=gQ.frozen 3
   have q9:=gQ.frozen 4
   have hne:(q.1 !=0)=true:=by have:=VU _ hgo;simpa using this
   clear hgo gQ Q9
   go_wp2_with fail
   obtain⟨hz,hbz,_,_⟩:=WV (.slice none 0 0) (.slice none 0 0) (.slice none 0 0) (.slice none 0 0) (.int .i64 0) bU.out (EL.out.trans (TP.out.mono HW3.out.size))
   change bodyPost _ _ _ _ _ (Gx w7 (w.heap.size+1) (.slice none 0 0) (.slice none 0 0) (.slice none 0 0) (.slice none 0 0) (.int .i64 0))
   generalize Gx w7 (w.heap.size+1) (.slice none 0 0) (.slice none 0 0) (.slice none 0 0) (.slice none 0 0) (.int .i64 0)=w8 at*
   have z0:=hz.q 0 rfl
   have z1:=hz.q 1 rfl
   have z2:=hz.q 2 rfl
   have z3:=hz.q 3 rfl
   have z4:=hz.q 4 rfl
   refine⟨rfl,.tuple #[Nv,.int .i64 q.1,.int .i64 q.2],?_,hbz,?_⟩
   ·simp [results,results78,go_sem,z0,z1,z2,z3,z4,Nv]
   ·have:Fv m f= .inl q:=by unfold Fv;rw [HC.out];simp only;rw [HC'.out]
    rw [this]
  | inr st=>
   rw [hgo] at mE
   obtain⟨rfl,s,q,vS,vF,vO,bs,h7⟩:=mE
   obtain⟨As,cs1,rfl⟩:=CZ h7.sh
   obtain⟨Af,cf1,rfl⟩:=CZ h7.fl
   dsimp only at h7
   have HC':=AA hgo
   have H7:=AA h7
   have sV:=zW.out.trans Q9
   have bU:=AA (HT3.out.below sV HT3.out.lt)
   have HE17:=AA (Xq.out.below sV Xq.out.lt)
   have HE27:=AA (HE2.out.below sV HE2.out.lt)
   have hl3:=bU.out.lt
   have q0:=bU.out.q 0 rfl
   have q1:=bU.out.q 1 rfl
   have q2:=bU.out.q 2 rfl
   have q3:=bU.out.q 3 rfl
   have q4:=bU.out.q 4 rfl
   have q5:=bU.out.frozen 0
   have q6:=bU.out.frozen 1
   have q7:=bU.out.frozen 2
   have q8:=bU.out.frozen 3
   have q9:=bU.out.frozen 4
   have r2:=H7.out.blk.q 12 rfl
   have r3:w7.cell? ⟨w4.heap.size,13,none⟩=some (.slice (some ⟨b1,0,none⟩) f.code.length f.code.length):=(H7.out.blk.cell 13).trans (by rw [←HX.out];rfl)
   have r4:w7.cell? ⟨w4.heap.size,14,none⟩=some (.slice (some ⟨b2,0,none⟩) f.code.length f.code.length):=(H7.out.blk.cell 14).trans (by rw [←HX.out];rfl)
   have r5:=H7.out.blk.q 15 rfl
   have r6:=H7.out.blk.q 16 rfl
   clear hgo Q9 h7 sV
   go_wp2_with fail
   obtain⟨hz,hbz,hown,hblk⟩:=WV (.slice As st.shapes.length cs1) (.slice (some ⟨b1,0,none⟩) f.code.length f.code.length) (.slice (some ⟨b2,0,none⟩) f.code.length f.code.length) (.slice Af st.floors.length cf1) (.int .i64 (st.high:Int)) bU.out (EL.out.trans (TP.out.mono HW3.out.size))
   change bodyPost _ _ _ _ _ (Gx w7 (w.heap.size+1) (.slice As st.shapes.length cs1) (.slice (some ⟨b1,0,none⟩) f.code.length f.code.length) (.slice (some ⟨b2,0,none⟩) f.code.length f.code.length) (.slice Af st.floors.length cf1) (.int .i64 (st.high:Int)))
   generalize Gx w7 (w.heap.size+1) (.slice As st.shapes.length cs1) (.slice (some ⟨b1,0,none⟩) f.code.length f.code.length) (.slice (some ⟨b2,0,none⟩) f.code.length f.code.length) (.slice Af st.floors.length cf1) (.int .i64 (st.high:Int))=w8 at hz hbz hown hblk⊢
   clear q0 q1 q2 q3 q4 q5 q6 q7 q8 q9 r2 r3 r4 r5 r6
   have z0:=hz.q 0 rfl
   have z1:=hz.q 1 rfl
   have z2:=hz.q 2 rfl
   have z3:=hz.q 3 rfl
   have z4:=hz.q 4 rfl
   refine⟨rfl,.tuple #[.agg #[(.slice As st.shapes.length cs1),.slice (some ⟨b1,0,none⟩) f.code.length f.code.length,.slice (some ⟨b2,0,none⟩) f.code.length f.code.length,(.slice Af st.floors.length cf1),.int .i64 (st.high:Int)],.int .i64 0,.int .i64 0],?_,hbz,?_⟩
   ·simp [results,results78,go_sem,z0,z1,z2,z3,z4]
   ·have:Fv m f= .inr ⟨st.shapes,c.ends,c.AB,st.floors,(st.high:Int)⟩:=by unfold Fv;rw [HC.out];simp only;rw [HC'.out]
    rw [this]
    have hct:=Pt HC.out
    have hlow:=VR HM.out wZ.out f.code.length (Ck f.code.length) _ _ (Nat.le_refl _) (by rw [Nat.sub_self];exact Kn HC.out) HC'.out
    have hl2:=HT2.out.lt
    have ADR:=HT3.out.lt
    have hg1:=oU.out
    have hg2:=HL2.out
    have hlen1:=hlow.2.1
    have J_:=wZ.out.few
    refine⟨_,rfl,sS ((hown _ _ _ _ _ ADR H7.out.sh).mono HW3.out.size) ((hown _ _ _ _ _ ADR H7.out.fl).mono HW3.out.size) (hblk _ _ _ (by omega) HE17.out) (hblk _ _ _ (by omega) HE27.out) hct.ends.symm hct.AB.symm J_ (by omega) (by omega) hlow.1 hlow.2.2.2.2 hct.bE hct.bL hlow.2.2.2.1⟩
theorem U3:(prog.info? 163).map (·.size)=some 4096:=by kernel_rfl
theorem uD (W:World):(sizeOf 5).run prog W= .ok 1 W:=by kernel_rfl
theorem uE:zeroCells163=(Az.map bv).toArray:=by kernel_rfl
theorem AD3 {p:List UInt8} (hp:p.length=4096):(!(p==Az))=Y7 p:=by
 have h: ∀(n:Nat) (p:List UInt8),p.length=n→(!(p==List.replicate n 0))=p.any (fun c=>c !=0):=by
  intro n
  induction n with
  | zero=>intro p hp;rw [List.length_eq_zero_iff.1 hp];rfl
  | succ n ih=>
   intro p hp
   cases p with
   | nil=>cases hp
   | cons c p=>
    rw [List.any_cons,←ih p (by simpa using hp),List.replicate_succ,List.cons_beq_cons,Bool.not_and]
    rfl
 exact h 4096 p hp
theorem b_ {p:List UInt8} (hp:p.length=4096) (W:World):(Op.equalIn 10000 163 (.agg (p.map bv).toArray) (.agg zeroCells163)).run prog W= .ok (!Y7 p) W:=by
 have hb:bv=Extern.Stop.cell:=rfl
 rw [uE,hb,run_equalIn_bytes W 9998 163 5 4096 underlying163 underlying5 uD p Az hp (List.length_replicate ..),←AD3 hp,Bool.not_not]
theorem YQ (A:Option Addr) (c:Nat) (W:World):(Instr.arrayAt 163 (.slice A 4096 c)).run prog W= .ok (.pointer A) W:=by
 simp [Instr.arrayAt,run_underlying underlying163]
theorem S_ {P:Program} {ops:Array Oper} {rest:List Oper} {op:Oper} {a:Act} {w:World} {Q:Exit→Act→World→Prop} (hg:Region.wanted op (yielded ops a.tmps)=true) (ty:TypeId) (x:Operand) (ho:op.op= .load ty x)
 (b o:Nat) (hx:a.eval x= .pointer (some ⟨b,o,none⟩)) (cs:List Value) (d:TypeDesc) (hc:w.rangeAt b o cs)
 (hu:P.underlying ty=some d) (hd:d.isRow=true) (hi:(P.info? ty).map (·.size)=some cs.length)
 (h:wpList P ops Q rest (a.put op.dst (.agg cs.toArray)) w):wpList P ops Q (op::rest) a w:=
 BigFrame.wpList_want hg fun _ hK=>wp_load_mid ty x ho b o hx cs d hc hu hd hi (hK _ _ h)
theorem Sw.with_ {w1 w2:World} {base g:Nat} {K P:Nat→Prop} {l:List UInt8} (h:Sw w1 base g K l) (hb:Below w1.heap.size w1 w2) (hv: ∀k,P k→w1.heap.size≤k∧k<w2.heap.size):Sw w2 base g (fun k=>K k∨P k) l:=by
 obtain⟨A,c,h⟩:=h
 have hl:=h.own.lt
 refine⟨A,c,h.blk.below hb h.blk.lt,h.own.XU hb,h.low,fun hk=> ?_,fun k hk=>⟨fun hk2=> ?_,(h.apart k hk).2⟩,fun k hk=> ?_⟩
 ·rcases hk with hk | hk
  ·exact h.kg hk
  ·have:=(hv _ hk).1;have:=h.blk.lt;omega
 ·rcases hk2 with hk2 | hk2
  ·exact(h.apart k hk).1 hk2
  ·have:=(hv _ hk2).1;have:=(hl _ hk).2;omega
 ·rcases hk with hk | hk
  ·exact Nat.lt_of_lt_of_le (h.lt k hk) hb.size
  ·exact(hv _ hk).2
theorem Sw.less {w:World} {base g:Nat} {K K':Nat→Prop} {l:List UInt8} (h:Sw w base g K' l) (hk: ∀k,K k→K' k):Sw w base g K l:=
 let ⟨A,c,h⟩:=h;⟨A,c,h.blk,h.own,h.low,fun x=>h.kg (hk _ x),fun k x=>⟨fun y=>(h.apart k x).1 (hk _ y),(h.apart k x).2⟩,fun k x=>h.lt k (hk _ x)⟩
theorem cB {l:List (List UInt8)} (hp: ∀p∈l,p.length=4096) (ix:List Nat) (hx: ∀i∈ix,i<64):(ix.flatMap (iQ l)).length≤5000*ix.length:=by
 induction ix with
 | nil=>simp
 | cons i ix ih=>
  rw [List.flatMap_cons,List.length_append,List.length_cons]
  have h1:=AY i (by have:=hx i (by simp);omega)
  have h2:(l[i]?.getD []).length≤4096:=by
   cases h:l[i]? with
   | none=>simp
   | some p=>have:=hp p (List.mem_of_getElem? h);simp;omega
  have h3:=ih (fun j hj=>hx j (by simp [hj]))
  unfold iQ at*
  rw [List.length_append]
  omega
def uG (n:Nat):Value:= .int .i64 (n:Int)
def AD4 (l:List (List UInt8)) (w1:World) (v i:Value) (wr:World):Prop:=
 ∃(k:Nat) (A:Option Addr) (c:Nat),k≤l.length∧i= .int .i64 k∧v= .slice A (EW l k).length c∧wr.ownsRow w1.heap.size 3 1 (.slice A (EW l k).length c) (EW l k).length ((EW l k).map uG)∧Below w1.heap.size w1 wr
theorem mZ (l:List (List UInt8)) (A0:Option Addr) (c0 lo hi:Nat) (hm:l.length≤64) (hp: ∀p∈l,p.length=4096) (base g:Nat) (K:Nat→Prop) (b:List UInt8) (w:World) (hr:((Rd.u8.sl false).sl false).R w lo hi [.slice A0 l.length c0] l) (hhi:hi≤w.heap.size) (hK: ∀k,lo≤k→k<hi→K k)
 (h:Sw w base g K b) (hl:b.length≤274877906944) (hbase:base≤w.heap.size):
 Calls prog 69 #[.pointer (some ⟨g,0,none⟩),.slice A0 l.length c0] w (Wd base g K b (PY l) w):=by
 have H:=AA h;have HR:=AA hr;have HK:=AA hK;have HP:=AA hp
 clear h hr hK hp
 have henc:=AY l.length (by omega)
 have har:=YQ
 obtain⟨i0,GU,GV,GX,D8⟩:=info_parts JG
 have Z5:=AA GU;have Z6:=AA GV;have Z7:=AA GX;have Ny:=AA D8
 clear GU GV GX D8
 go_enter func69,ntmps69
 go_wp2_with fail
 refine(Iz l.length 64 (by omega) hm base g K b w H.out (by omega) hbase).mono ?_
 rintro e w1 ⟨rfl,hk1,hs1⟩
 have Ls:=AA hk1;have Nr:=AA hs1
 have hbad:=hs1.bad
 have HR1:=AA (Rd.CB HR.out hk1 hhi HK.out)
 have hz1:=hk1.size
 clear hk1 hs1
 go_wp2_with fail
 go_loopw [4,19] (fun v i wr=>AD4 l w1 v i wr) (fun _ i _=>l.length-(intOf i).toNat)
 case atStart=>exact⟨0,none,0,Nat.zero_le _,rfl,rfl,World.ownsRow_nil _ _ _ _,Below.refl _ _⟩
 case round=>
  obtain⟨k,A,c,hk,rfl,rfl,hown,hbel⟩:=hrel
  have HO:=AA hown;have HB:=AA hbel
  have hix:=XJ l k
  have TQ:=hbel.size
  clear hown hbel hbad
  by_cases hlt:k<l.length
  ·obtain⟨p,hpk⟩: ∃p,l[k]?=some p:=⟨_,List.getElem?_eq_getElem hlt⟩
   have hpl:=HP.out p (List.mem_of_getElem? hpk)
   obtain⟨bb,o,eA,_,N7,cs',hc',hr'⟩:=Dj (Rd.below HR1.out HB.out (Nat.le_trans hhi hz1)) hpk
   subst eA
   obtain⟨v',rfl,hr'⟩:=Dc hr'
   obtain⟨A',c',rfl⟩:=AJ hr'
   have f0:wr.cell? ⟨bb,o+k,none⟩=some (.slice A' p.length c'):=by have:=hc' 0 _ rfl;simpa [Rd.sl] using this
   rw [hpl] at f0 hr'
   obtain⟨b2,o2,rfl,_,hcell⟩:=(Rd.Gj hr').2 (by rw [List.length_map];omega)
   have HC:Hid (wr.rangeAt b2 o2 (p.map bv)):=AA (fun j v hv=>hcell j v hv)
   have HI:Hid ((prog.info? 163).map (·.size)=some (p.map bv).length):=by rw [List.length_map,hpl];exact AA U3
   have hk0:(0:Int)≤k:=by omega
   have hk1:(k:Int)<l.length:=by omega
   have hq:=b_ hpl
   have HN:Hid (EW l (k+1)=if Y7 p=true then EW l k++ [k] else EW l k):=AA (by rw [Uc];unfold jN;rw [hpk])
   clear hpk hc' hr' hcell N7
   generalize Y7 p=bb1 at*
   cases bb1 with
   | false=>
    rw [if_neg (by simp)] at HN
    go_wp2_with (refine S_ rfl 163 _ rfl b2 o2 rfl (p.map bv) _ HC.out underlying163 rfl HI.out ?_)
    exact⟨⟨k+1,A,c,by omega,by go_num,by rw [HN.out],by rw [HN.out];exact HO.out,HB.out⟩,by simp [intOf];omega⟩
   | true=>
    rw [if_pos rfl] at HN
    have HL:Hid ((EW l (k+1)).length=(EW l k).length+1):=AA (by rw [HN.out,List.length_append];rfl)
    have HM:Hid ((EW l (k+1)).map uG=(EW l k).map uG++ [.int .i64 (k:Int)]):=AA (by rw [HN.out,List.map_append];rfl)
    have GL:=AA (row_one wr (.int .i64 (k:Int)) 3)
    clear HN
    go_wp2_with (first
     | refine S_ rfl 163 _ rfl b2 o2 rfl (p.map bv) _ HC.out underlying163 rfl HI.out ?_
     | (at_builtin;refine BL _ rfl _ _ 23 rfl w1.heap.size 3 i0 _ 1 8 underlying23 Z5.out Z6.out Z7.out Ny.out rfl (by omega) _ (EW l k).length ((EW l k).map uG) rfl (HO.out.alloc _) (wr.heap.size+1) _ 1 1 [.int .i64 (k:Int)] rfl rfl GL.out (by simp [Value.oneCell']) (by unfold maxLen;omega) (by omega) (by simp;omega) ?_;intro A6 c6 w6 h2 h3 h4;have H2:=AA h2;have H3:=AA h3;clear h2 h3 h4))
    refine⟨⟨k+1,A6,c6,by omega,by go_num,by rw [HL.out],by rw [HL.out,HM.out];exact H2.out,(HB.out.alloc TQ _).trans (BG (HO.out.alloc _) H3.out (by simp;omega))⟩,by simp [intOf];omega⟩
  ·obtain rfl:l.length=k:=by omega
   have AD5:=AA (Nr.out.with_ (P:=fun k=>(Value.slice A (EW l l.length).length c).ownBlock=some k) HB.out HO.out.lt)
   have eu:Hid (Keep K w wr):=AA (Ls.out.trans (Keep.DC HB.out))
   have HRr:=AA (Rd.below HR1.out HB.out (Nat.le_trans hhi hz1))
   have HZX:Hid (∀i∈EW l l.length,i<l.length):=AA (fun i hi=>aW hi)
   have HTG:Hid ((b++enc l.length)++enc (EW l l.length).length++(EW l l.length).flatMap (iQ l)=b++PY l):=AA (by unfold PY;simp)
   have NI:=AA (cB HP.out)
   have hKK:=HK.out
   obtain⟨K2,hK2⟩: ∃K2:Nat→Prop,K2=fun k=>K k∨(Value.slice A (EW l l.length).length c).ownBlock=some k:=⟨_,rfl⟩
   rw [←hK2] at AD5
   have HKK:Hid (∀k,K k→K2 k):=AA (fun k hk=>by rw [hK2];exact .inl hk)
   have HKO:Hid (∀k,(Value.slice A (EW l l.length).length c).ownBlock=some k→K2 k):=AA (fun k hk=>by rw [hK2];exact .inr hk)
   have hbr:base≤wr.heap.size:=by omega
   have hhr:hi≤wr.heap.size:=by omega
   clear hK2 HB HR HR1 Nr H Ls
   go_wp2_with fail
   have hbl:(b++enc l.length).length≤274877907944:=by rw [List.length_append];omega
   refine(Iz (EW l l.length).length 64 (by omega) (by omega) base g K2 (b++enc l.length) wr AD5.out (by omega) hbr).mono ?_
   rintro e w2 ⟨rfl,hk2,hs2⟩
   have hen2:=AY (EW l l.length).length (by omega)
   have GN:=AA hk2;have HS2:=AA hs2
   have HO2:=AA (Ce HO.out hk2 HKO.out)
   have hbl2:(b++enc l.length++enc (EW l l.length).length).length≤274877917944:=by rw [List.length_append];omega
   clear hk2 hs2 hbl
   generalize b++enc l.length++enc (EW l l.length).length=bx at*
   clear henc hen2
   go_wp2_with fail
   generalize hix2:EW l l.length=ix at*
   clear hix2
   obtain⟨wo,rfl⟩: ∃wo:World,wo=wr:=⟨_,rfl⟩
   go_loopw [46] (fun i wq=> ∃k:Nat,k≤ix.length∧i= .int .i64 k∧Keep K2 wo wq∧Sw wq base g K2 (bx++(ix.take k).flatMap (iQ l))) (fun i _=>ix.length-(intOf i).toNat)
   case atStart=>exact⟨0,Nat.zero_le _,rfl,GN.out,by simpa using HS2.out⟩
   case round=>
    obtain⟨k,hk,rfl,hkp,hsw⟩:=hrel
    have IK:=AA hkp;have bn:=AA hsw
    have HOr:=AA (Ce HO.out hkp HKO.out)
    have HRw:=AA (Rd.CB HRr.out hkp hhr (fun k h1 h2=>HKK.out k (HK.out k h1 h2)))
    have hzw:=hkp.size
    clear hkp hsw
    by_cases hlt:k<ix.length
    ·obtain⟨j,hj⟩: ∃j,ix[k]?=some j:=⟨_,List.getElem?_eq_getElem hlt⟩
     have hjl:=HZX.out j (List.mem_of_getElem? hj)
     have AD6: ∀i∈ix.take k,i<64:=fun i hi=>by have:=HZX.out i (List.mem_of_mem_take hi);omega
     have hfl:=NI.out (ix.take k) AD6
     have HT:Hid ((bx++(ix.take k).flatMap (iQ l))++iQ l j=bx++(ix.take (k+1)).flatMap (iQ l)):=AA (by rw [P6 hj,List.append_assoc])
     obtain⟨g2,o2,eA,_,hcell⟩:=(Row.own HOr.out).at (j:=k) (u:= .int .i64 (j:Int)) (by rw [List.getElem?_map,hj];rfl)
     obtain⟨p,hpk⟩: ∃p,l[j]?=some p:=⟨_,List.getElem?_eq_getElem hjl⟩
     have hpl:=HP.out p (List.mem_of_getElem? hpk)
     have HPB:Hid (iQ l j=enc j++p):=AA (by unfold iQ;rw [hpk];rfl)
     have HPK:=AA hpk
     have hj10:=AY j (by omega)
     have hL:(bx++(ix.take k).flatMap (iQ l)).length≤274878317944:=by rw [List.length_append];rw [List.length_take] at hfl;omega
     have hk0:(0:Int)≤k:=by omega
     subst eA
     clear hj hfl AD6 hpk
     generalize vw:bx++(ix.take k).flatMap (iQ l)=L at*
     clear vw
     go_wp2_with fail
     refine(Iz j 64 (by omega) (by omega) base g K2 L wr bn.out (by omega) (Nat.le_trans hbr hzw)).mono ?_
     rintro e w3 ⟨rfl,hk3,hs3⟩
     have GQ:=AA hk3
     obtain⟨bb,ob,eA,_,N7,cs',hc',hr'⟩:=Dj (Rd.CB HRw.out hk3 (Nat.le_trans hhr hzw) (fun k h1 h2=>HKK.out k (HK.out k h1 h2))) HPK.out
     subst eA
     obtain⟨v',rfl,hr'⟩:=Dc hr'
     obtain⟨A',c',rfl⟩:=AJ hr'
     have f0:w3.cell? ⟨bb,ob+j,none⟩=some (.slice A' p.length c'):=by have:=hc' 0 _ rfl;simpa [Rd.sl] using this
     rw [hpl] at f0 hr'
     have rz:=AA (Rd.Gj hr').2
     obtain⟨A,c,h⟩:=hs3
     have H:=AA h
     have Tg:(L++enc j).length≤274878317954:=by rw [List.length_append];omega
     generalize hLg:L++enc j=LJ at*
     have hc0:=h.blk.q 0 rfl
     have AD2:=h.blk.lt
     have hf:=h.blk.frozen 0
     have WZ:base≤w3.heap.size:=Nat.le_trans (Nat.le_trans hbr hzw) hk3.size
     have hj0:(0:Int)≤j:=by omega
     have hjI:(j:Int)<l.length:=by omega
     obtain⟨i1,hi1,WT,WU,AAE⟩:=info_parts Dt
     clear h hk3 hc' hr' N7 hcell
     go_wp2_with fail
     go_region_law
      (first
       | (refine F6 rfl (.tmp 57) (.tmp 61) 40 rfl base 5 i1 _ 1 underlying40 hi1 WT WU AAE rfl _ LJ.length (LJ.map bv) rfl (by exact H.out.own) _ A' 4096 c' (p.map bv) (by omega) rfl (by rw [List.length_map,Nat.mul_one];exact hpl) (by exact rz.out) (Eh _) (by unfold maxLen;omega) (by omega) WZ ?_;intro A4 c4 w4 h2 h3' h4;have h3:w3.grownBy w4 (Value.slice A LJ.length c).ownBlock:=⟨h3'.os,h3'.tape,h3'.output,h3'.size,h3'.block⟩;have Yl:=AA (H.out.put hpl.symm h3 h2 h4);have XZ:=(Ay h3 H.out.blk (fun e=>(H.out.apart g e).2 rfl)).frozen 0;have hc4:=(Ay h3 H.out.blk (fun e=>(H.out.apart g e).2 rfl)).cell 0;clear h2 h3 h3' h4))
     all_goals
      go_wp2_with fail
      refine⟨⟨k+1,by omega,by go_num,(IK.out.trans GQ.out).trans Yl.out.1,?_⟩,by simp [intOf];omega⟩
      rw [←HT.out,HPB.out,←List.append_assoc,hLg]
      exact Yl.out.2
    ·obtain rfl:ix.length=k:=by omega
     go_wp2_with fail
     go_end0
     refine⟨rfl,eu.out.trans (IK.out.mono HKK.out),?_⟩
     rw [←HTG.out]
     have:=bn.out
     rw [List.take_length] at this
     exact this.less HKK.out
theorem T_ (A:Option Addr) (n cap B:Nat) (p:Int) (w:World) (l:List UInt8) (hn:n=l.length) (h47:n≤140737488351232) (hr:Row w B A (l.map bv)):
 Calls prog 110 #[.slice A n cap,.int .i64 p] w fun e w'=>w=w'∧e= .returned (.tuple #[.int .u64 (EJ l p).1,.int .i64 (EJ l p).2.1,.int .i64 (EJ l p).2.2]):=by
 have Hr:=Lib.hid hr;clear hr
 have Hn:=Lib.hid hn;clear hn
 by_cases h0:0≤p
 ·obtain⟨q,rfl⟩:=Int.eq_ofNat_of_zero_le h0
  by_cases h1:q≤n
  ·go_enter func110,ntmps110
   go_wp2
   go_loop [7,18] (fun v i=> ∃k x:Nat,k≤10∧x<128^k∧i= .int .i64 k∧v= .int .u64 x∧IJ (10-k) k x (l.drop (q+k))=IJ 10 0 0 (l.drop q)) (fun _ i=>10-(intOf i).toNat)
   case atStart=>exact⟨0,0,by omega,by omega,rfl,rfl,rfl⟩
   case round=>
    obtain⟨k,x,hk,hx,rfl,rfl,hR⟩:=hrel
    have Hx:=Lib.hid hx;clear hx
    have HR:=Lib.hid hR;clear hR
    by_cases hlt:k<10
    ·have mq:10-k=(9-k)+1:=by omega
     have HR2:Hid (IJ ((9-k)+1) k x (l.drop (q+k))=IJ 10 0 0 (l.drop q)):=by rw [←mq];exact HR
     clear mq
     by_cases hend:q+k<n
     ·obtain⟨b,o,rfl,_,hcell⟩:=Hr.out.byte (j:=q+k) (by rw [←Hn.out];exact hend)
      have HR3:Hid (IJ ((9-k)+1) k x ((l[q+k]?.getD 0)::l.drop (q+k+1))=IJ 10 0 0 (l.drop q)):=by
       rw [←drop_at l (q+k) (by rw [←Hn.out];exact hend)];exact HR2
      clear HR2 HR
      have hB:(l[q+k]?.getD 0).toNat<256:=UInt8.toNat_lt _
      generalize l[q+k]?.getD 0=c8 at*
      have HR4:=Lib.hid ((RL _ _ _ _ _).symm.trans HR3.out)
      generalize hc:c8.toNat=c at*
      have Hc:=Lib.hid hc;clear hc HR3
      have hk0:(0:Int)≤q+k:=by omega
      have AAJ:Hid (k=9→c≤1)∨(k=9∧1<c):=by
       by_cases h:k=9∧1<c
       ·exact .inr h
       ·exact .inl (Lib.hid (by omega))
      rcases AAJ with iC | ⟨h9,h1c⟩
      ·have hnot: ¬(k=9∧1<c):=by have:=iC.out;omega
       have HS:Hid ((if c<128 then(if c=0∧0<k then(0,0,12) else(x+c%128*128^k,k+1,0)) else IJ (9-k) (k+1) (x+c%128*128^k) (l.drop (q+k+1)))=IJ 10 0 0 (l.drop q)):=by
        have:=HR4.out;rw [if_neg hnot] at this;exact this
       clear HR4 hnot
       have HA:=Lib.hid (acc x c k (by omega) hB Hx.out iC.out)
       have HL:=Lib.hid (VI x c k Hx.out)
       have TB:(k<9∧((k:Int)==9)=false)∨(((k:Int)==9)=true∧c≤1):=by
        by_cases h:k<9
        ·exact .inl ⟨h,by simp;omega⟩
        ·exact .inr ⟨by simp;omega,iC.out (by omega)⟩
       by_cases h128:c<128
       ·by_cases hc0:c=0∧0<k
        ·obtain⟨rfl,hk1⟩:=hc0
         have HT:Hid ((0,0,12)=IJ 10 0 0 (l.drop q)):=by
          have:=HS.out;rw [if_pos (by omega),if_pos ⟨rfl,hk1⟩] at this;exact this
         clear HS HA HL
         rcases TB with⟨_,aM⟩ | ⟨aM,_⟩<;>
         ·go_wp2
          go_ret3
          rw [Gz l q (by rw [←Hn.out];exact h1) HT.out.symm]
          exact⟨rfl,PK rfl rfl rfl⟩
        ·have HT:Hid ((x+c%128*128^k,k+1,0)=IJ 10 0 0 (l.drop q)):=by
          have:=HS.out;rw [if_pos h128,if_neg hc0] at this;exact this
         have hz:(((c:Int)==0)=true∧ ¬(0:Int)<k)∨((c:Int)==0)=false:=by
          by_cases h:c=0
          ·exact .inl ⟨by simp;omega,by omega⟩
          ·exact .inr (by simp;omega)
         clear HS
         rcases TB with⟨_,aM⟩ | ⟨aM,_⟩<;>rcases hz with⟨hz1,hz2⟩ | hz1<;>
         ·go_wp2
          go_ret3
          rw [Gz l q (by rw [←Hn.out];exact h1) HT.out.symm]
          exact⟨rfl,PK HA.out (by simp;omega) rfl⟩
       ·have HT:Hid (IJ (9-k) (k+1) (x+c%128*128^k) (l.drop (q+k+1))=IJ 10 0 0 (l.drop q)):=by
         have:=HS.out;rw [if_neg h128] at this;exact this
        clear HS
        rcases TB with⟨_,aM⟩ | ⟨aM,h⟩
        ·go_wp2
         go_round
         case rel=>exact⟨k+1,_,by omega,HL.out,by go_num,by rw [HA.out],by rw [←HT.out,show 10-(k+1)=9-k from by omega,show q+(k+1)=q+k+1 from by omega]⟩
         case measure=>simp [intOf];omega
        ·exact absurd h (by omega)
      ·have HT:Hid ((0,0,11)=IJ 10 0 0 (l.drop q)):=by
        have:=HR4.out;rw [if_pos ⟨h9,h1c⟩] at this;exact this
       clear HR4
       have aM:((k:Int)==9)=true:=by simp;omega
       have h1c2:(1:Int)<c:=by omega
       clear h9 h1c
       go_wp2
       go_ret3
       rw [Gz l q (by rw [←Hn.out];exact h1) HT.out.symm]
       exact⟨rfl,PK rfl rfl rfl⟩
     ·have HT:Hid ((0,0,10)=IJ 10 0 0 (l.drop q)):=by
       have:=HR2.out
       rw [List.drop_of_length_le (by rw [←Hn.out];omega),aN] at this
       exact this
      go_wp2
      go_ret3
      rw [Gz l q (by rw [←Hn.out];exact h1) HT.out.symm]
      exact⟨rfl,PK rfl rfl rfl⟩
    ·obtain rfl:k=10:=by omega
     have HT:Hid ((0,0,11)=IJ 10 0 0 (l.drop q)):=HR.out
     go_wp2
     go_ret3
     rw [Gz l q (by rw [←Hn.out];exact h1) HT.out.symm]
     exact⟨rfl,PK rfl rfl rfl⟩
  ·go_enter func110,ntmps110
   go_wp2
   go_ret3
   rw [LW l q (.inr (by rw [←Hn.out];omega))]
   exact⟨rfl,PK rfl rfl rfl⟩
 ·go_enter func110,ntmps110
  go_wp2
  go_ret3
  rw [LW l p (.inl (by omega))]
  exact⟨rfl,PK rfl rfl rfl⟩
def noR (e a:Int):(Int×Int)⊕Nat→(Int×Int)⊕Nat
 | .inl x=> .inl x
 | .inr _=> .inl (e,a)
theorem Cy {w:World} {g:Nat} (i:Nat) (u:Value):Keep (KN g) w (w.setCell ⟨g,i,none⟩ u):=(Keep.refl _ _).setCell (fun h=>h rfl) u
theorem MN (g:Nat) (Bs:Value) (e a:Int) (st:(Int×Int)⊕Nat) (w:World) (h:CK 146 w g Bs st) (he:e≠0):
 Calls prog 84 #[.pointer (some ⟨g,0,none⟩),.int .i64 e,.int .i64 a] w (Gy 146 g Bs w (noR e a st) fun en _=>en= .returned (.tuple #[])):=by
 cases st with
 | inl x=>
  obtain⟨hne,b,hb⟩:=h
  have H:=AA (show CK 146 w g Bs (.inl x)from⟨hne,b,hb⟩)
  have q2:=hb.q 2 rfl
  have n1:(x.1==0)=false:=beq_eq_false_iff_ne.2 hne
  clear hne hb
  go_enter func84,ntmps84
  go_wp2_with fail
  go_end0
  exact⟨Keep.refl _ _,H.out,rfl⟩
 | inr p=>
  have hb:AQ w g 146 [Bs,.int .i64 p,.int .i64 0,.int .i64 0]:=h
  have H:=AA hb
  have q2:=hb.q 2 rfl
  have q3:=hb.q 3 rfl
  have z2:=hb.frozen 2
  have z3:=hb.frozen 3
  clear h hb
  go_enter func84,ntmps84
  go_wp2_with fail
  go_end0
  exact⟨(Cy 2 _).trans (Cy 3 _),⟨he,p,(H.out.set 2 (.int .i64 e)).set 3 (.int .i64 a)⟩,rfl⟩
theorem Dn (g B:Nat) (A:Option Addr) (c:Nat) (l:List UInt8) (most:Nat) (great:Int) (st:(Int×Int)⊕Nat) (w:World) (h:CK 146 w g (.slice A l.length c) st) (hr:Row w B A (l.map bv)) (hl:l.length≤140737488351232) (hg:great≠0):
 Calls prog 81 #[.pointer (some ⟨g,0,none⟩),.int .u64 most,.int .i64 great] w (Gy 146 g (.slice A l.length c) w (posR (Ak st (Ar l most great))) fun en _=>en= .returned (.int .u64 (B_ 0 (Ak st (Ar l most great)):Nat))):=by
 cases st with
 | inl x=>
  obtain⟨hne,b,hb⟩:=h
  have H:=AA (show CK 146 w g (.slice A l.length c) (.inl x)from⟨hne,b,hb⟩)
  have q2:=hb.q 2 rfl
  have n1:(x.1 !=0)=true:=bne_iff_ne.2 hne
  clear hne hb hr
  go_enter func81,ntmps81
  go_wp2_with fail
  go_ret
  exact⟨Keep.refl _ _,H.out,rfl⟩
 | inr p=>
  have hb:AQ w g 146 [.slice A l.length c,.int .i64 p,.int .i64 0,.int .i64 0]:=h
  have H:=AA hb
  have HR:=AA hr
  have q0:=hb.q 0 rfl
  have q1:=hb.q 1 rfl
  have q2:=hb.q 2 rfl
  have HU:Hid (∀x,Calls prog 110 #[.slice A l.length c,.int .i64 p] (w.drewN x) fun e w'=>w.drewN x=w'∧e= .returned (.tuple #[.int .u64 (EJ l p).1,.int .i64 (EJ l p).2.1,.int .i64 (EJ l p).2.2])):=AA (fun x=>T_ A l.length c B p (w.drewN x) l rfl hl (HR.out.drewN x))
  have HQ:Hid (Ak (.inr p) (Ar l most great)=Ar l most great p):=AA rfl
  have HN:Hid (Ar l most great p=if(EJ l p).2.2≠0 then .inl ((EJ l p).2.2,p) else if most<(EJ l p).1 then .inl (great,p) else .inr ((EJ l p).1,(EJ l p).2.1)):=AA rfl
  rw [HQ.out]
  clear h hb hr HQ
  generalize EJ l p=u at*
  obtain⟨v,q,er⟩:=u
  dsimp only at HU HN
  go_enter func81,ntmps81
  go_wp2_with fail
  go_quiet ((go_at_call 110;exact Bj (HU.out _)))
  generalize hw2:w.drewN _=w2
  have H2:Hid (AQ w2 g 146 [.slice A l.length c,.int .i64 p,.int .i64 0,.int .i64 0]):=AA (by rw [←hw2];exact H.out.drewN _)
  have HK:Hid (Keep (KN g) w w2):=AA (by rw [←hw2];exact(Keep.refl _ _).drewN _)
  have k1:=H2.out.q 1 rfl
  have z1:=H2.out.frozen 1
  clear hw2 H q0 q1 q2 HU
  by_cases her:er=0
  ·subst her
   by_cases hv:most<v
   ·have HX:Hid (Ar l most great p= .inl (great,p)):=AA (by rw [HN.out,if_neg (by simp),if_pos hv])
    have hvi:(most:Int)<v:=by omega
    have n2:(great !=0)=true:=bne_iff_ne.2 hg
    clear HN
    go_wp2_with fail
    refine(MN g _ great p (.inr p) w2 H2.out hg).mono ?_
    rintro en w3 ⟨hk,hs,rfl⟩
    have GQ:=AA hk;have Iy:=AA hs
    clear hk hs
    go_wp2_with fail
    go_ret
    rw [HX.out]
    exact⟨HK.out.trans GQ.out,Iy.out,rfl⟩
   ·have HX:Hid (Ar l most great p= .inr (v,q)):=AA (by rw [HN.out,if_neg (by simp),if_neg hv])
    have hvi: ¬(most:Int)<v:=by omega
    clear HN
    go_wp2_with fail
    go_ret
    rw [HX.out]
    exact⟨HK.out.trans (Cy 1 _),H2.out.set 1 (.int .i64 q),rfl⟩
  ·have HX:Hid (Ar l most great p= .inl ((er:Int),(p:Int))):=AA (by rw [HN.out,if_pos her])
   have n1:((er:Int)==0)=false:=by rw [beq_eq_false_iff_ne];omega
   have n2:((er:Int) !=0)=true:=by rw [bne_iff_ne];omega
   have hei:(er:Int)≠0:=by omega
   clear HN her
   go_wp2_with fail
   refine(MN g _ er p (.inr p) w2 H2.out hei).mono ?_
   rintro en w3 ⟨hk,hs,rfl⟩
   have GQ:=AA hk;have Iy:=AA hs
   clear hk hs
   go_wp2_with fail
   go_ret
   rw [HX.out]
   exact⟨HK.out.trans GQ.out,Iy.out,rfl⟩
theorem G_ (g:Nat) (Bs:Value) (e a:Int) (st:(Int×Int)⊕Nat) (w:World) (h:CK 112 w g Bs st) (he:e≠0):
 Calls prog 60 #[.pointer (some ⟨g,0,none⟩),.int .i64 e,.int .i64 a] w (Gy 112 g Bs w (noR e a st) fun en _=>en= .returned (.tuple #[])):=by
 cases st with
 | inl x=>
  obtain⟨hne,b,hb⟩:=h
  have H:=AA (show CK 112 w g Bs (.inl x)from⟨hne,b,hb⟩)
  have q2:=hb.q 2 rfl
  have n1:(x.1==0)=false:=beq_eq_false_iff_ne.2 hne
  clear hne hb
  go_enter func60,ntmps60
  go_wp2_with fail
  go_end0
  exact⟨Keep.refl _ _,H.out,rfl⟩
 | inr p=>
  have hb:AQ w g 112 [Bs,.int .i64 p,.int .i64 0,.int .i64 0]:=h
  have H:=AA hb
  have q2:=hb.q 2 rfl
  have q3:=hb.q 3 rfl
  have z2:=hb.frozen 2
  have z3:=hb.frozen 3
  clear h hb
  go_enter func60,ntmps60
  go_wp2_with fail
  go_end0
  exact⟨(Cy 2 _).trans (Cy 3 _),⟨he,p,(H.out.set 2 (.int .i64 e)).set 3 (.int .i64 a)⟩,rfl⟩
theorem Dm (g B:Nat) (A:Option Addr) (c:Nat) (l:List UInt8) (most:Nat) (great:Int) (st:(Int×Int)⊕Nat) (w:World) (h:CK 112 w g (.slice A l.length c) st) (hr:Row w B A (l.map bv)) (hl:l.length≤140737488351232) (hg:great≠0):
 Calls prog 57 #[.pointer (some ⟨g,0,none⟩),.int .u64 most,.int .i64 great] w (Gy 112 g (.slice A l.length c) w (posR (Ak st (Ar l most great))) fun en _=>en= .returned (.int .u64 (B_ 0 (Ak st (Ar l most great)):Nat))):=by
 cases st with
 | inl x=>
  obtain⟨hne,b,hb⟩:=h
  have H:=AA (show CK 112 w g (.slice A l.length c) (.inl x)from⟨hne,b,hb⟩)
  have q2:=hb.q 2 rfl
  have n1:(x.1 !=0)=true:=bne_iff_ne.2 hne
  clear hne hb hr
  go_enter func57,ntmps57
  go_wp2_with fail
  go_ret
  exact⟨Keep.refl _ _,H.out,rfl⟩
 | inr p=>
  have hb:AQ w g 112 [.slice A l.length c,.int .i64 p,.int .i64 0,.int .i64 0]:=h
  have H:=AA hb
  have HR:=AA hr
  have q0:=hb.q 0 rfl
  have q1:=hb.q 1 rfl
  have q2:=hb.q 2 rfl
  have HU:Hid (∀x,Calls prog 91 #[.slice A l.length c,.int .i64 p] (w.drewN x) fun e w'=>w.drewN x=w'∧e= .returned (.tuple #[.int .u64 (EJ l p).1,.int .i64 (EJ l p).2.1,.int .i64 (EJ l p).2.2])):=AA (fun x=>Wh A l.length c B p (w.drewN x) l rfl hl (HR.out.drewN x))
  have HQ:Hid (Ak (.inr p) (Ar l most great)=Ar l most great p):=AA rfl
  have HN:Hid (Ar l most great p=if(EJ l p).2.2≠0 then .inl ((EJ l p).2.2,p) else if most<(EJ l p).1 then .inl (great,p) else .inr ((EJ l p).1,(EJ l p).2.1)):=AA rfl
  rw [HQ.out]
  clear h hb hr HQ
  generalize EJ l p=u at*
  obtain⟨v,q,er⟩:=u
  dsimp only at HU HN
  go_enter func57,ntmps57
  go_wp2_with fail
  go_quiet ((go_at_call 91;exact Bj (HU.out _)))
  generalize hw2:w.drewN _=w2
  have H2:Hid (AQ w2 g 112 [.slice A l.length c,.int .i64 p,.int .i64 0,.int .i64 0]):=AA (by rw [←hw2];exact H.out.drewN _)
  have HK:Hid (Keep (KN g) w w2):=AA (by rw [←hw2];exact(Keep.refl _ _).drewN _)
  have k1:=H2.out.q 1 rfl
  have z1:=H2.out.frozen 1
  clear hw2 H q0 q1 q2 HU
  by_cases her:er=0
  ·subst her
   by_cases hv:most<v
   ·have HX:Hid (Ar l most great p= .inl (great,p)):=AA (by rw [HN.out,if_neg (by simp),if_pos hv])
    have hvi:(most:Int)<v:=by omega
    have n2:(great !=0)=true:=bne_iff_ne.2 hg
    clear HN
    go_wp2_with fail
    refine(G_ g _ great p (.inr p) w2 H2.out hg).mono ?_
    rintro en w3 ⟨hk,hs,rfl⟩
    have GQ:=AA hk;have Iy:=AA hs
    clear hk hs
    go_wp2_with fail
    go_ret
    rw [HX.out]
    exact⟨HK.out.trans GQ.out,Iy.out,rfl⟩
   ·have HX:Hid (Ar l most great p= .inr (v,q)):=AA (by rw [HN.out,if_neg (by simp),if_neg hv])
    have hvi: ¬(most:Int)<v:=by omega
    clear HN
    go_wp2_with fail
    go_ret
    rw [HX.out]
    exact⟨HK.out.trans (Cy 1 _),H2.out.set 1 (.int .i64 q),rfl⟩
  ·have HX:Hid (Ar l most great p= .inl ((er:Int),(p:Int))):=AA (by rw [HN.out,if_pos her])
   have n1:((er:Int)==0)=false:=by rw [beq_eq_false_iff_ne];omega
   have n2:((er:Int) !=0)=true:=by rw [bne_iff_ne];omega
   have hei:(er:Int)≠0:=by omega
   clear HN her
   go_wp2_with fail
   refine(G_ g _ er p (.inr p) w2 H2.out hei).mono ?_
   rintro en w3 ⟨hk,hs,rfl⟩
   have GQ:=AA hk;have Iy:=AA hs
   clear hk hs
   go_wp2_with fail
   go_ret
   rw [HX.out]
   exact⟨HK.out.trans GQ.out,Iy.out,rfl⟩
end Go.Proofs.YtlagonfamllgjaaGreatDoor
