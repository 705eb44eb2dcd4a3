/- Part 36 of the proof: VdR -/
import Derived.Test.YtlagonfamllgjaaGreatDoorK35
namespace Go.Proofs.YtlagonfamllgjaaGreatDoor
set_option linter.unusedVariables false
set_option linter.unusedSimpArgs false
set_option maxRecDepth 100000
set_option maxHeartbeats 4000000
open Go.RowKit Tryz
theorem Tj {code:List Ad} {e:Int×Int} (h:ctl code= .inl e):e.1≠0:=QA _ h
def IV (W:World) (b:Nat):World:=((((W.setCell ⟨b,0,none⟩ (.slice none 0 0)).setCell ⟨b,1,none⟩ (.slice none 0 0)).setCell ⟨b,2,none⟩ (.slice none 0 0)).setCell ⟨b,3,none⟩ (.slice none 0 0)).setCell ⟨b,4,none⟩ (.int .i64 0)
theorem Mx {w W:World} {n:Nat} (h:AQ W (n+1) 107 [.slice none 0 0,.slice none 0 0,.slice none 0 0,.slice none 0 0,.int .i64 0]) (hb:Below n w W):
 AQ (IV W (n+1)) (n+1) 107 [.slice none 0 0,.slice none 0 0,.slice none 0 0,.slice none 0 0,.int .i64 0]∧Below n w (IV W (n+1)):=by
 unfold IV
 have h1:=h.set 0 (.slice none 0 0)
 have h2:=h1.set 1 (.slice none 0 0)
 have h3:=h2.set 2 (.slice none 0 0)
 have h4:=h3.set 3 (.slice none 0 0)
 have h5:=h4.set 4 (.int .i64 0)
 have c1:=hb.setCell (p:=⟨n+1,0,none⟩) (Nat.le_succ _) (.slice none 0 0)
 have c2:=c1.setCell (p:=⟨n+1,1,none⟩) (Nat.le_succ _) (.slice none 0 0)
 have c3:=c2.setCell (p:=⟨n+1,2,none⟩) (Nat.le_succ _) (.slice none 0 0)
 have c4:=c3.setCell (p:=⟨n+1,3,none⟩) (Nat.le_succ _) (.slice none 0 0)
 exact⟨h5,c4.setCell (p:=⟨n+1,4,none⟩) (Nat.le_succ _) (.int .i64 0)⟩
def OY:Value:= .agg #[.slice none 0 0,.slice none 0 0,.slice none 0 0,.slice none 0 0,.int .i64 0]
def oK (m:AP) (f:Bv) (w:World) (e:Ending) (w':World):Prop:=Below w.heap.size w w'∧match GY m f with
 | .inl q=>e= .returned (.tuple #[OY,.int .i64 q.1,.int .i64 q.2])
 | .inr tb=> ∃cs:List Value,e= .returned (.tuple #[.agg cs.toArray,.int .i64 0,.int .i64 0])∧Nw.R w' w.heap.size w'.heap.size cs tb
def IW (W:World) (b:Nat) (a0 a1 a2 a3 a4:Value):World:=((((W.setCell ⟨b,0,none⟩ a0).setCell ⟨b,1,none⟩ a1).setCell ⟨b,2,none⟩ a2).setCell ⟨b,3,none⟩ a3).setCell ⟨b,4,none⟩ a4
theorem Wm {w W:World} {n:Nat} {z0 z1 z2 z3 z4:Value} (a0 a1 a2 a3 a4:Value) (h:AQ W (n+1) 107 [z0,z1,z2,z3,z4]) (hb:Below n w W):
 AQ (IW W (n+1) a0 a1 a2 a3 a4) (n+1) 107 [a0,a1,a2,a3,a4]∧Below n w (IW W (n+1) a0 a1 a2 a3 a4)∧
 (∀(base:Nat) (e:TypeId) (v:Value) (k:Nat) (xs:List Value),n+1<base→W.ownsRow base e 1 v k xs→(IW W (n+1) a0 a1 a2 a3 a4).ownsRow base e 1 v k xs)∧
 (∀(g:Nat) (t:TypeId) (xs:List Value),g≠n+1→AQ W g t xs→AQ (IW W (n+1) a0 a1 a2 a3 a4) g t xs):=by
 unfold IW
 have h1:=h.set 0 a0
 have h2:=h1.set 1 a1
 have h3:=h2.set 2 a2
 have h4:=h3.set 3 a3
 have h5:=h4.set 4 a4
 have c1:=hb.setCell (p:=⟨n+1,0,none⟩) (Nat.le_succ _) a0
 have c2:=c1.setCell (p:=⟨n+1,1,none⟩) (Nat.le_succ _) a1
 have c3:=c2.setCell (p:=⟨n+1,2,none⟩) (Nat.le_succ _) a2
 have c4:=c3.setCell (p:=⟨n+1,3,none⟩) (Nat.le_succ _) a3
 refine⟨h5,c4.setCell (p:=⟨n+1,4,none⟩) (Nat.le_succ _) a4,fun base e v k xs hl ho=> ?_,fun g t xs hg hk=> ?_⟩
 ·exact J3 (J3 (J3 (J3 (J3 ho (p:=⟨n+1,0,none⟩) hl a0) (p:=⟨n+1,1,none⟩) hl a1) (p:=⟨n+1,2,none⟩) hl a2) (p:=⟨n+1,3,none⟩) hl a3) (p:=⟨n+1,4,none⟩) hl a4
 ·exact((((hk.far (p:=⟨n+1,0,none⟩) hg a0).far (p:=⟨n+1,1,none⟩) hg a1).far (p:=⟨n+1,2,none⟩) hg a2).far (p:=⟨n+1,3,none⟩) hg a3).far (p:=⟨n+1,4,none⟩) hg a4
theorem dN {W:World} {base g:Nat} {t:TypeId} {xs:List Value} {n:Nat} (hb:AQ W g t xs) (hg:base≤g) (hn:n=xs.length) (hm:n≤1000000):W.ownsRow base t 1 (.slice (some ⟨g,0,none⟩) n n) n xs:=by
 subst hn
 exact⟨by simp,.inr ⟨g,xs.length,xs.toArray,rfl,hg,hb,Nat.le_refl _,by unfold maxLen;omega,by simp,by simp⟩⟩
theorem Yf {w:World} {base:Nat} {e:TypeId} {A:Option Addr} {n c:Nat} {xs:List ByteArray} (h:w.ownsRow base e 1 (.slice A n c) n (xs.map Value.string)) (hb: ∀x∈xs,Rd.Pq x):
 (Rd.str.sl false).R w base w.heap.size [.slice A n c] xs:=by
 have hl:n=xs.length:=by have:=h.1;simpa using this.symm
 refine Rd.own false (r:=Rd.str) h hl fun k x hk=> ?_
 show(((xs.map Value.string).drop (k*1)).take 1)= [Value.string x]∧Rd.Pq x
 have hlt:=(List.getElem?_eq_some_iff.1 hk)
 refine⟨?_,hb x (List.mem_of_getElem? hk)⟩
 rw [Nat.mul_one,←List.map_drop,List.drop_eq_getElem_cons hlt.1,hlt.2]
 rfl
theorem vM {W:World} {n b1 b2 N:Nat} {vS vF:Value} {sh:List ByteArray} {fl en el:List Int} {hg:Nat} (h0:W.ownsRow n 9 1 vS sh.length (sh.map Value.string)) (h1:W.ownsRow n 3 1 vF fl.length (fl.map iv)) (h2:AQ W b1 3 (en.map iv)) (h3:AQ W b2 3 (el.map iv))
 (e1:N=en.length) (e2:N=el.length) (hN:N≤2048) (g1:n≤b1) (g2:n≤b2) (hs: ∀s∈sh,s.size≤256) (hf: ∀v∈fl,-1≤v∧v≤256) (hE: ∀v∈en,-1≤v∧v<(N:Int)) (hL: ∀v∈el,-1≤v∧v<(N:Int)) (hh:hg≤256):
 Nw.R W n W.heap.size [vS,.slice (some ⟨b1,0,none⟩) N N,.slice (some ⟨b2,0,none⟩) N N,vF,.int .i64 (hg:Int)] ⟨sh,en,el,fl,(hg:Int)⟩:=by
 obtain⟨A,c,rfl⟩:=Ck h0
 obtain⟨A',c',rfl⟩:=Ck h1
 refine ME.2 ⟨_,_,_,_,rfl,Yf h0 fun s hm=> ?_,Mi (dN h2 g1 (by simp [e1]) (by omega)) fun v hm=> ?_,Mi (dN h3 g2 (by simp [e2]) (by omega)) fun v hm=> ?_,Mi h1 fun v hm=> ?_,?_⟩
 ·have:=hs s hm;unfold Rd.Pq;omega
 ·have:=hE v hm;unfold Rd.G8;omega
 ·have:=hL v hm;unfold Rd.G8;omega
 ·have:=hf v hm;unfold Rd.G8;omega
 ·show Rd.G8 (hg:Int)
  unfold Rd.G8;omega
theorem iK {W:World} {base g:Nat} {t:TypeId} {v:Value} (hb:AQ W g t [v]) (hg:base≤g):W.ownsRow base t 1 (.slice (some ⟨g,0,none⟩) 1 1) 1 [v]:=
 ⟨rfl,.inr ⟨g,1,#[v],rfl,hg,hb,Nat.le_refl _,by unfold maxLen;omega,rfl,rfl⟩⟩
theorem AEO {w5:World} {lo g:Nat} {x:Fx} {m:AP} {f:Bv} {r:ByteArray} (hr:(B_ m f.t).r=r) (hx:x.ext= []) (hl:lo≤g)
 (h:AQ w5 g 172 [x.m0,x.m1,x.m2,x.m3,x.m4,x.m5,x.m6,x.m7,.string x.sp,.string x.sr,.string x.loc,x.code,.slice none 0 0,x.ends,x.AJ,.slice none 0 0,.int .i64 0,.slice none 0 0,.string ⟨#[]⟩,.bool false,.int .i64 0]):
 Wk (((w5.setCell ⟨g,17,none⟩ (.slice (some ⟨w5.heap.size+1,0,none⟩) 1 1)).alloc (.cells #[.string ⟨#[]⟩,.string r,.int .i64 (-1),.int .u8 0,.string ⟨#[]⟩] 175)).alloc (.cells #[.pointer (some ⟨w5.heap.size,0,none⟩)] 173)) lo g x (CY m f) 0∧
 Below lo w5 (((w5.setCell ⟨g,17,none⟩ (.slice (some ⟨w5.heap.size+1,0,none⟩) 1 1)).alloc (.cells #[.string ⟨#[]⟩,.string r,.int .i64 (-1),.int .u8 0,.string ⟨#[]⟩] 175)).alloc (.cells #[.pointer (some ⟨w5.heap.size,0,none⟩)] 173)):=by
 have hlt:=h.lt
 have k1:=h.set 17 (.slice (some ⟨w5.heap.size+1,0,none⟩) 1 1)
 have hb1:Below lo w5 (w5.setCell ⟨g,17,none⟩ (.slice (some ⟨w5.heap.size+1,0,none⟩) 1 1)):=(Below.refl _ _).setCell hl _
 have hz1:(w5.setCell ⟨g,17,none⟩ (.slice (some ⟨w5.heap.size+1,0,none⟩) 1 1)).heap.size=w5.heap.size:=by simp
 generalize w5.setCell ⟨g,17,none⟩ (.slice (some ⟨w5.heap.size+1,0,none⟩) 1 1)=W1 at k1 hb1 hz1⊢
 have o1:=AQ.new W1 175 [.string ⟨#[]⟩,.string r,.int .i64 (-1),.int .u8 0,.string ⟨#[]⟩]
 have k2:=k1.alloc (.cells #[.string ⟨#[]⟩,.string r,.int .i64 (-1),.int .u8 0,.string ⟨#[]⟩] 175)
 have hz2:(W1.alloc (.cells #[.string ⟨#[]⟩,.string r,.int .i64 (-1),.int .u8 0,.string ⟨#[]⟩] 175)).heap.size=w5.heap.size+1:=by rw [World.size_alloc,hz1]
 have hb2:=hb1.alloc (by omega) (.cells #[.string ⟨#[]⟩,.string r,.int .i64 (-1),.int .u8 0,.string ⟨#[]⟩] 175)
 rw [hz1] at o1
 change AQ (W1.alloc (.cells #[.string ⟨#[]⟩,.string r,.int .i64 (-1),.int .u8 0,.string ⟨#[]⟩] 175)) _ _ _ at o1
 generalize W1.alloc (.cells #[.string ⟨#[]⟩,.string r,.int .i64 (-1),.int .u8 0,.string ⟨#[]⟩] 175)=W2 at k2 hz2 hb2 o1⊢
 have p1:=AQ.new W2 173 [.pointer (some ⟨w5.heap.size,0,none⟩)]
 rw [hz2] at p1
 have k3:=k2.alloc (.cells #[.pointer (some ⟨w5.heap.size,0,none⟩)] 173)
 have o3:=o1.alloc (.cells #[.pointer (some ⟨w5.heap.size,0,none⟩)] 173)
 have hb3:=hb2.alloc (by omega) (.cells #[.pointer (some ⟨w5.heap.size,0,none⟩)] 173)
 change AQ (W2.alloc (.cells #[.pointer (some ⟨w5.heap.size,0,none⟩)] 173)) _ _ _ at p1
 generalize W2.alloc (.cells #[.pointer (some ⟨w5.heap.size,0,none⟩)] 173)=W3 at k3 o3 hb3 p1⊢
 refine⟨⟨.slice none 0 0,.slice none 0 0,.slice (some ⟨w5.heap.size+1,0,none⟩) 1 1,[w5.heap.size],?_⟩,hb3⟩
 refine⟨k3,⟨rfl,Or.inl ⟨rfl,rfl⟩⟩,⟨rfl,Or.inl ⟨rfl,rfl⟩⟩,iK p1 (by omega),rfl,?_,hl,fun q hq=>absurd hq (by rw [hx];simp),fun q hq=>absurd hq (by rw [hx];simp)⟩
 intro k o b h1 h2
 cases k with
 | zero=>
  injection h1 with h1;injection h2 with h2
  subst h1;subst h2
  refine⟨by omega,?_⟩
  subst hr
  exact o3
 | succ k=>simp at h2
theorem Yg (cs:List Value) (hi:Nat) (m:AP) (k:Nat) (f:Bv) (w:World) (h:DJ.R w 0 hi cs m) (hhi:hi≤w.heap.size) (hm:Kc m) (hk:m.fns[k]?=some f)
 (htab: ∀w',Below hi w w'→Lib.TabIs prog w' "strings.asciiSpace" .u8 Lib.asciiSpaceTab):
 Calls prog 78 #[.agg cs.toArray,.int .i64 k] w fun e w'=>oK m f w e w':=by
 have H:=AA h;have HT:=AA htab;have HM:=AA hm
 obtain⟨v1,v2,v3,v4,v5,v6,rfl,h0,h1,h2,_,_,h5,_,_⟩:=Am.1 h
 obtain⟨A5,c5,rfl⟩:=AB h5
 obtain⟨A0,c0,rfl⟩:=AB h0
 obtain⟨bf,of,TJ,Ko,gZ,_,hbf,hf0,hf1,hf2,hfB,X0,jX⟩:=Eu h5 hk
 subst gZ
 have hfo:=hm.fns f (List.mem_of_getElem? hk)
 have hlt:=(List.getElem?_eq_some_iff.1 hk).1
 have hk0:(0:Int)≤k:=by omega
 have hk1:(k:Int)<m.fns.length:=by omega
 obtain⟨t,ht⟩: ∃t:Nat,f.t=(t:Int):=⟨f.t.toNat,by have:=hfo.t0;omega⟩
 have htl:t<m.types.length:=by have:=hfo.t1;omega
 obtain⟨ty,hty⟩: ∃ty,m.types[t]?=some ty:=⟨_,List.getElem?_eq_getElem htl⟩
 obtain⟨bt,ot,S_,_,hbt,ht0,ht1,htp,htr⟩:=CZ h0 hty
 subst S_
 have Ho:B_ m f.t=ty:=by rw [ht];exact FC hty
 have TD:=AA Ho
 have HTZ:=AA (hm.types ty (List.mem_of_getElem? hty))
 have hloc:f.loc.size+ty.p.size≤64:=by have:=hfo.loc;rw [Ho] at this;exact this
 have HLC:=AA hloc
 have t_:(0:Int)≤t:=by omega
 have uD:(t:Int)<m.types.length:=by omega
 rw [ht] at hf0
 have HT_:=AA ht
 have HG0:=AA ht0;have HG1:=AA ht1;have HG2:=AA hbt
 have yT:=AA jX;have yt:=AA hfo
 clear h htab hm h0 h1 h2 h5 hk jX X0 hfB hfo Ho hloc ht ht0 ht1 hbt htp htr hty
 go_enter func78,ntmps78
 go_upto_region 1 with fail
 generalize hw1:(w.alloc (.cells #[.slice (some ⟨bt,ot,none⟩) m.types.length c0,v2,v3,.int .i64 m.first,.int .i64 m.most,.slice (some ⟨bf,of,none⟩) m.fns.length c5,v5,v6] 29)).alloc (.cells #[.slice none 0 0,.slice none 0 0,.slice none 0 0,.slice none 0 0,.int .i64 0] 107)=w1
 have hb1:Below w.heap.size w w1:=by rw [←hw1];exact((Below.refl _ _).alloc (Nat.le_refl _) _).alloc (by simp only [World.size_alloc];omega) _
 have Px:Hid (AQ w1 w.heap.size 29 [.slice (some ⟨bt,ot,none⟩) m.types.length c0,v2,v3,.int .i64 m.first,.int .i64 m.most,.slice (some ⟨bf,of,none⟩) m.fns.length c5,v5,v6]):=AA (by rw [←hw1];exact(AQ.new w 29 _).alloc _)
 have HT1:Hid (AQ w1 (w.heap.size+1) 107 [.slice none 0 0,.slice none 0 0,.slice none 0 0,.slice none 0 0,.int .i64 0]):=AA (by
  have:=AQ.new (w.alloc (.cells #[.slice (some ⟨bt,ot,none⟩) m.types.length c0,v2,v3,.int .i64 m.first,.int .i64 m.most,.slice (some ⟨bf,of,none⟩) m.fns.length c5,v5,v6] 29)) 107 [.slice none 0 0,.slice none 0 0,.slice none 0 0,.slice none 0 0,.int .i64 0]
  rw [World.size_alloc] at this
  rw [←hw1];exact this)
 have HSZ1:Hid (w1.heap.size=w.heap.size+1+1):=AA (by rw [←hw1];simp only [World.size_alloc])
 have hm5:=Px.out.q 5 rfl
 have hg0:w1.cell? ⟨bf,of+k*3,none⟩=some (.int .i64 (t:Int)):=(hb1.cell (Nat.lt_of_lt_of_le hbf hhi)).trans hf0
 have hg1:w1.cell? ⟨bf,of+k*3+1,none⟩=some (.string f.loc):=(hb1.cell (Nat.lt_of_lt_of_le hbf hhi)).trans hf1
 have hg2:w1.cell? ⟨bf,of+k*3+2,none⟩=some (.slice TJ f.code.length Ko):=(hb1.cell (Nat.lt_of_lt_of_le hbf hhi)).trans hf2
 have HB1:=AA hb1
 clear hw1 hf0 hf1 hf2 hb1
 go_upto_region 2 with fail
 generalize hw2:w1.alloc (.cells #[.int .i64 (t:Int),.string f.loc,.slice TJ f.code.length Ko] 96)=w2
 have hb2:Below w1.heap.size w1 w2:=by rw [←hw2];exact(Below.refl _ _).alloc (Nat.le_refl _) _
 have Im:Hid (AQ w2 w1.heap.size 96 [.int .i64 (t:Int),.string f.loc,.slice TJ f.code.length Ko]):=AA (by rw [←hw2];exact AQ.new w1 96 _)
 have HSZ2:Hid (w2.heap.size=w1.heap.size+1):=AA (by rw [←hw2];simp only [World.size_alloc])
 have HB2:Hid (Below w.heap.size w w2):=AA (HB1.out.trans (hb2.mono HB1.out.size))
 have ZH:=AA (Px.out.below hb2 Px.out.lt)
 have HT2:=AA (HT1.out.below hb2 HT1.out.lt)
 have hf2:=Im.out.q 2 rfl
 clear hw2 hb2 hm5 hg0 hg1 hg2
 go_wp2_with fail
 refine(tZ TJ Ko hi f.code w2 (Rd.below yT.out HB2.out hhi) (Nat.le_trans hhi HB2.out.size) (by have:=yt.out.few;omega)).mono ?_
 rintro e w3 ⟨hb3,hp3⟩
 unfold JH at hp3
 have HB3:=AA hb3
 cases hc:ctl f.code with
 | inl q=>
  rw [hc] at hp3
  subst hp3
  have HC:=AA hc
  have aL:=HT2.out.below hb3 HT2.out.lt
  have HT3:=AA aL
  have hr: ∀j,j<5→ ∃u,w3.cell? ⟨w.heap.size+1,j,none⟩=some u:=fun j hj=>⟨_,by rw [aL.cell j,List.getElem?_eq_getElem (by simpa using hj)]⟩
  have hl3:=aL.lt
  have hf3:=fun j=>aL.frozen j
  have q0:=aL.q 0 rfl
  have q1:=aL.q 1 rfl
  have q2:=aL.q 2 rfl
  have q3:=aL.q 3 rfl
  have q4:=aL.q 4 rfl
  have q5:=aL.frozen 0
  have q6:=aL.frozen 1
  have q7:=aL.frozen 2
  have q8:=aL.frozen 3
  have q9:=aL.frozen 4
  have hne:(q.1 !=0)=true:=by have:=Tj hc;simpa using this
  clear hc aL hf3 hr hb3
  go_wp2_with fail
  obtain⟨hz,hbz⟩:=Mx HT3.out (HB2.out.trans (HB3.out.mono HB2.out.size))
  change bodyPost _ _ _ _ _ (IV w3 (w.heap.size+1))
  generalize IV w3 (w.heap.size+1)=w4 at*
  have z0:=hz.q 0 rfl
  have z1:=hz.q 1 rfl
  have z2:=hz.q 2 rfl
  have z3:=hz.q 3 rfl
  have z4:=hz.q 4 rfl
  refine⟨rfl,.tuple #[OY,.int .i64 q.1,.int .i64 q.2],?_,hbz,?_⟩
  ·simp [results,results78,go_sem,z0,z1,z2,z3,z4,OY]
  ·have:GY m f= .inl q:=by unfold GY;rw [HC.out]
   rw [this]
 | inr c=>
  rw [hc] at hp3
  obtain⟨b1,b2,b3,rfl,e1,e2,e3,l1,l2,l3,n12,n13,n23⟩:=hp3
  have HC:=AA hc
  have YC:=AA e1;have HE2:=AA e2;have oG:=AA e3;have rA:=AA l1;have HL2:=AA l2;have qm:=AA l3
  have HM3:=AA (ZH.out.below hb3 ZH.out.lt)
  have HT3:=AA (HT2.out.below hb3 HT2.out.lt)
  have UC:=AA (Im.out.below hb3 Im.out.lt)
  have HW3:=AA (HB2.out.trans (hb3.mono HB2.out.size))
  have m0:=HM3.out.q 0 rfl
  have f0:=UC.out.q 0 rfl
  have g0:w3.cell? ⟨bt,ot+t*2,none⟩=some (.string ty.p):=(HW3.out.cell (Nat.lt_of_lt_of_le HG2.out hhi)).trans HG0.out
  have g1:w3.cell? ⟨bt,ot+t*2+1,none⟩=some (.string ty.r):=(HW3.out.cell (Nat.lt_of_lt_of_le HG2.out hhi)).trans HG1.out
  clear hc hb3 e1 e2 e3 l1 l2 l3 n12 n13 n23 hf2
  go_upto_region 6 with fail
  generalize hw4:w3.alloc (.cells #[.string ty.p,.string ty.r] 93)=w4
  have hb4:Below w3.heap.size w3 w4:=by rw [←hw4];exact(Below.refl _ _).alloc (Nat.le_refl _) _
  have QO:Hid (AQ w4 w3.heap.size 93 [.string ty.p,.string ty.r]):=AA (by rw [←hw4];exact AQ.new w3 93 _)
  have HSZ4:Hid (w4.heap.size=w3.heap.size+1):=AA (by rw [←hw4];simp only [World.size_alloc])
  have iL:=AA (HM3.out.below hb4 HM3.out.lt)
  have YQ:=AA (UC.out.below hb4 UC.out.lt)
  have C9:=AA hb4
  have s0:=QO.out.q 0 rfl
  have s1:=QO.out.q 1 rfl
  have k1:=YQ.out.q 1 rfl
  have k2:=YQ.out.q 2 rfl
  have q0:=iL.out.q 0 rfl
  have q1:=iL.out.q 1 rfl
  have q2:=iL.out.q 2 rfl
  have q3:=iL.out.q 3 rfl
  have q4:=iL.out.q 4 rfl
  have q5:=iL.out.q 5 rfl
  have q6:=iL.out.q 6 rfl
  have q7:=iL.out.q 7 rfl
  have hz1:ty.p.size≤8:=HTZ.out.1
  have hz2:f.loc.size≤64:=by have:=HLC.out;omega
  clear hw4 hb4 m0 f0 g0 g1
  go_upto_region 7 with fail
  generalize Rf:w4.alloc (.cells #[.slice (some ⟨bt,ot,none⟩) m.types.length c0,v2,v3,.int .i64 m.first,.int .i64 m.most,.slice (some ⟨bf,of,none⟩) m.fns.length c5,v5,v6,.string ty.p,.string ty.r,.string (ty.p++f.loc),.slice TJ f.code.length Ko,.slice none 0 0,.slice (some ⟨b1,0,none⟩) f.code.length f.code.length,.slice (some ⟨b2,0,none⟩) f.code.length f.code.length,.slice none 0 0,.int .i64 0,.slice none 0 0,.string ⟨#[]⟩,.bool false,.int .i64 0] 172)=w5
  have hb5:Below w4.heap.size w4 w5:=by rw [←Rf];exact(Below.refl _ _).alloc (Nat.le_refl _) _
  have l9:Hid (AQ w5 w4.heap.size 172 [.slice (some ⟨bt,ot,none⟩) m.types.length c0,v2,v3,.int .i64 m.first,.int .i64 m.most,.slice (some ⟨bf,of,none⟩) m.fns.length c5,v5,v6,.string ty.p,.string ty.r,.string (ty.p++f.loc),.slice TJ f.code.length Ko,.slice none 0 0,.slice (some ⟨b1,0,none⟩) f.code.length f.code.length,.slice (some ⟨b2,0,none⟩) f.code.length f.code.length,.slice none 0 0,.int .i64 0,.slice none 0 0,.string ⟨#[]⟩,.bool false,.int .i64 0]):=AA (by rw [←Rf];exact AQ.new w4 172 _)
  have HSZ5:Hid (w5.heap.size=w4.heap.size+1):=AA (by rw [←Rf];simp only [World.size_alloc])
  have HS5:=AA (QO.out.below hb5 QO.out.lt)
  have D8:=AA hb5
  have s1:=HS5.out.q 1 rfl
  have k17:=l9.out.q 17 rfl
  have k17f:=l9.out.frozen 17
  have hkl:=l9.out.lt
  clear Rf hb5 s0 k1 k2 q0 q1 q2 q3 q4 q5 q6 q7
  go_upto_region 8 with fail
  generalize hx:(⟨.slice (some ⟨bt,ot,none⟩) m.types.length c0,v2,v3,.int .i64 m.first,.int .i64 m.most,.slice (some ⟨bf,of,none⟩) m.fns.length c5,v5,v6,ty.p,ty.r,ty.p++f.loc,.slice TJ f.code.length Ko,.slice (some ⟨b1,0,none⟩) f.code.length f.code.length,.slice (some ⟨b2,0,none⟩) f.code.length f.code.length,[]⟩:Fx)=x
  have yJ:w3.heap.size≤w4.heap.size:=C9.out.size
  have hq:Wk (((w5.setCell ⟨w4.heap.size,17,none⟩ (.slice (some ⟨w5.heap.size+1,0,none⟩) 1 1)).alloc (.cells #[.string ⟨#[]⟩,.string ty.r,.int .i64 (-1),.int .u8 0,.string ⟨#[]⟩] 175)).alloc (.cells #[.pointer (some ⟨w5.heap.size,0,none⟩)] 173)) w3.heap.size w4.heap.size x (CY m f) 0∧
   Below w3.heap.size w5 (((w5.setCell ⟨w4.heap.size,17,none⟩ (.slice (some ⟨w5.heap.size+1,0,none⟩) 1 1)).alloc (.cells #[.string ⟨#[]⟩,.string ty.r,.int .i64 (-1),.int .u8 0,.string ⟨#[]⟩] 175)).alloc (.cells #[.pointer (some ⟨w5.heap.size,0,none⟩)] 173)):=
   AEO (by rw [TD.out]) (by rw [←hx]) yJ (by rw [←hx];exact l9.out)
  generalize (((w5.setCell ⟨w4.heap.size,17,none⟩ (.slice (some ⟨w5.heap.size+1,0,none⟩) 1 1)).alloc (.cells #[.string ⟨#[]⟩,.string ty.r,.int .i64 (-1),.int .u8 0,.string ⟨#[]⟩] 175)).alloc (.cells #[.pointer (some ⟨w5.heap.size,0,none⟩)] 173))=w6 at hq⊢
  have HQ:=AA hq
  have HX:=AA hx
  clear hq hx s1 k17 k17f hkl
  have vN:Below w3.heap.size w3 w6:=(C9.out.trans (D8.out.mono yJ)).trans HQ.out.2
  have AAk:=AA vN
  have FQ:=AA (HW3.out.trans (vN.mono HW3.out.size))
  have hrd:DJ.R w6 0 hi [x.m0,x.m1,x.m2,x.m3,x.m4,x.m5,x.m6,x.m7] m:=by rw [←HX.out];exact Rd.below H.out FQ.out hhi
  have hcr:(Ei.sl false).R w6 0 hi [.slice TJ f.code.length Ko] f.code:=Rd.below yT.out FQ.out hhi
  have hCO:=QM HC.out
  have hLE:HE2.out.lt=HE2.out.lt:=rfl
  have hel:Tg w6 w3.heap.size x c.AJ:=⟨b2,by rw [←HX.out,hCO.AJ],HE2.out.below vN HE2.out.lt,HE2.out.lt⟩
  have hxe:x.ext= []:=by rw [←HX.out]
  have hxc:x.code= .slice TJ f.code.length Ko:=by rw [←HX.out]
  have hxl:x.loc=CS m f:=by rw [←HX.out];unfold CS;rw [TD.out]
  have hxr:x.sr=(B_ m f.t).r:=by rw [←HX.out];show ty.r=_;rw [TD.out]
  have hht: ∀w',Below hi w6 w'→Lib.TabIs prog w' "strings.asciiSpace" .u8 Lib.asciiSpaceTab:=fun w' hw'=>HT.out w' ((FQ.out.mono hhi).trans hw')
  have CX:=AA hrd;have CV:=AA hcr;have OT:=AA hel;have PK:=AA hxe;have HX5:=AA hxc;have HX6:=AA hxl;have HX7:=AA hxr;have HX8:=AA hht
  clear vN hrd hcr hCO hLE hel hxe hxc hxl hxr hht yJ
  go_wp2_with fail
  refine(vL w6 HQ.out.1 PK.out ⟨CX.out⟩ (Nat.le_trans hhi HW3.out.size) AAk.out.size HM.out yt.out HC.out OT.out HX5.out CV.out HX6.out HX7.out HX8.out).mono ?_
  rintro e w7 ⟨Mf,Yh⟩
  have UA:=AA Mf
  cases hgo:P7 m f c.AJ f.code.length (CY m f)with
  | inl q=>
   rw [hgo] at Yh
   subst Yh
   have HC':=AA hgo
   have iM:=HT3.out.below (AAk.out.trans Mf) HT3.out.lt
   have dO:=AA iM
   have hl3:=iM.lt
   have q0:=iM.q 0 rfl
   have q1:=iM.q 1 rfl
   have q2:=iM.q 2 rfl
   have q3:=iM.q 3 rfl
   have q4:=iM.q 4 rfl
   have q5:=iM.frozen 0
   have q6:=iM.frozen 1
   have q7:=iM.frozen 2
   have q8:=iM.frozen 3
   have q9:=iM.frozen 4
   have hne:(q.1 !=0)=true:=by have:=Vk _ hgo;simpa using this
   clear hgo iM Mf
   go_wp2_with fail
   obtain⟨hz,hbz,_,_⟩:=Wm (.slice none 0 0) (.slice none 0 0) (.slice none 0 0) (.slice none 0 0) (.int .i64 0) dO.out (FQ.out.trans (UA.out.mono HW3.out.size))
   change bodyPost _ _ _ _ _ (IW w7 (w.heap.size+1) (.slice none 0 0) (.slice none 0 0) (.slice none 0 0) (.slice none 0 0) (.int .i64 0))
   generalize IW w7 (w.heap.size+1) (.slice none 0 0) (.slice none 0 0) (.slice none 0 0) (.slice none 0 0) (.int .i64 0)=w8 at*
   have z0:=hz.q 0 rfl
   have z1:=hz.q 1 rfl
   have z2:=hz.q 2 rfl
   have z3:=hz.q 3 rfl
   have z4:=hz.q 4 rfl
   refine⟨rfl,.tuple #[OY,.int .i64 q.1,.int .i64 q.2],?_,hbz,?_⟩
   ·simp [results,results78,go_sem,z0,z1,z2,z3,z4,OY]
   ·have:GY m f= .inl q:=by unfold GY;rw [HC.out];simp only;rw [HC'.out]
    rw [this]
  | inr st=>
   rw [hgo] at Yh
   obtain⟨rfl,s,q,vS,vF,vO,bs,h7⟩:=Yh
   obtain⟨As,cs1,rfl⟩:=Ck h7.sh
   obtain⟨Af,cf1,rfl⟩:=Ck h7.fl
   dsimp only at h7
   have HC':=AA hgo
   have H7:=AA h7
   have vP:=AAk.out.trans Mf
   have dO:=AA (HT3.out.below vP HT3.out.lt)
   have HE17:=AA (YC.out.below vP YC.out.lt)
   have HE27:=AA (HE2.out.below vP HE2.out.lt)
   have hl3:=dO.out.lt
   have q0:=dO.out.q 0 rfl
   have q1:=dO.out.q 1 rfl
   have q2:=dO.out.q 2 rfl
   have q3:=dO.out.q 3 rfl
   have q4:=dO.out.q 4 rfl
   have q5:=dO.out.frozen 0
   have q6:=dO.out.frozen 1
   have q7:=dO.out.frozen 2
   have q8:=dO.out.frozen 3
   have q9:=dO.out.frozen 4
   have r2:=H7.out.blk.q 12 rfl
   have r3:w7.cell? ⟨w4.heap.size,13,none⟩=some (.slice (some ⟨b1,0,none⟩) f.code.length f.code.length):=(H7.out.blk.cell 13).trans (by rw [←HX.out];rfl)
   have r4:w7.cell? ⟨w4.heap.size,14,none⟩=some (.slice (some ⟨b2,0,none⟩) f.code.length f.code.length):=(H7.out.blk.cell 14).trans (by rw [←HX.out];rfl)
   have r5:=H7.out.blk.q 15 rfl
   have r6:=H7.out.blk.q 16 rfl
   clear hgo Mf h7 vP
   go_wp2_with fail
   obtain⟨hz,hbz,hown,hblk⟩:=Wm (.slice As st.shapes.length cs1) (.slice (some ⟨b1,0,none⟩) f.code.length f.code.length) (.slice (some ⟨b2,0,none⟩) f.code.length f.code.length) (.slice Af st.floors.length cf1) (.int .i64 (st.high:Int)) dO.out (FQ.out.trans (UA.out.mono HW3.out.size))
   change bodyPost _ _ _ _ _ (IW w7 (w.heap.size+1) (.slice As st.shapes.length cs1) (.slice (some ⟨b1,0,none⟩) f.code.length f.code.length) (.slice (some ⟨b2,0,none⟩) f.code.length f.code.length) (.slice Af st.floors.length cf1) (.int .i64 (st.high:Int)))
   generalize IW w7 (w.heap.size+1) (.slice As st.shapes.length cs1) (.slice (some ⟨b1,0,none⟩) f.code.length f.code.length) (.slice (some ⟨b2,0,none⟩) f.code.length f.code.length) (.slice Af st.floors.length cf1) (.int .i64 (st.high:Int))=w8 at hz hbz hown hblk⊢
   clear q0 q1 q2 q3 q4 q5 q6 q7 q8 q9 r2 r3 r4 r5 r6
   have z0:=hz.q 0 rfl
   have z1:=hz.q 1 rfl
   have z2:=hz.q 2 rfl
   have z3:=hz.q 3 rfl
   have z4:=hz.q 4 rfl
   refine⟨rfl,.tuple #[.agg #[(.slice As st.shapes.length cs1),.slice (some ⟨b1,0,none⟩) f.code.length f.code.length,.slice (some ⟨b2,0,none⟩) f.code.length f.code.length,(.slice Af st.floors.length cf1),.int .i64 (st.high:Int)],.int .i64 0,.int .i64 0],?_,hbz,?_⟩
   ·simp [results,results78,go_sem,z0,z1,z2,z3,z4]
   ·have:GY m f= .inr ⟨st.shapes,c.ends,c.AJ,st.floors,(st.high:Int)⟩:=by unfold GY;rw [HC.out];simp only;rw [HC'.out]
    rw [this]
    have hct:=QM HC.out
    have hlow:=Vj HM.out yt.out f.code.length (Cw f.code.length) _ _ (Nat.le_refl _) (by rw [Nat.sub_self];exact LV HC.out) HC'.out
    have hl2:=HT2.out.lt
    have AER:=HT3.out.lt
    have hg1:=rA.out
    have hg2:=HL2.out
    have hlen1:=hlow.2.1
    have Kg:=yt.out.few
    refine⟨_,rfl,vM ((hown _ _ _ _ _ AER H7.out.sh).mono HW3.out.size) ((hown _ _ _ _ _ AER H7.out.fl).mono HW3.out.size) (hblk _ _ _ (by omega) HE17.out) (hblk _ _ _ (by omega) HE27.out) hct.ends.symm hct.AJ.symm Kg (by omega) (by omega) hlow.1 hlow.2.2.2.2 hct.bE hct.bL hlow.2.2.2.1⟩
end Go.Proofs.YtlagonfamllgjaaGreatDoor
