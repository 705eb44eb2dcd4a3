/- Part 18 of the proof: WrdC WrdD -/
import Derived.Test.YtebgikflpgcnlaaGreatDoorP17
namespace Go.Proofs.YtebgikflpgcnlaaGreatDoor
set_option linter.unusedVariables false
set_option linter.unusedSimpArgs false
set_option maxRecDepth 100000
set_option maxHeartbeats 4000000
open Go.RowKit Tryz
theorem AFa (x:Av) (A:Option Addr) (c hi:Nat) (w:World) (ha:Rd.Ej x.a) (h:(Rd.i64.sl false).R w 0 hi [.slice A x.l.length c] x.l) (hhi:hi≤w.heap.size) (hle:x.l.length≤131072):
 Calls prog 162 #[.agg #[.int .u8 (x.op.toNat:Int),.int .i64 x.a,.slice A x.l.length c]] w (fun e w'=>Below w.heap.size w w'∧ ∃cs,e= .returned (.agg cs.toArray)∧aK.R w' w.heap.size w'.heap.size cs x):=by
 have H:=AA h;have HA:=AA ha;have OY:=AA hle
 clear h ha hle
 go_enter func162,ntmps162
 go_wp2_with fail
 generalize hw:(w.alloc _).alloc _=w1
 have S:Hid (QA 53 w w1 [.int .u8 (x.op.toNat:Int),.int .i64 x.a,.slice A x.l.length c] [.int .u8 0,.int .i64 0,.slice none 0 0] fun _=>True):=by rw [←hw];exact AA (QA.init _ _ _ _)
 clear hw
 refine(wV A x.l.length c hi x.l w1 (Rd.below H.out S.out.H hhi) (Nat.le_trans hhi S.out.H.size) OY.out).mono ?_
 rintro e w2 ⟨h3,v,rfl,h2⟩
 obtain⟨b2,hv,-,-⟩:=Df h2
 obtain rfl:v= .slice (some ⟨b2,0,none⟩) x.l.length (x.l.length+64):=by injection hv
 have S2:=AA (S.out.below h3);replace S:=AA (S.out.put _ h2 h3 2)
 clear h2 h3 hv
 have hf:=S2.out.b.frozen 2;have hc:=S2.out.b.q 2 rfl
 have hd0:=S2.out.b.q 0 rfl
 have hd1:=S2.out.b.q 1 rfl
 have hg0:=S2.out.r.frozen 0;have he0:=S2.out.r.q 0 rfl
 have hg1:=S2.out.r.frozen 1;have he1:=S2.out.r.q 1 rfl
 have hg2:=S2.out.r.frozen 2;have he2:=S2.out.r.q 2 rfl
 go_wp2_with fail
 have E:QA 53 w _ [.int .u8 (x.op.toNat:Int),.int .i64 x.a,.slice (some ⟨b2,0,none⟩) x.l.length (x.l.length+64)] [.int .u8 (x.op.toNat:Int),.int .i64 x.a,.slice (some ⟨b2,0,none⟩) x.l.length (x.l.length+64)] _:=S.out.fill rfl
 refine bodyPost_ret ?_ rfl ⟨E.H,[.int .u8 (x.op.toNat:Int),.int .i64 x.a,.slice (some ⟨b2,0,none⟩) x.l.length (x.l.length+64)],rfl,Td.2 ⟨_,rfl,HA.out,yG E.q.2⟩⟩
 rw [Mj rfl]
 simp only [asAddr,Result.andThen]
 exact run_loadVar_row _ _ 53 53 _ (0,0) _ E.r underlying53 rfl (by kernel_rfl)
theorem AAg:(prog.info? 53).map (fun i=>(i.size,i.bytes,i.zero.map fun z=>z.cells.size))=some (3,40,some 3):=by kernel_rfl
def wZ (l:List Av) (w:World) (i:Value) (wr:World):Prop:= ∃(k:Nat) (xs:List Value),k≤l.length+64∧i= .int .i64 (k:Int)∧WP aK mkC wr w.heap.size 53 l xs k∧Below w.heap.size w wr
theorem AC8 (A:Option Addr) (n c hi:Nat) (l:List Av) (w:World) (h:(I_.sl false).R w 0 hi [.slice A n c] l) (hhi:hi≤w.heap.size) (hle:l.length≤131072) (hbd: ∀x∈l,x.l.length≤131072):
 Calls prog 124 #[.slice A n c] w (M9 (aK.wide mkC) l w):=by
 have hn:=D5 h
 subst hn
 obtain⟨i0,z0,hi0,hz,hs',hb,hzz⟩:=info_parts' AAg
 obtain⟨Z,hZ,hmk⟩:=M8 (P:=prog) 54 53 i0 z0 3 40 underlying54 hi0 hz hs' hb ((l.length:Int)+64) (l.length+64) (by omega) (by omega) (by omega)
 have H:=AA h;have HZ:=AA hZ;have pF:=AA hbd
 clear h hZ hi0 hz hs' hb hzz hbd
 go_enter func124,ntmps124
 go_wp2_with fail
 go_loopw [4] (fun i wr=>wZ l w i wr) (fun i _=>l.length+64-(intOf i).toNat)
 case atStart=>exact⟨0,Z,Nat.zero_le _,rfl,WP.start w _ l HZ.out,(Below.refl _ _).alloc (Nat.le_refl _) _⟩
 case round=>
  obtain⟨k,xs,hk,rfl,hwp,hbel⟩:=hrel
  have Iy:=AA hwp;have CF:=AA hbel
  clear hwp hbel hmk
  by_cases hlt:k<l.length+64
  ·have hk0:(0:Int)≤k:=by omega
   have SX:(k:Int)<l.length+64:=by omega
   by_cases hkn:k<l.length
   ·have SY:(k:Int)<l.length:=by omega
    obtain⟨x,hx⟩: ∃x,l[k]?=some x:=⟨_,List.getElem?_eq_getElem hkn⟩
    obtain⟨b,o,OT,Nt,rfl,_,Kg,hc0,hc1,hc2,iT,hlab⟩:=Nf (Rd.below H.out CF.out hhi) hx
    have HX:=AA hx
    clear hx
    have HC:=AA (AFa x OT Nt hi wr iT hlab (Nat.le_trans hhi CF.out.size) (pF.out x (List.mem_of_getElem? HX.out)))
    go_wp2_with fail
    refine HC.out.mono ?_
    rintro e w2 ⟨hb2,cs2,rfl,hr2⟩
    have HR2:=AA hr2
    obtain⟨v,rfl,h63,hw⟩:=Td.1 hr2
    obtain⟨b2,hv2,_,_⟩:=Df hw
    obtain rfl:v= .slice (some ⟨b2,0,none⟩) x.l.length (x.l.length+64):=by injection hv2
    unfold bv
    have Ri:=AA (Iy.out.below hb2)
    have HB2:=AA (CF.out.trans (hb2.mono CF.out.size))
    have hg:w.heap.size<wr.heap.size:=Iy.out.hdr.lt
    clear hb2 hr2 hw hv2 hlab HC
    obtain⟨p0,hp0⟩:=Ri.out.Dp hlt (k*3) 0 (by decide) rfl
    have hf0:=Ri.out.hdr.frozen (k*3)
    obtain⟨p1,hp1⟩:=Ri.out.Dp hlt (k*3+1) 1 (by decide) rfl
    have hf1:=Ri.out.hdr.frozen (k*3+1)
    obtain⟨p2,hp2⟩:=Ri.out.Dp hlt (k*3+2) 2 (by decide) rfl
    have hf2:=Ri.out.hdr.frozen (k*3+2)
    go_wp2_with fail
    exact⟨⟨k+1,_,hlt,by go_num,Ri.out.KV (i:=k*3) rfl hlt [.int .u8 (x.op.toNat:Int),.int .i64 x.a,.slice (some ⟨b2,0,none⟩) x.l.length (x.l.length+64)] rfl (by decide) (fun x' hx'=>by rw [HX.out] at hx';injection hx' with hx';subst hx';exact Rd.more _ hg (Nat.le_refl _) HR2.out) (fun h=>by omega),C9 (Nat.le_refl _) [.int .u8 (x.op.toNat:Int),.int .i64 x.a,.slice (some ⟨b2,0,none⟩) x.l.length (x.l.length+64)] (i:=k*3) HB2.out⟩,by simp [intOf];omega⟩
   ·have SY: ¬(k:Int)<l.length:=by omega
    have HC:=AA (w_num k (by omega) wr)
    obtain⟨y,hy,hy0,hy1⟩: ∃y,Ei k=y∧0≤y∧y<4611686018427387904:=⟨_,rfl,by unfold Ei;omega,by unfold Ei;omega⟩
    rw [hy] at HC
    have HY:=AA hy
    have hwr:IntKind.u64.wrap y=y:=by rw [IntKind.wrap_u64];omega
    clear hy
    obtain⟨p0,hp0⟩:=Iy.out.Dp hlt (k*3) 0 (by decide) rfl
    have hf0:=Iy.out.hdr.frozen (k*3)
    obtain⟨p1,hp1⟩:=Iy.out.Dp hlt (k*3+1) 1 (by decide) rfl
    have hf1:=Iy.out.hdr.frozen (k*3+1)
    obtain⟨p2,hp2⟩:=Iy.out.Dp hlt (k*3+2) 2 (by decide) rfl
    have hf2:=Iy.out.hdr.frozen (k*3+2)
    go_wp2_with fail
    refine HC.out.mono ?_
    rintro e w2 ⟨rfl,rfl⟩
    go_wp2_with fail
    exact⟨⟨k+1,_,hlt,by go_num,Iy.out.KV (i:=k*3) rfl hlt [.int .u8 0,.int .i64 y,.slice none 0 0] rfl (by decide) (fun x' hx'=>absurd (List.getElem?_eq_some_iff.1 hx').1 hkn) (fun h=>by unfold mkC;rw [HY.out]),C9 (Nat.le_refl _) [.int .u8 0,.int .i64 y,.slice none 0 0] (i:=k*3) CF.out⟩,by simp [intOf];omega⟩
  ·obtain rfl:k=l.length+64:=by omega
   have hge: ¬(((l.length+64:Nat):Int)<l.length+64):=by omega
   go_wp2_with fail
   go_ret
   exact⟨CF.out,_,rfl,Iy.out.done⟩
theorem w_fn (x:FL) (A:Option Addr) (c hi:Nat) (w:World) (ha:Rd.Ej x.t) (hs:Rd.U6 x.loc) (h:(I_.sl false).R w 0 hi [.slice A x.code.length c] x.code) (hhi:hi≤w.heap.size) (hle:x.code.length≤131072∧ ∀y∈x.code,y.l.length≤131072):
 Calls prog 71 #[.agg #[.int .i64 x.t,.string x.loc,.slice A x.code.length c]] w (fun e w'=>Below w.heap.size w w'∧ ∃cs,e= .returned (.agg cs.toArray)∧wFn.R w' w.heap.size w'.heap.size cs x):=by
 have H:=AA h;have HA:=AA ha;have HS:=AA hs;have OY:=AA hle
 clear h ha hs hle
 go_enter func71,ntmps71
 go_wp2_with fail
 generalize hw:(w.alloc _).alloc _=w1
 have S:Hid (QA 56 w w1 [.int .i64 x.t,.string x.loc,.slice A x.code.length c] [.int .i64 0,.string ⟨#[]⟩,.slice none 0 0] fun _=>True):=by rw [←hw];exact AA (QA.init _ _ _ _)
 clear hw
 refine(AC8 A x.code.length c hi x.code w1 (Rd.below H.out S.out.H hhi) (Nat.le_trans hhi S.out.H.size) OY.out.1 OY.out.2).mono ?_
 rintro e w2 ⟨h3,v,rfl,h2⟩
 obtain⟨b2,hv,-,-⟩:=Df h2
 obtain rfl:v= .slice (some ⟨b2,0,none⟩) x.code.length (x.code.length+64):=by injection hv
 have S2:=AA (S.out.below h3);replace S:=AA (S.out.put _ h2 h3 2)
 clear h2 h3 hv
 have hf:=S2.out.b.frozen 2;have hc:=S2.out.b.q 2 rfl
 have hd0:=S2.out.b.q 0 rfl
 have hd1:=S2.out.b.q 1 rfl
 have hg0:=S2.out.r.frozen 0;have he0:=S2.out.r.q 0 rfl
 have hg1:=S2.out.r.frozen 1;have he1:=S2.out.r.q 1 rfl
 have hg2:=S2.out.r.frozen 2;have he2:=S2.out.r.q 2 rfl
 go_wp2_with fail
 have E:QA 56 w _ [.int .i64 x.t,.string x.loc,.slice (some ⟨b2,0,none⟩) x.code.length (x.code.length+64)] [.int .i64 x.t,.string x.loc,.slice (some ⟨b2,0,none⟩) x.code.length (x.code.length+64)] _:=S.out.fill rfl
 refine bodyPost_ret ?_ rfl ⟨E.H,[.int .i64 x.t,.string x.loc,.slice (some ⟨b2,0,none⟩) x.code.length (x.code.length+64)],rfl,WY.2 ⟨_,rfl,HA.out,HS.out,yG E.q.2⟩⟩
 rw [Mj rfl]
 simp only [asAddr,Result.andThen]
 exact run_loadVar_row _ _ 56 56 _ (0,0) _ E.r underlying56 rfl (by kernel_rfl)
theorem aL:(prog.info? 56).map (fun i=>(i.size,i.bytes,i.zero.map fun z=>z.cells.size))=some (3,48,some 3):=by kernel_rfl
def Yh (l:List FL) (w:World) (i:Value) (wr:World):Prop:= ∃(k:Nat) (xs:List Value),k≤l.length+64∧i= .int .i64 (k:Int)∧WP wFn mkF wr w.heap.size 56 l xs k∧Below w.heap.size w wr
theorem fD (A:Option Addr) (n c hi:Nat) (l:List FL) (w:World) (h:(Tf.sl false).R w 0 hi [.slice A n c] l) (hhi:hi≤w.heap.size) (hle:l.length≤131072) (hbd: ∀x∈l,x.code.length≤131072∧ ∀y∈x.code,y.l.length≤131072):
 Calls prog 24 #[.slice A n c] w (M9 (wFn.wide mkF) l w):=by
 have hn:=D5 h
 subst hn
 obtain⟨i0,z0,hi0,hz,hs',hb,hzz⟩:=info_parts' aL
 obtain⟨Z,hZ,hmk⟩:=M8 (P:=prog) 25 56 i0 z0 3 48 underlying25 hi0 hz hs' hb ((l.length:Int)+64) (l.length+64) (by omega) (by omega) (by omega)
 have H:=AA h;have HZ:=AA hZ;have pF:=AA hbd
 clear h hZ hi0 hz hs' hb hzz hbd
 go_enter func24,ntmps24
 go_wp2_with fail
 go_loopw [4] (fun i wr=>Yh l w i wr) (fun i _=>l.length+64-(intOf i).toNat)
 case atStart=>exact⟨0,Z,Nat.zero_le _,rfl,WP.start w _ l HZ.out,(Below.refl _ _).alloc (Nat.le_refl _) _⟩
 case round=>
  obtain⟨k,xs,hk,rfl,hwp,hbel⟩:=hrel
  have Iy:=AA hwp;have CF:=AA hbel
  clear hwp hbel hmk
  by_cases hlt:k<l.length+64
  ·have hk0:(0:Int)≤k:=by omega
   have SX:(k:Int)<l.length+64:=by omega
   by_cases hkn:k<l.length
   ·have SY:(k:Int)<l.length:=by omega
    obtain⟨x,hx⟩: ∃x,l[k]?=some x:=⟨_,List.getElem?_eq_getElem hkn⟩
    obtain⟨b,o,OT,Nt,rfl,_,Kg,hc0,hc1,hc2,iT,hs0,hlab⟩:=Oy (Rd.below H.out CF.out hhi) hx
    have HX:=AA hx
    clear hx
    have HC:=AA (w_fn x OT Nt hi wr iT hs0 hlab (Nat.le_trans hhi CF.out.size) (pF.out x (List.mem_of_getElem? HX.out)))
    go_wp2_with fail
    refine HC.out.mono ?_
    rintro e w2 ⟨hb2,cs2,rfl,hr2⟩
    have HR2:=AA hr2
    obtain⟨v,rfl,h63,hs3,hw⟩:=WY.1 hr2
    obtain⟨b2,hv2,_,_⟩:=Df hw
    obtain rfl:v= .slice (some ⟨b2,0,none⟩) x.code.length (x.code.length+64):=by injection hv2
    have Ri:=AA (Iy.out.below hb2)
    have HB2:=AA (CF.out.trans (hb2.mono CF.out.size))
    have hg:w.heap.size<wr.heap.size:=Iy.out.hdr.lt
    clear hb2 hr2 hw hv2 hlab HC
    obtain⟨p0,hp0⟩:=Ri.out.Dp hlt (k*3) 0 (by decide) rfl
    have hf0:=Ri.out.hdr.frozen (k*3)
    obtain⟨p1,hp1⟩:=Ri.out.Dp hlt (k*3+1) 1 (by decide) rfl
    have hf1:=Ri.out.hdr.frozen (k*3+1)
    obtain⟨p2,hp2⟩:=Ri.out.Dp hlt (k*3+2) 2 (by decide) rfl
    have hf2:=Ri.out.hdr.frozen (k*3+2)
    go_wp2_with fail
    exact⟨⟨k+1,_,hlt,by go_num,Ri.out.KV (i:=k*3) rfl hlt [.int .i64 x.t,.string x.loc,.slice (some ⟨b2,0,none⟩) x.code.length (x.code.length+64)] rfl (by decide) (fun x' hx'=>by rw [HX.out] at hx';injection hx' with hx';subst hx';exact Rd.more _ hg (Nat.le_refl _) HR2.out) (fun h=>by omega),C9 (Nat.le_refl _) [.int .i64 x.t,.string x.loc,.slice (some ⟨b2,0,none⟩) x.code.length (x.code.length+64)] (i:=k*3) HB2.out⟩,by simp [intOf];omega⟩
   ·have SY: ¬(k:Int)<l.length:=by omega
    have HC:=AA (w_num k (by omega) wr)
    obtain⟨y,hy,hy0,hy1⟩: ∃y,Ei k=y∧0≤y∧y<4611686018427387904:=⟨_,rfl,by unfold Ei;omega,by unfold Ei;omega⟩
    rw [hy] at HC
    have HY:=AA hy
    have hwr:IntKind.u64.wrap y=y:=by rw [IntKind.wrap_u64];omega
    clear hy
    obtain⟨p0,hp0⟩:=Iy.out.Dp hlt (k*3) 0 (by decide) rfl
    have hf0:=Iy.out.hdr.frozen (k*3)
    obtain⟨p1,hp1⟩:=Iy.out.Dp hlt (k*3+1) 1 (by decide) rfl
    have hf1:=Iy.out.hdr.frozen (k*3+1)
    obtain⟨p2,hp2⟩:=Iy.out.Dp hlt (k*3+2) 2 (by decide) rfl
    have hf2:=Iy.out.hdr.frozen (k*3+2)
    go_wp2_with fail
    refine HC.out.mono ?_
    rintro e w2 ⟨rfl,rfl⟩
    go_wp2_with fail
    exact⟨⟨k+1,_,hlt,by go_num,Iy.out.KV (i:=k*3) rfl hlt [.int .i64 y,.string ⟨#[]⟩,.slice none 0 0] rfl (by decide) (fun x' hx'=>absurd (List.getElem?_eq_some_iff.1 hx').1 hkn) (fun h=>by unfold mkF;rw [HY.out]),C9 (Nat.le_refl _) [.int .i64 y,.string ⟨#[]⟩,.slice none 0 0] (i:=k*3) CF.out⟩,by simp [intOf];omega⟩
  ·obtain rfl:k=l.length+64:=by omega
   have hge: ¬(((l.length+64:Nat):Int)<l.length+64):=by omega
   go_wp2_with fail
   go_ret
   exact⟨CF.out,_,rfl,Iy.out.done⟩
theorem AFb (x:EZ) (A:Option Addr) (c hi:Nat) (w:World) (ha:Rd.Ej x.at_) (h:(Rd.u8.sl false).R w 0 hi [.slice A x.b.length c] x.b) (hhi:hi≤w.heap.size) (hle:x.b.length≤131072):
 Calls prog 72 #[.agg #[.int .i64 x.at_,.slice A x.b.length c]] w (fun e w'=>Below w.heap.size w w'∧ ∃cs,e= .returned (.agg cs.toArray)∧fA.R w' w.heap.size w'.heap.size cs x):=by
 have H:=AA h;have HA:=AA ha;have OY:=AA hle
 clear h ha hle
 go_enter func72,ntmps72
 go_wp2_with fail
 generalize hw:(w.alloc _).alloc _=w1
 have S:Hid (QA 59 w w1 [.int .i64 x.at_,.slice A x.b.length c] [.int .i64 0,.slice none 0 0] fun _=>True):=by rw [←hw];exact AA (QA.init _ _ _ _)
 clear hw
 refine(AAe A x.b.length c hi x.b w1 (Rd.below H.out S.out.H hhi) (Nat.le_trans hhi S.out.H.size) OY.out).mono ?_
 rintro e w2 ⟨h3,v,rfl,h2⟩
 obtain⟨b1,hv,-,-⟩:=Df h2
 obtain rfl:v= .slice (some ⟨b1,0,none⟩) x.b.length (x.b.length+64):=by injection hv
 have S2:=AA (S.out.below h3);replace S:=AA (S.out.put _ h2 h3 1)
 clear h2 h3 hv
 have hf:=S2.out.b.frozen 1;have hc:=S2.out.b.q 1 rfl
 have hd0:=S2.out.b.q 0 rfl
 have hg0:=S2.out.r.frozen 0;have he0:=S2.out.r.q 0 rfl
 have hg1:=S2.out.r.frozen 1;have he1:=S2.out.r.q 1 rfl
 go_wp2_with fail
 have E:QA 59 w _ [.int .i64 x.at_,.slice (some ⟨b1,0,none⟩) x.b.length (x.b.length+64)] [.int .i64 x.at_,.slice (some ⟨b1,0,none⟩) x.b.length (x.b.length+64)] _:=S.out.fill rfl
 refine bodyPost_ret ?_ rfl ⟨E.H,[.int .i64 x.at_,.slice (some ⟨b1,0,none⟩) x.b.length (x.b.length+64)],rfl,Te.2 ⟨_,rfl,HA.out,yG E.q.2⟩⟩
 rw [Mj rfl]
 simp only [asAddr,Result.andThen]
 exact run_loadVar_row _ _ 59 59 _ (0,0) _ E.r underlying59 rfl (by kernel_rfl)
theorem wh:(prog.info? 59).map (fun i=>(i.size,i.bytes,i.zero.map fun z=>z.cells.size))=some (2,32,some 2):=by kernel_rfl
def pV (l:List EZ) (w:World) (i:Value) (wr:World):Prop:= ∃(k:Nat) (xs:List Value),k≤l.length+64∧i= .int .i64 (k:Int)∧WP fA mkD wr w.heap.size 59 l xs k∧Below w.heap.size w wr
theorem AAh (A:Option Addr) (n c hi:Nat) (l:List EZ) (w:World) (h:(Kz.sl false).R w 0 hi [.slice A n c] l) (hhi:hi≤w.heap.size) (hle:l.length≤131072) (hbd: ∀x∈l,x.b.length≤131072):
 Calls prog 25 #[.slice A n c] w (M9 (fA.wide mkD) l w):=by
 have hn:=D5 h
 subst hn
 obtain⟨i0,z0,hi0,hz,hs',hb,hzz⟩:=info_parts' wh
 obtain⟨Z,hZ,hmk⟩:=M8 (P:=prog) 26 59 i0 z0 2 32 underlying26 hi0 hz hs' hb ((l.length:Int)+64) (l.length+64) (by omega) (by omega) (by omega)
 have H:=AA h;have HZ:=AA hZ;have pF:=AA hbd
 clear h hZ hi0 hz hs' hb hzz hbd
 go_enter func25,ntmps25
 go_wp2_with fail
 go_loopw [4] (fun i wr=>pV l w i wr) (fun i _=>l.length+64-(intOf i).toNat)
 case atStart=>exact⟨0,Z,Nat.zero_le _,rfl,WP.start w _ l HZ.out,(Below.refl _ _).alloc (Nat.le_refl _) _⟩
 case round=>
  obtain⟨k,xs,hk,rfl,hwp,hbel⟩:=hrel
  have Iy:=AA hwp;have CF:=AA hbel
  clear hwp hbel hmk
  by_cases hlt:k<l.length+64
  ·have hk0:(0:Int)≤k:=by omega
   have SX:(k:Int)<l.length+64:=by omega
   by_cases hkn:k<l.length
   ·have SY:(k:Int)<l.length:=by omega
    obtain⟨x,hx⟩: ∃x,l[k]?=some x:=⟨_,List.getElem?_eq_getElem hkn⟩
    obtain⟨b,o,OT,Nt,rfl,_,Kg,hc0,hc1,iT,hlab⟩:=Jd (Rd.below H.out CF.out hhi) hx
    have HX:=AA hx
    clear hx
    have HC:=AA (AFb x OT Nt hi wr iT hlab (Nat.le_trans hhi CF.out.size) (pF.out x (List.mem_of_getElem? HX.out)))
    go_wp2_with fail
    refine HC.out.mono ?_
    rintro e w2 ⟨hb2,cs2,rfl,hr2⟩
    have HR2:=AA hr2
    obtain⟨v,rfl,h63,hw⟩:=Te.1 hr2
    obtain⟨b2,hv2,_,_⟩:=Df hw
    obtain rfl:v= .slice (some ⟨b2,0,none⟩) x.b.length (x.b.length+64):=by injection hv2
    have Ri:=AA (Iy.out.below hb2)
    have HB2:=AA (CF.out.trans (hb2.mono CF.out.size))
    have hg:w.heap.size<wr.heap.size:=Iy.out.hdr.lt
    clear hb2 hr2 hw hv2 hlab HC
    obtain⟨p0,hp0⟩:=Ri.out.Dp hlt (k*2) 0 (by decide) rfl
    have hf0:=Ri.out.hdr.frozen (k*2)
    obtain⟨p1,hp1⟩:=Ri.out.Dp hlt (k*2+1) 1 (by decide) rfl
    have hf1:=Ri.out.hdr.frozen (k*2+1)
    go_wp2_with fail
    exact⟨⟨k+1,_,hlt,by go_num,Ri.out.KV (i:=k*2) rfl hlt [.int .i64 x.at_,.slice (some ⟨b2,0,none⟩) x.b.length (x.b.length+64)] rfl (by decide) (fun x' hx'=>by rw [HX.out] at hx';injection hx' with hx';subst hx';exact Rd.more _ hg (Nat.le_refl _) HR2.out) (fun h=>by omega),C9 (Nat.le_refl _) [.int .i64 x.at_,.slice (some ⟨b2,0,none⟩) x.b.length (x.b.length+64)] (i:=k*2) HB2.out⟩,by simp [intOf];omega⟩
   ·have SY: ¬(k:Int)<l.length:=by omega
    have HC:=AA (w_num k (by omega) wr)
    obtain⟨y,hy,hy0,hy1⟩: ∃y,Ei k=y∧0≤y∧y<4611686018427387904:=⟨_,rfl,by unfold Ei;omega,by unfold Ei;omega⟩
    rw [hy] at HC
    have HY:=AA hy
    have hwr:IntKind.u64.wrap y=y:=by rw [IntKind.wrap_u64];omega
    clear hy
    obtain⟨p0,hp0⟩:=Iy.out.Dp hlt (k*2) 0 (by decide) rfl
    have hf0:=Iy.out.hdr.frozen (k*2)
    obtain⟨p1,hp1⟩:=Iy.out.Dp hlt (k*2+1) 1 (by decide) rfl
    have hf1:=Iy.out.hdr.frozen (k*2+1)
    go_wp2_with fail
    refine HC.out.mono ?_
    rintro e w2 ⟨rfl,rfl⟩
    go_wp2_with fail
    exact⟨⟨k+1,_,hlt,by go_num,Iy.out.KV (i:=k*2) rfl hlt [.int .i64 y,.slice none 0 0] rfl (by decide) (fun x' hx'=>absurd (List.getElem?_eq_some_iff.1 hx').1 hkn) (fun h=>by unfold mkD;rw [HY.out]),C9 (Nat.le_refl _) [.int .i64 y,.slice none 0 0] (i:=k*2) CF.out⟩,by simp [intOf];omega⟩
  ·obtain rfl:k=l.length+64:=by omega
   have hge: ¬(((l.length+64:Nat):Int)<l.length+64):=by omega
   go_wp2_with fail
   go_ret
   exact⟨CF.out,_,rfl,Iy.out.done⟩
def YI (W:World) (lo hi:Nat) (cs:List Value) (x:AQ):Prop:= ∃v1 v2 v3 v6 v7 v8:Value,cs= [v1,v2,v3,.int .i64 x.first,.int .i64 x.most,v6,v7,v8]∧(Mr.wide mkS).R W lo hi [v1] x.types∧ZP.R W lo hi [v2] x.hosts∧(JG.wide mkG).R W lo hi [v3] x.globs∧Rd.Ej x.first∧Rd.Ej x.most∧(wFn.wide mkF).R W lo hi [v6] x.fns∧(fA.wide mkD).R W lo hi [v7] x.dat∧(M_.wide mkE).R W lo hi [v8] x.AO
theorem YI.mod {W:World} {lo hi:Nat} {cs:List Value} {x:AQ} (h:YI W lo hi cs x):IZ.R W lo hi cs x:=by
 obtain⟨v1,v2,v3,v6,v7,v8,rfl,h1,h2,h3,h4,h5,h6,h7,h8⟩:=h
 exact DF.2 ⟨v1,v2,v3,v6,v7,v8,rfl,Nr h1 rfl (fun _ _ h=>h),Nr h2 rfl (fun _ _ h=>h),Nr h3 rfl (fun _ _ h=>h),h4,h5,Nr h6 rfl (fun _ _ h=>AFZ h),Nr h7 rfl (fun _ _ h=>AC6 h),Nr h8 rfl (fun _ _ h=>h)⟩
structure wm (x:AQ):Prop where
 types:x.types.length≤131072
 hosts:x.hosts.length≤131072
 globs:x.globs.length≤131072
 fns:x.fns.length≤131072
 fn: ∀f∈x.fns,f.code.length≤131072∧ ∀y∈f.code,y.l.length≤131072
 dat:x.dat.length≤131072
 da: ∀d∈x.dat,d.b.length≤131072
 AO:x.AO.length≤131072
theorem AFc {x:AQ} (h:Ad x≤131072):wm x:=by
 have e: ∀f∈x.fns,JB f≤131072:=fun f hf=>by
  have:=Dy JB _ _ hf
  unfold Ad at h
  omega
 refine⟨by unfold Ad at h;omega,by unfold Ad at h;omega,by unfold Ad at h;omega,by unfold Ad at h;omega,fun f hf=> ?_,by unfold Ad at h;omega,fun d hd=> ?_,by unfold Ad at h;omega⟩
 ·have h1:=e f hf
  unfold JB N8 at h1
  refine⟨by omega,fun y hy=> ?_⟩
  have:=Dy (fun i:Av=>i.l.length) _ _ hy
  omega
 ·have:=Dy (fun d:EZ=>d.b.length) _ _ hd
  unfold Ad at h
  omega
theorem wu (x:AQ) (A1 A2 A3 A6 A7 A8:Option Addr) (c1 c2 c3 c6 c7 c8 hi:Nat) {hj:Nat} (w:World) (h1:(Mr.sl false).R w 0 hi [.slice A1 x.types.length c1] x.types) (h2:(Rd.i64.sl false).R w 0 hi [.slice A2 x.hosts.length c2] x.hosts) (h3:(JG.sl false).R w 0 hi [.slice A3 x.globs.length c3] x.globs) (h4:Rd.Ej x.first) (h5:Rd.Ej x.most) (h6:(Tf.sl false).R w 0 hi [.slice A6 x.fns.length c6] x.fns) (h7:(Kz.sl false).R w 0 hi [.slice A7 x.dat.length c7] x.dat) (h8:(M_.sl false).R w 0 hi [.slice A8 x.AO.length c8] x.AO) (hhi:hi≤w.heap.size) (hf:wm x) (hE:Dt hj w) (KQ:hj≤w.heap.size):
 Calls prog 9 #[.agg #[.slice A1 x.types.length c1,.slice A2 x.hosts.length c2,.slice A3 x.globs.length c3,.int .i64 x.first,.int .i64 x.most,.slice A6 x.fns.length c6,.slice A7 x.dat.length c7,.slice A8 x.AO.length c8]] w (fun e w'=>Below w.heap.size w w'∧ ∃cs,e= .returned (.agg cs.toArray)∧YI w' w.heap.size w'.heap.size cs x):=by
 have TA:=AA h1;have WJ:=AA h2;have WK:=AA h3;have H4:=AA h4;have H5:=AA h5;have bM:=AA h6;have bN:=AA h7;have W_:=AA h8;have HF:=AA hf;have HE:=AA hE
 clear h1 h2 h3 h4 h5 h6 h7 h8 hf hE
 go_enter func9,ntmps9
 go_wp2_with fail
 generalize hw:(w.alloc _).alloc _=w1
 have S:Hid (QA 29 w w1 [.slice A1 x.types.length c1,.slice A2 x.hosts.length c2,.slice A3 x.globs.length c3,.int .i64 x.first,.int .i64 x.most,.slice A6 x.fns.length c6,.slice A7 x.dat.length c7,.slice A8 x.AO.length c8] [.slice none 0 0,.slice none 0 0,.slice none 0 0,.int .i64 0,.int .i64 0,.slice none 0 0,.slice none 0 0,.slice none 0 0] fun _=>True):=by rw [←hw];exact AA (QA.init _ _ _ _)
 clear hw
 refine(AC7 A1 x.types.length c1 hi x.types w1 (Rd.below TA.out S.out.H hhi) (Nat.le_trans hhi S.out.H.size) HF.out.types (HE.out.to (S.out.H.mono KQ)) (Nat.le_trans KQ S.out.H.size)).mono ?_
 rintro e w2 ⟨h3,v,rfl,h2⟩
 obtain⟨b0,hv,-,-⟩:=Df h2
 obtain rfl:v= .slice (some ⟨b0,0,none⟩) x.types.length (x.types.length+64):=by injection hv
 have S2:=AA (S.out.below h3);replace S:=AA (S.out.put _ h2 h3 0)
 clear h2 h3 hv
 have hf:=S2.out.b.frozen 0;have hc:=S2.out.b.q 0 rfl
 have hn:=S2.out.b.q 1 rfl
 go_wp2_with fail
 clear hn hc hf S2
 generalize w2.setCell _ _=w1 at S⊢
 clear w2
 refine(wV A2 x.hosts.length c2 hi x.hosts w1 (Rd.below WJ.out S.out.H hhi) (Nat.le_trans hhi S.out.H.size) HF.out.hosts).mono ?_
 rintro e w2 ⟨h3,v,rfl,h2⟩
 obtain⟨b1,hv,-,-⟩:=Df h2
 obtain rfl:v= .slice (some ⟨b1,0,none⟩) x.hosts.length (x.hosts.length+64):=by injection hv
 have S2:=AA (S.out.below h3);replace S:=AA (S.out.put _ h2 h3 1)
 clear h2 h3 hv
 have hf:=S2.out.b.frozen 1;have hc:=S2.out.b.q 1 rfl
 have hn:=S2.out.b.q 2 rfl
 go_wp2_with fail
 clear hn hc hf S2
 generalize w2.setCell _ _=w1 at S⊢
 clear w2
 refine(pR A3 x.globs.length c3 hi x.globs w1 (Rd.below WK.out S.out.H hhi) (Nat.le_trans hhi S.out.H.size) HF.out.globs).mono ?_
 rintro e w2 ⟨h3,v,rfl,h2⟩
 obtain⟨b2,hv,-,-⟩:=Df h2
 obtain rfl:v= .slice (some ⟨b2,0,none⟩) x.globs.length (x.globs.length+64):=by injection hv
 have S2:=AA (S.out.below h3);replace S:=AA (S.out.put _ h2 h3 2)
 clear h2 h3 hv
 have hf:=S2.out.b.frozen 2;have hc:=S2.out.b.q 2 rfl
 have hn:=S2.out.b.q 5 rfl
 go_wp2_with fail
 clear hn hc hf S2
 generalize w2.setCell _ _=w1 at S⊢
 clear w2
 refine(fD A6 x.fns.length c6 hi x.fns w1 (Rd.below bM.out S.out.H hhi) (Nat.le_trans hhi S.out.H.size) HF.out.fns HF.out.fn).mono ?_
 rintro e w2 ⟨h3,v,rfl,h2⟩
 obtain⟨b5,hv,-,-⟩:=Df h2
 obtain rfl:v= .slice (some ⟨b5,0,none⟩) x.fns.length (x.fns.length+64):=by injection hv
 have S2:=AA (S.out.below h3);replace S:=AA (S.out.put _ h2 h3 5)
 clear h2 h3 hv
 have hf:=S2.out.b.frozen 5;have hc:=S2.out.b.q 5 rfl
 have hn:=S2.out.b.q 6 rfl
 go_wp2_with fail
 clear hn hc hf S2
 generalize w2.setCell _ _=w1 at S⊢
 clear w2
 refine(AAh A7 x.dat.length c7 hi x.dat w1 (Rd.below bN.out S.out.H hhi) (Nat.le_trans hhi S.out.H.size) HF.out.dat HF.out.da).mono ?_
 rintro e w2 ⟨h3,v,rfl,h2⟩
 obtain⟨b6,hv,-,-⟩:=Df h2
 obtain rfl:v= .slice (some ⟨b6,0,none⟩) x.dat.length (x.dat.length+64):=by injection hv
 have S2:=AA (S.out.below h3);replace S:=AA (S.out.put _ h2 h3 6)
 clear h2 h3 hv
 have hf:=S2.out.b.frozen 6;have hc:=S2.out.b.q 6 rfl
 have hn:=S2.out.b.q 7 rfl
 go_wp2_with fail
 clear hn hc hf S2
 generalize w2.setCell _ _=w1 at S⊢
 clear w2
 refine(pU A8 x.AO.length c8 hi x.AO w1 (Rd.below W_.out S.out.H hhi) (Nat.le_trans hhi S.out.H.size) HF.out.AO (HE.out.to (S.out.H.mono KQ)) (Nat.le_trans KQ S.out.H.size)).mono ?_
 rintro e w2 ⟨h3,v,rfl,h2⟩
 obtain⟨b7,hv,-,-⟩:=Df h2
 obtain rfl:v= .slice (some ⟨b7,0,none⟩) x.AO.length (x.AO.length+64):=by injection hv
 have S2:=AA (S.out.below h3);replace S:=AA (S.out.put _ h2 h3 7)
 clear h2 h3 hv
 have hf:=S2.out.b.frozen 7;have hc:=S2.out.b.q 7 rfl
 have hd0:=S2.out.b.q 0 rfl
 have hd1:=S2.out.b.q 1 rfl
 have hd2:=S2.out.b.q 2 rfl
 have hd3:=S2.out.b.q 3 rfl
 have hd4:=S2.out.b.q 4 rfl
 have hd5:=S2.out.b.q 5 rfl
 have hd6:=S2.out.b.q 6 rfl
 have hg0:=S2.out.r.frozen 0;have he0:=S2.out.r.q 0 rfl
 have hg1:=S2.out.r.frozen 1;have he1:=S2.out.r.q 1 rfl
 have hg2:=S2.out.r.frozen 2;have he2:=S2.out.r.q 2 rfl
 have hg3:=S2.out.r.frozen 3;have yw:=S2.out.r.q 3 rfl
 have hg4:=S2.out.r.frozen 4;have he4:=S2.out.r.q 4 rfl
 have hg5:=S2.out.r.frozen 5;have he5:=S2.out.r.q 5 rfl
 have hg6:=S2.out.r.frozen 6;have he6:=S2.out.r.q 6 rfl
 have hg7:=S2.out.r.frozen 7;have he7:=S2.out.r.q 7 rfl
 go_wp2_with fail
 have E:QA 29 w _ [.slice (some ⟨b0,0,none⟩) x.types.length (x.types.length+64),.slice (some ⟨b1,0,none⟩) x.hosts.length (x.hosts.length+64),.slice (some ⟨b2,0,none⟩) x.globs.length (x.globs.length+64),.int .i64 x.first,.int .i64 x.most,.slice (some ⟨b5,0,none⟩) x.fns.length (x.fns.length+64),.slice (some ⟨b6,0,none⟩) x.dat.length (x.dat.length+64),.slice (some ⟨b7,0,none⟩) x.AO.length (x.AO.length+64)] [.slice (some ⟨b0,0,none⟩) x.types.length (x.types.length+64),.slice (some ⟨b1,0,none⟩) x.hosts.length (x.hosts.length+64),.slice (some ⟨b2,0,none⟩) x.globs.length (x.globs.length+64),.int .i64 x.first,.int .i64 x.most,.slice (some ⟨b5,0,none⟩) x.fns.length (x.fns.length+64),.slice (some ⟨b6,0,none⟩) x.dat.length (x.dat.length+64),.slice (some ⟨b7,0,none⟩) x.AO.length (x.AO.length+64)] _:=S.out.fill rfl
 refine bodyPost_ret ?_ rfl ⟨E.H,[.slice (some ⟨b0,0,none⟩) x.types.length (x.types.length+64),.slice (some ⟨b1,0,none⟩) x.hosts.length (x.hosts.length+64),.slice (some ⟨b2,0,none⟩) x.globs.length (x.globs.length+64),.int .i64 x.first,.int .i64 x.most,.slice (some ⟨b5,0,none⟩) x.fns.length (x.fns.length+64),.slice (some ⟨b6,0,none⟩) x.dat.length (x.dat.length+64),.slice (some ⟨b7,0,none⟩) x.AO.length (x.AO.length+64)],rfl,⟨_,_,_,_,_,_,rfl,yG E.q.1.1.1.1.1.2,yG E.q.1.1.1.1.2,yG E.q.1.1.1.2,H4.out,H5.out,yG E.q.1.1.2,yG E.q.1.2,yG E.q.2⟩⟩
 rw [Mj rfl]
 simp only [asAddr,Result.andThen]
 exact run_loadVar_row _ _ 29 29 _ (0,0) _ E.r underlying29 rfl (by kernel_rfl)
theorem Jb {α:Type} {r:Rd α} {mk:Nat→List Value} {W:World} {lo hi b:Nat} {n c:Nat} {xs:List α} (h:(r.wide mk).R W lo hi [.slice (some ⟨b,0,none⟩) n c] xs):
 b<hi∧(∀(k:Nat) x,xs[k]?=some x→ ∃cs,(∀(j:Nat) u,cs[j]?=some u→W.cell? ⟨b,k*r.z+j,none⟩=some u)∧r.R W lo hi cs x)∧ ∀(q:Nat),xs.length≤q→q<xs.length+64→ ∀(j:Nat) u,(mk q)[j]?=some u→W.cell? ⟨b,q*r.z+j,none⟩=some u:=by
 obtain⟨b',he,h1,h2,h3,h4⟩:=h
 injection he with he _
 injection he with he _ _
 injection he with he
 injection he with he _ _
 subst he
 exact⟨h2,fun k x hx=>h3 k x hx,h4⟩
def wz (n:Nat) (w:World) (i:Value) (wr:World):Prop:= ∃k:Nat,n≤k∧k≤n+64∧i= .int .i64 (k:Int)∧Below w.heap.size w wr
theorem w_ (b lo hi:Nat) (l:List Int) (w:World) (h:(Rd.i64.wide mkI).R w lo hi [.slice (some ⟨b,0,none⟩) l.length (l.length+64)] l) (hhi:hi≤w.heap.size) (hle:l.length≤131072):
 Calls prog 51 #[.slice (some ⟨b,0,none⟩) l.length (l.length+64)] w fun e w'=>Below w.heap.size w w'∧e= .returned (.bool true):=by
 obtain⟨Kg,hels,OQ⟩:=Jb h
 have HM:=AA OQ;have HL:=AA hels
 have hbw:b<w.heap.size:=Nat.lt_of_lt_of_le Kg hhi
 clear h hels OQ
 go_enter func51,ntmps51
 go_wp2_with fail
 go_loopw [4,5] (fun i _ wr=>wz l.length w i wr) (fun i _ _=>l.length+64-(intOf i).toNat)
 case atStart=>exact⟨l.length,Nat.le_refl _,Nat.le_add_right _ _,rfl,Below.refl _ _⟩
 case round=>
  obtain⟨k,hk1,hk2,rfl,hbel⟩:=hrel
  have HB:=AA hbel
  clear hbel
  have hk0:(0:Int)≤k:=by omega
  by_cases hlt:k<l.length+64
  ·have SX:(k:Int)<l.length+64:=by omega
   have HC:Hid (∀w,Calls prog 70 #[.int .i64 9,.int .i64 (k:Int)] w fun e w'=>w=w'∧e= .returned (.int .i64 (Ei k))):=AA (fun w=>w_num k (by omega) w)
   have hm:=HM.out k hk1 hlt
   obtain⟨y,hy,hy0,hy1⟩: ∃y,Ei k=y∧0≤y∧y<4611686018427387904:=⟨_,rfl,by unfold Ei;omega,by unfold Ei;omega⟩
   unfold mkI at hm
   rw [hy] at HC hm
   have hwr:IntKind.u64.wrap y=y:=by rw [IntKind.wrap_u64];omega
   clear hy
   have m0:wr.cell? ⟨b,k,none⟩=some (.int .i64 y):=(HB.out.cell (p:=⟨b,k,none⟩) hbw).trans (by simpa [Rd.i64,Rd.u8,Rd.one] using hm 0 _ rfl)
   clear hm
   go_wp2_with fail
   refine(HC.out wr).mono ?_
   rintro e w2 ⟨rfl,rfl⟩
   go_wp2_with fail
   exact⟨⟨k+1,by omega,hlt,by go_num,HB.out⟩,by simp [intOf];omega⟩
  ·obtain rfl:k=l.length+64:=by omega
   have hge: ¬(((l.length+64:Nat):Int)<l.length+64):=by omega
   go_wp2_with fail
   go_ret
   exact⟨HB.out,rfl⟩
def pW (n:Nat) (w:World) (i:Value) (wr:World):Prop:= ∃k:Nat,n≤k∧k≤n+64∧i= .int .i64 (k:Int)∧Below w.heap.size w wr
theorem AAi (b lo hi:Nat) (l:List UInt8) (w:World) (h:(Rd.u8.wide mkB).R w lo hi [.slice (some ⟨b,0,none⟩) l.length (l.length+64)] l) (hhi:hi≤w.heap.size) (hle:l.length≤131072):
 Calls prog 139 #[.slice (some ⟨b,0,none⟩) l.length (l.length+64)] w fun e w'=>Below w.heap.size w w'∧e= .returned (.bool true):=by
 obtain⟨Kg,hels,OQ⟩:=Jb h
 have HM:=AA OQ;have HL:=AA hels
 have hbw:b<w.heap.size:=Nat.lt_of_lt_of_le Kg hhi
 clear h hels OQ
 go_enter func139,ntmps139
 go_wp2_with fail
 go_loopw [4,5] (fun i _ wr=>pW l.length w i wr) (fun i _ _=>l.length+64-(intOf i).toNat)
 case atStart=>exact⟨l.length,Nat.le_refl _,Nat.le_add_right _ _,rfl,Below.refl _ _⟩
 case round=>
  obtain⟨k,hk1,hk2,rfl,hbel⟩:=hrel
  have HB:=AA hbel
  clear hbel
  have hk0:(0:Int)≤k:=by omega
  by_cases hlt:k<l.length+64
  ·have SX:(k:Int)<l.length+64:=by omega
   have hm:=HM.out k hk1 hlt
   have e8:mkB k= [.int .u8 ((279+7*(k:Int)+3)%256)]:=by unfold mkB qX;congr 2;omega
   rw [e8] at hm
   clear e8
   have m0:wr.cell? ⟨b,k,none⟩=some (.int .u8 ((279+7*(k:Int)+3)%256)):=(HB.out.cell (p:=⟨b,k,none⟩) hbw).trans (by simpa [Rd.i64,Rd.u8,Rd.one] using hm 0 _ rfl)
   clear hm
   have heq:((279+7*(k:Int)+3)%256==(279+7*(k:Int)+3)%256)=true:=by simp
   go_wp2_with fail
   exact⟨⟨k+1,by omega,hlt,by go_num,HB.out⟩,by simp [intOf];omega⟩
  ·obtain rfl:k=l.length+64:=by omega
   have hge: ¬(((l.length+64:Nat):Int)<l.length+64):=by omega
   go_wp2_with fail
   go_ret
   exact⟨HB.out,rfl⟩
def xA (n:Nat) (w:World) (i:Value) (wr:World):Prop:= ∃k:Nat,n≤k∧k≤n+64∧i= .int .i64 (k:Int)∧Below w.heap.size w wr
theorem AC9 (b lo hi:Nat) (l:List Dl) (w:World) (h:(Mr.wide mkS).R w lo hi [.slice (some ⟨b,0,none⟩) l.length (l.length+64)] l) (hhi:hi≤w.heap.size) (hle:l.length≤131072) {hj:Nat} (hE:Dt hj w) (KQ:hj≤w.heap.size):
 Calls prog 50 #[.slice (some ⟨b,0,none⟩) l.length (l.length+64)] w fun e w'=>Below w.heap.size w w'∧e= .returned (.bool true):=by
 obtain⟨Kg,hels,OQ⟩:=Jb h
 have HM:=AA OQ;have HL:=AA hels;have HE:=AA hE
 have hbw:b<w.heap.size:=Nat.lt_of_lt_of_le Kg hhi
 clear h hels OQ hE
 go_enter func50,ntmps50
 go_wp2_with fail
 go_loopw [4,5] (fun i _ wr=>xA l.length w i wr) (fun i _ _=>l.length+64-(intOf i).toNat)
 case atStart=>exact⟨l.length,Nat.le_refl _,Nat.le_add_right _ _,rfl,Below.refl _ _⟩
 case round=>
  obtain⟨k,hk1,hk2,rfl,hbel⟩:=hrel
  have HB:=AA hbel
  clear hbel
  have hk0:(0:Int)≤k:=by omega
  by_cases hlt:k<l.length+64
  ·have SX:(k:Int)<l.length+64:=by omega
   have HC:Hid (Calls prog 69 #[.int .i64 9,.int .i64 (k:Int)] wr.drew fun e w'=>Below wr.drew.heap.size wr.drew w'∧e= .returned (.string (Qc k))):=AA (U2 k (by omega) wr.drew (HE.out.to ((HB.out.mono KQ).drew)))
   have HCC:Hid (∀W,Below w.heap.size w W→Calls prog 69 #[.int .i64 9,.int .i64 (k:Int)] W fun e w'=>Below W.heap.size W w'∧e= .returned (.string (Qc k))):=AA (fun W hW=>U2 k (by omega) W (HE.out.to (hW.mono KQ)))
   have hm:=HM.out k hk1 hlt
   unfold mkS at hm
   obtain⟨ty,hy⟩: ∃ty,Qc k=ty:=⟨_,rfl⟩
   rw [hy] at HCC hm
   clear hy HC
   have m0:wr.cell? ⟨b,k*2,none⟩=some (.string ty):=(HB.out.cell (p:=⟨b,k*2,none⟩) hbw).trans (hm 0 _ rfl)
   have m1:wr.cell? ⟨b,k*2+1,none⟩=some (.string ⟨#[]⟩):=(HB.out.cell (p:=⟨b,k*2+1,none⟩) hbw).trans (hm 1 _ rfl)
   clear hm
   go_upto_region 6 with fail
   generalize hw3:World.alloc _ _=w3
   have HB3:Hid (Below w.heap.size w w3):=AA (by rw [←hw3];exact HB.out.alloc HB.out.size _)
   have Gz:Hid (AV w3 wr.heap.size 51 [.string ty,.string ⟨#[]⟩]):=AA (by rw [←hw3];exact AV.new wr _ _)
   have OV:Hid (∀W,Below w3.heap.size w3 W→W.cell? ⟨wr.heap.size,0,none⟩=some (.string ty)∧W.cell? ⟨wr.heap.size,1,none⟩=some (.string ⟨#[]⟩)):=AA (fun W hW=>⟨(Gz.out.below hW Gz.out.lt).cell 0,(Gz.out.below hW Gz.out.lt).cell 1⟩)
   have Pq:Hid (Below w3.heap.size w3 w3.drew):=AA (Below.refl w3.heap.size w3).drew
   clear hw3 m0 m1
   refine wp_region_held_drew (S:=fun W=>W.cell? ⟨wr.heap.size,0,none⟩=some (.string ty)∧W.cell? ⟨wr.heap.size,1,none⟩=some (.string ⟨#[]⟩)) (by kernel_rfl) (OV.out _ Pq.out) (fun hHeld=> ?_)
   generalize w3.drew=w9 at*
   refine AB (i:=0) (v:= ?_) rfl (by kernel_rfl) (fun _ _ _ h=>h) (by intro w hSw;(try dsimp only at hSw);go_simp;try with_reducible rfl) hHeld ?_
   refine AB (i:=1) (v:= ?_) rfl (by kernel_rfl) (fun _ _ _ h=>h) (by intro w hSw;(try dsimp only at hSw);go_simp;try with_reducible rfl) hHeld ?_
   refine AB (i:=2) (v:= ?_) rfl (by kernel_rfl) (fun _ _ _ h=>h) (by intro w hSw;(try dsimp only at hSw);go_simp;try with_reducible rfl) hHeld ?_
   refine wpAnyH_ready (rs:= [3]) (by kernel_rfl) (by simp) ?_
   refine AllReadyH.cons rfl (fun K hK=> ?_) AllReadyH.nil
   go_simp
   go_at_call 69
   refine(HCC.out _ (HB3.out.trans (Pq.out.mono HB3.out.size))).mono ?_
   rintro e w2 ⟨hb2,rfl⟩
   have HB2:=AA (Pq.out.trans (hb2.mono Pq.out.size))
   refine hK.out _ _ (OV.out _ HB2.out) (fun AX=> ?_)
   clear hK K hb2
   have xB:Hid (Below w.heap.size w w2):=AA (HB3.out.trans (HB2.out.mono HB3.out.size))
   refine AB (i:=4) (v:= ?_) rfl (by kernel_rfl) (fun _ _ _ h=>h) (by intro w hSw;(try dsimp only at hSw);go_simp;try with_reducible rfl) AX ?_
   refine AB (i:=5) (v:= ?_) rfl (by kernel_rfl) (fun _ _ _ h=>h) (by intro w hSw;(try dsimp only at hSw);go_simp;try with_reducible rfl) AX ?_
   refine AB (i:=6) (v:= ?_) rfl (by kernel_rfl) (fun _ _ _ h=>h) (by intro w hSw;(try dsimp only at hSw);go_simp;try with_reducible rfl) AX ?_
   refine AB (i:=7) (v:= ?_) rfl (by kernel_rfl) (fun _ _ _ h=>h) (by intro w hSw;(try dsimp only at hSw);go_simp;try with_reducible rfl) AX ?_
   refine AB (i:=8) (v:= ?_) rfl (by kernel_rfl) (fun _ _ _ h=>h) (by intro w hSw;(try dsimp only at hSw);go_simp;try with_reducible rfl) AX ?_
   refine AB (i:=9) (v:= ?_) rfl (by kernel_rfl) (fun _ _ _ h=>h) (by intro w hSw;(try dsimp only at hSw);go_simp;try with_reducible rfl) AX ?_
   refine AB (i:=10) (v:= ?_) rfl (by kernel_rfl) (fun _ _ _ h=>h) (by intro w hSw;(try dsimp only at hSw);go_simp;try with_reducible rfl) AX ?_
   refine wpAnyH_done (by kernel_rfl) ?_ _
   go_simp
   go_wp2_with fail
   exact⟨⟨k+1,by omega,hlt,by go_num,xB.out⟩,by simp [intOf];omega⟩
  ·obtain rfl:k=l.length+64:=by omega
   have hge: ¬(((l.length+64:Nat):Int)<l.length+64):=by omega
   go_wp2_with fail
   go_ret
   exact⟨HB.out,rfl⟩
def fE (n:Nat) (w:World) (i:Value) (wr:World):Prop:= ∃k:Nat,n≤k∧k≤n+64∧i= .int .i64 (k:Int)∧Below w.heap.size w wr
theorem pX (b lo hi:Nat) (l:List Ep) (w:World) (h:(JG.wide mkG).R w lo hi [.slice (some ⟨b,0,none⟩) l.length (l.length+64)] l) (hhi:hi≤w.heap.size) (hle:l.length≤131072):
 Calls prog 52 #[.slice (some ⟨b,0,none⟩) l.length (l.length+64)] w fun e w'=>Below w.heap.size w w'∧e= .returned (.bool true):=by
 obtain⟨Kg,hels,OQ⟩:=Jb h
 have HM:=AA OQ;have HL:=AA hels
 have hbw:b<w.heap.size:=Nat.lt_of_lt_of_le Kg hhi
 clear h hels OQ
 go_enter func52,ntmps52
 go_wp2_with fail
 go_loopw [4,5] (fun i _ wr=>fE l.length w i wr) (fun i _ _=>l.length+64-(intOf i).toNat)
 case atStart=>exact⟨l.length,Nat.le_refl _,Nat.le_add_right _ _,rfl,Below.refl _ _⟩
 case round=>
  obtain⟨k,hk1,hk2,rfl,hbel⟩:=hrel
  have HB:=AA hbel
  clear hbel
  have hk0:(0:Int)≤k:=by omega
  by_cases hlt:k<l.length+64
  ·have SX:(k:Int)<l.length+64:=by omega
   have HC:Hid (∀w,Calls prog 70 #[.int .i64 9,.int .i64 (k:Int)] w fun e w'=>w=w'∧e= .returned (.int .i64 (Ei k))):=AA (fun w=>w_num k (by omega) w)
   have hm:=HM.out k hk1 hlt
   obtain⟨y,hy,hy0,hy1⟩: ∃y,Ei k=y∧0≤y∧y<4611686018427387904:=⟨_,rfl,by unfold Ei;omega,by unfold Ei;omega⟩
   unfold mkG at hm
   rw [hy] at HC hm
   have hwr:IntKind.u64.wrap y=y:=by rw [IntKind.wrap_u64];omega
   clear hy
   have m0:wr.cell? ⟨b,k*3,none⟩=some (.int .u8 0):=(HB.out.cell (p:=⟨b,k*3,none⟩) hbw).trans (hm 0 _ rfl)
   have m1:wr.cell? ⟨b,k*3+1,none⟩=some (.bool false):=(HB.out.cell (p:=⟨b,k*3+1,none⟩) hbw).trans (hm 1 _ rfl)
   have m2:wr.cell? ⟨b,k*3+2,none⟩=some (.int .u64 y):=(HB.out.cell (p:=⟨b,k*3+2,none⟩) hbw).trans (hm 2 _ rfl)
   clear hm
   go_upto_region 6 with fail
   generalize hw3:World.alloc _ _=w3
   have HB3:Hid (Below w.heap.size w w3):=AA (by rw [←hw3];exact HB.out.alloc HB.out.size _)
   have Gz:Hid (AV w3 wr.heap.size 82 [.int .u8 0,.bool false,.int .u64 y]):=AA (by rw [←hw3];exact AV.new wr _ _)
   have OV:Hid (∀W,Below w3.heap.size w3 W→W.cell? ⟨wr.heap.size,0,none⟩=some (.int .u8 0)∧W.cell? ⟨wr.heap.size,1,none⟩=some (.bool false)∧W.cell? ⟨wr.heap.size,2,none⟩=some (.int .u64 y)):=AA (fun W hW=>⟨(Gz.out.below hW Gz.out.lt).cell 0,(Gz.out.below hW Gz.out.lt).cell 1,(Gz.out.below hW Gz.out.lt).cell 2⟩)
   have Pq:Hid (Below w3.heap.size w3 w3.drew):=AA (Below.refl w3.heap.size w3).drew
   clear hw3 m0 m1 m2
   refine wp_region_held_drew (S:=fun W=>W.cell? ⟨wr.heap.size,0,none⟩=some (.int .u8 0)∧W.cell? ⟨wr.heap.size,1,none⟩=some (.bool false)∧W.cell? ⟨wr.heap.size,2,none⟩=some (.int .u64 y)) (by kernel_rfl) (OV.out _ Pq.out) (fun hHeld=> ?_)
   generalize w3.drew=w9 at*
   refine AB (i:=0) (v:= ?_) rfl (by kernel_rfl) (fun _ _ _ h=>h) (by intro w hSw;(try dsimp only at hSw);go_simp;try with_reducible rfl) hHeld ?_
   refine AB (i:=1) (v:= ?_) rfl (by kernel_rfl) (fun _ _ _ h=>h) (by intro w hSw;(try dsimp only at hSw);go_simp;try with_reducible rfl) hHeld ?_
   refine AB (i:=2) (v:= ?_) rfl (by kernel_rfl) (fun _ _ _ h=>h) (by intro w hSw;(try dsimp only at hSw);go_simp;try with_reducible rfl) hHeld ?_
   refine wpAnyH_ready (rs:= [3]) (by kernel_rfl) (by simp) ?_
   refine AllReadyH.cons rfl (fun K hK=> ?_) AllReadyH.nil
   go_simp
   go_at_call 70
   refine(HC.out _).mono ?_
   rintro e w2 ⟨rfl,rfl⟩
   refine hK.out _ _ (OV.out _ Pq.out) (fun AX=> ?_)
   clear hK K
   have xB:Hid (Below w.heap.size w w9):=AA (HB3.out.trans (Pq.out.mono HB3.out.size))
   refine AB (i:=4) (v:= ?_) rfl (by kernel_rfl) (fun _ _ _ h=>h) (by intro w hSw;(try dsimp only at hSw);go_simp;try with_reducible rfl) AX ?_
   refine AB (i:=5) (v:= ?_) rfl (by kernel_rfl) (fun _ _ _ h=>h) (by intro w hSw;(try dsimp only at hSw);go_simp;try with_reducible rfl) AX ?_
   refine AB (i:=6) (v:= ?_) rfl (by kernel_rfl) (fun _ _ _ h=>h) (by intro w hSw;(try dsimp only at hSw);go_simp;try with_reducible rfl) AX ?_
   refine wpAnyH_done (by kernel_rfl) ?_ _
   go_simp
   go_wp2_with fail
   exact⟨⟨k+1,by omega,hlt,by go_num,xB.out⟩,by simp [intOf];omega⟩
  ·obtain rfl:k=l.length+64:=by omega
   have hge: ¬(((l.length+64:Nat):Int)<l.length+64):=by omega
   go_wp2_with fail
   go_ret
   exact⟨HB.out,rfl⟩
def fF (n:Nat) (w:World) (i:Value) (wr:World):Prop:= ∃k:Nat,n≤k∧k≤n+64∧i= .int .i64 (k:Int)∧Below w.heap.size w wr
theorem pY (b lo hi:Nat) (l:List LA) (w:World) (h:(M_.wide mkE).R w lo hi [.slice (some ⟨b,0,none⟩) l.length (l.length+64)] l) (hhi:hi≤w.heap.size) (hle:l.length≤131072) {hj:Nat} (hE:Dt hj w) (KQ:hj≤w.heap.size):
 Calls prog 55 #[.slice (some ⟨b,0,none⟩) l.length (l.length+64)] w fun e w'=>Below w.heap.size w w'∧e= .returned (.bool true):=by
 obtain⟨Kg,hels,OQ⟩:=Jb h
 have HM:=AA OQ;have HL:=AA hels;have HE:=AA hE
 have hbw:b<w.heap.size:=Nat.lt_of_lt_of_le Kg hhi
 clear h hels OQ hE
 go_enter func55,ntmps55
 go_wp2_with fail
 go_loopw [4,5] (fun i _ wr=>fF l.length w i wr) (fun i _ _=>l.length+64-(intOf i).toNat)
 case atStart=>exact⟨l.length,Nat.le_refl _,Nat.le_add_right _ _,rfl,Below.refl _ _⟩
 case round=>
  obtain⟨k,hk1,hk2,rfl,hbel⟩:=hrel
  have HB:=AA hbel
  clear hbel
  have hk0:(0:Int)≤k:=by omega
  by_cases hlt:k<l.length+64
  ·have SX:(k:Int)<l.length+64:=by omega
   have HC:Hid (Calls prog 69 #[.int .i64 9,.int .i64 (k:Int)] wr.drew fun e w'=>Below wr.drew.heap.size wr.drew w'∧e= .returned (.string (Qc k))):=AA (U2 k (by omega) wr.drew (HE.out.to ((HB.out.mono KQ).drew)))
   have HCC:Hid (∀W,Below w.heap.size w W→Calls prog 69 #[.int .i64 9,.int .i64 (k:Int)] W fun e w'=>Below W.heap.size W w'∧e= .returned (.string (Qc k))):=AA (fun W hW=>U2 k (by omega) W (HE.out.to (hW.mono KQ)))
   have hm:=HM.out k hk1 hlt
   unfold mkE at hm
   obtain⟨ty,hy⟩: ∃ty,Qc k=ty:=⟨_,rfl⟩
   rw [hy] at HCC hm
   clear hy HC
   have m0:wr.cell? ⟨b,k*2,none⟩=some (.string ty):=(HB.out.cell (p:=⟨b,k*2,none⟩) hbw).trans (hm 0 _ rfl)
   have m1:wr.cell? ⟨b,k*2+1,none⟩=some (.int .i64 0):=(HB.out.cell (p:=⟨b,k*2+1,none⟩) hbw).trans (hm 1 _ rfl)
   clear hm
   go_upto_region 6 with fail
   generalize hw3:World.alloc _ _=w3
   have HB3:Hid (Below w.heap.size w w3):=AA (by rw [←hw3];exact HB.out.alloc HB.out.size _)
   have Gz:Hid (AV w3 wr.heap.size 61 [.string ty,.int .i64 0]):=AA (by rw [←hw3];exact AV.new wr _ _)
   have OV:Hid (∀W,Below w3.heap.size w3 W→W.cell? ⟨wr.heap.size,0,none⟩=some (.string ty)∧W.cell? ⟨wr.heap.size,1,none⟩=some (.int .i64 0)):=AA (fun W hW=>⟨(Gz.out.below hW Gz.out.lt).cell 0,(Gz.out.below hW Gz.out.lt).cell 1⟩)
   have Pq:Hid (Below w3.heap.size w3 w3.drew):=AA (Below.refl w3.heap.size w3).drew
   clear hw3 m0 m1
   refine wp_region_held_drew (S:=fun W=>W.cell? ⟨wr.heap.size,0,none⟩=some (.string ty)∧W.cell? ⟨wr.heap.size,1,none⟩=some (.int .i64 0)) (by kernel_rfl) (OV.out _ Pq.out) (fun hHeld=> ?_)
   generalize w3.drew=w9 at*
   refine AB (i:=0) (v:= ?_) rfl (by kernel_rfl) (fun _ _ _ h=>h) (by intro w hSw;(try dsimp only at hSw);go_simp;try with_reducible rfl) hHeld ?_
   refine AB (i:=1) (v:= ?_) rfl (by kernel_rfl) (fun _ _ _ h=>h) (by intro w hSw;(try dsimp only at hSw);go_simp;try with_reducible rfl) hHeld ?_
   refine AB (i:=2) (v:= ?_) rfl (by kernel_rfl) (fun _ _ _ h=>h) (by intro w hSw;(try dsimp only at hSw);go_simp;try with_reducible rfl) hHeld ?_
   refine wpAnyH_ready (rs:= [3]) (by kernel_rfl) (by simp) ?_
   refine AllReadyH.cons rfl (fun K hK=> ?_) AllReadyH.nil
   go_simp
   go_at_call 69
   refine(HCC.out _ (HB3.out.trans (Pq.out.mono HB3.out.size))).mono ?_
   rintro e w2 ⟨hb2,rfl⟩
   have HB2:=AA (Pq.out.trans (hb2.mono Pq.out.size))
   refine hK.out _ _ (OV.out _ HB2.out) (fun AX=> ?_)
   clear hK K hb2
   have xB:Hid (Below w.heap.size w w2):=AA (HB3.out.trans (HB2.out.mono HB3.out.size))
   refine AB (i:=4) (v:= ?_) rfl (by kernel_rfl) (fun _ _ _ h=>h) (by intro w hSw;(try dsimp only at hSw);go_simp;try with_reducible rfl) AX ?_
   refine AB (i:=5) (v:= ?_) rfl (by kernel_rfl) (fun _ _ _ h=>h) (by intro w hSw;(try dsimp only at hSw);go_simp;try with_reducible rfl) AX ?_
   refine wpAnyH_done (by kernel_rfl) ?_ _
   go_simp
   go_wp2_with fail
   exact⟨⟨k+1,by omega,hlt,by go_num,xB.out⟩,by simp [intOf];omega⟩
  ·obtain rfl:k=l.length+64:=by omega
   have hge: ¬(((l.length+64:Nat):Int)<l.length+64):=by omega
   go_wp2_with fail
   go_ret
   exact⟨HB.out,rfl⟩
theorem AFd (x:Av) (b lo hi:Nat) (w:World) (h:ZP.R w lo hi [.slice (some ⟨b,0,none⟩) x.l.length (x.l.length+64)] x.l) (hhi:hi≤w.heap.size) (hle:x.l.length≤131072):
 Calls prog 183 #[.agg #[.int .u8 (x.op.toNat:Int),.int .i64 x.a,.slice (some ⟨b,0,none⟩) x.l.length (x.l.length+64)]] w fun e w'=>Below w.heap.size w w'∧e= .returned (.bool true):=by
 have H:=AA h
 clear h
 go_enter func183,ntmps183
 go_wp2_with fail
 generalize hw:World.alloc _ _=w1
 have HB1:Hid (Below w.heap.size w w1):=AA (by rw [←hw];exact(Below.refl _ _).alloc (Nat.le_refl _) _)
 clear hw
 refine(w_ b lo hi x.l w1 (Rd.below H.out HB1.out hhi) (Nat.le_trans hhi HB1.out.size) hle).mono ?_
 rintro e w2 ⟨hb2,rfl⟩
 have HB2:=AA (HB1.out.trans (hb2.mono HB1.out.size))
 clear hb2
 go_wp2_with fail
 go_ret
 exact⟨HB2.out,rfl⟩
def xC (n:Nat) (w:World) (i:Value) (wr:World):Prop:= ∃k:Nat,n≤k∧k≤n+64∧i= .int .i64 (k:Int)∧Below w.heap.size w wr
def pz (n:Nat) (w:World) (i:Value) (wr:World):Prop:= ∃k:Nat,k≤n∧i= .int .i64 (k:Int)∧Below w.heap.size w wr
theorem AC_ (b lo hi:Nat) (l:List Av) (w:World) (h:(aK.wide mkC).R w lo hi [.slice (some ⟨b,0,none⟩) l.length (l.length+64)] l) (hhi:hi≤w.heap.size) (hle:l.length≤131072) (hbd: ∀x∈l,x.l.length≤131072):
 Calls prog 138 #[.slice (some ⟨b,0,none⟩) l.length (l.length+64)] w fun e w'=>Below w.heap.size w w'∧e= .returned (.bool true):=by
 obtain⟨Kg,hels,OQ⟩:=Jb h
 have HM:=AA OQ;have HL:=AA hels
 have hbw:b<w.heap.size:=Nat.lt_of_lt_of_le Kg hhi
 have pF:=AA hbd
 clear h hels OQ hbd
 go_enter func138,ntmps138
 go_wp2_with fail
 go_loopw [4,5] (fun i _ wr=>xC l.length w i wr) (fun i _ _=>l.length+64-(intOf i).toNat)
 case atStart=>exact⟨l.length,Nat.le_refl _,Nat.le_add_right _ _,rfl,Below.refl _ _⟩
 case round=>
  obtain⟨k,hk1,hk2,rfl,hbel⟩:=hrel
  have HB:=AA hbel
  clear hbel
  have hk0:(0:Int)≤k:=by omega
  by_cases hlt:k<l.length+64
  ·have SX:(k:Int)<l.length+64:=by omega
   have HC:Hid (∀w,Calls prog 70 #[.int .i64 9,.int .i64 (k:Int)] w fun e w'=>w=w'∧e= .returned (.int .i64 (Ei k))):=AA (fun w=>w_num k (by omega) w)
   have hm:=HM.out k hk1 hlt
   obtain⟨y,hy,hy0,hy1⟩: ∃y,Ei k=y∧0≤y∧y<4611686018427387904:=⟨_,rfl,by unfold Ei;omega,by unfold Ei;omega⟩
   unfold mkC at hm
   rw [hy] at HC hm
   have hwr:IntKind.u64.wrap y=y:=by rw [IntKind.wrap_u64];omega
   clear hy
   have m0:wr.cell? ⟨b,k*3,none⟩=some (.int .u8 0):=(HB.out.cell (p:=⟨b,k*3,none⟩) hbw).trans (hm 0 _ rfl)
   have m1:wr.cell? ⟨b,k*3+1,none⟩=some (.int .i64 y):=(HB.out.cell (p:=⟨b,k*3+1,none⟩) hbw).trans (hm 1 _ rfl)
   have m2:wr.cell? ⟨b,k*3+2,none⟩=some (.slice none 0 0):=(HB.out.cell (p:=⟨b,k*3+2,none⟩) hbw).trans (hm 2 _ rfl)
   clear hm
   go_upto_region 6 with fail
   generalize hw3:World.alloc _ _=w3
   have HB3:Hid (Below w.heap.size w w3):=AA (by rw [←hw3];exact HB.out.alloc HB.out.size _)
   have Gz:Hid (AV w3 wr.heap.size 53 [.int .u8 0,.int .i64 y,.slice none 0 0]):=AA (by rw [←hw3];exact AV.new wr _ _)
   have OV:Hid (∀W,Below w3.heap.size w3 W→W.cell? ⟨wr.heap.size,0,none⟩=some (.int .u8 0)∧W.cell? ⟨wr.heap.size,1,none⟩=some (.int .i64 y)∧W.cell? ⟨wr.heap.size,2,none⟩=some (.slice none 0 0)):=AA (fun W hW=>⟨(Gz.out.below hW Gz.out.lt).cell 0,(Gz.out.below hW Gz.out.lt).cell 1,(Gz.out.below hW Gz.out.lt).cell 2⟩)
   have Pq:Hid (Below w3.heap.size w3 w3.drew):=AA (Below.refl w3.heap.size w3).drew
   clear hw3 m0 m1 m2
   refine wp_region_held_drew (S:=fun W=>W.cell? ⟨wr.heap.size,0,none⟩=some (.int .u8 0)∧W.cell? ⟨wr.heap.size,1,none⟩=some (.int .i64 y)∧W.cell? ⟨wr.heap.size,2,none⟩=some (.slice none 0 0)) (by kernel_rfl) (OV.out _ Pq.out) (fun hHeld=> ?_)
   generalize w3.drew=w9 at*
   refine AB (i:=0) (v:= ?_) rfl (by kernel_rfl) (fun _ _ _ h=>h) (by intro w hSw;(try dsimp only at hSw);go_simp;try with_reducible rfl) hHeld ?_
   refine AB (i:=1) (v:= ?_) rfl (by kernel_rfl) (fun _ _ _ h=>h) (by intro w hSw;(try dsimp only at hSw);go_simp;try with_reducible rfl) hHeld ?_
   refine AB (i:=2) (v:= ?_) rfl (by kernel_rfl) (fun _ _ _ h=>h) (by intro w hSw;(try dsimp only at hSw);go_simp;try with_reducible rfl) hHeld ?_
   refine wpAnyH_ready (rs:= [3]) (by kernel_rfl) (by simp) ?_
   refine AllReadyH.cons rfl (fun K hK=> ?_) AllReadyH.nil
   go_simp
   go_at_call 70
   refine(HC.out _).mono ?_
   rintro e w2 ⟨rfl,rfl⟩
   refine hK.out _ _ (OV.out _ Pq.out) (fun AX=> ?_)
   clear hK K
   have xB:Hid (Below w.heap.size w w9):=AA (HB3.out.trans (Pq.out.mono HB3.out.size))
   refine AB (i:=4) (v:= ?_) rfl (by kernel_rfl) (fun _ _ _ h=>h) (by intro w hSw;(try dsimp only at hSw);go_simp;try with_reducible rfl) AX ?_
   refine AB (i:=5) (v:= ?_) rfl (by kernel_rfl) (fun _ _ _ h=>h) (by intro w hSw;(try dsimp only at hSw);go_simp;try with_reducible rfl) AX ?_
   refine AB (i:=6) (v:= ?_) rfl (by kernel_rfl) (fun _ _ _ h=>h) (by intro w hSw;(try dsimp only at hSw);go_simp;try with_reducible rfl) AX ?_
   refine AB (i:=7) (v:= ?_) rfl (by kernel_rfl) (fun _ _ _ h=>h) (by intro w hSw;(try dsimp only at hSw);go_simp;try with_reducible rfl) AX ?_
   refine AB (i:=8) (v:= ?_) rfl (by kernel_rfl) (fun _ _ _ h=>h) (by intro w hSw;(try dsimp only at hSw);go_simp;try with_reducible rfl) AX ?_
   refine AB (i:=9) (v:= ?_) rfl (by kernel_rfl) (fun _ _ _ h=>h) (by intro w hSw;(try dsimp only at hSw);go_simp;try with_reducible rfl) AX ?_
   refine AB (i:=10) (v:= ?_) rfl (by kernel_rfl) (fun _ _ _ h=>h) (by intro w hSw;(try dsimp only at hSw);go_simp;try with_reducible rfl) AX ?_
   refine AB (i:=11) (v:= ?_) rfl (by kernel_rfl) (fun _ _ _ h=>h) (by intro w hSw;(try dsimp only at hSw);go_simp;try with_reducible rfl) AX ?_
   refine wpAnyH_done (by kernel_rfl) ?_ _
   go_simp
   go_wp2_with fail
   exact⟨⟨k+1,by omega,hlt,by go_num,xB.out⟩,by simp [intOf];omega⟩
  ·obtain rfl:k=l.length+64:=by omega
   have hge: ¬(((l.length+64:Nat):Int)<l.length+64):=by omega
   clear hlt hk0 hk1 hk2
   go_wp2_with fail
   obtain⟨wo,rfl⟩: ∃wo:World,wo=wr:=⟨_,rfl⟩
   go_loopw [6] (fun i wr=>pz l.length w i wr) (fun i _=>l.length-(intOf i).toNat)
   case atStart=>exact⟨0,Nat.zero_le _,rfl,HB.out⟩
   case round=>
    obtain⟨k,hk2,rfl,hbel⟩:=hrel
    have Ky:=AA hbel
    clear hbel hge
    have hk0:(0:Int)≤k:=by omega
    by_cases hlt:k<l.length
    ·have hkl:(k:Int)<l.length:=by omega
     have hkn:(k:Int)<l.length+64:=by omega
     obtain⟨x,hx⟩: ∃x,l[k]?=some x:=⟨_,List.getElem?_eq_getElem hlt⟩
     obtain⟨cs,hcs,hr⟩:=HL.out k x hx
     obtain⟨v,rfl,h63,hw⟩:=Td.1 hr
     obtain⟨b2,hv2,-,-⟩:=Df hw
     obtain rfl:v= .slice (some ⟨b2,0,none⟩) x.l.length (x.l.length+64):=by injection hv2
     have m0:wr.cell? ⟨b,k*3,none⟩=some (.int .u8 (x.op.toNat:Int)):=(Ky.out.cell (p:=⟨b,k*3,none⟩) hbw).trans (hcs 0 _ rfl)
     have m1:wr.cell? ⟨b,k*3+1,none⟩=some (.int .i64 x.a):=(Ky.out.cell (p:=⟨b,k*3+1,none⟩) hbw).trans (hcs 1 _ rfl)
     have m2:wr.cell? ⟨b,k*3+2,none⟩=some (.slice (some ⟨b2,0,none⟩) x.l.length (x.l.length+64)):=(Ky.out.cell (p:=⟨b,k*3+2,none⟩) hbw).trans (hcs 2 _ rfl)
     have HS:=AA (AFd x b2 lo hi wr (Rd.below hw Ky.out hhi) (Nat.le_trans hhi Ky.out.size) (pF.out x (List.mem_of_getElem? hx)))
     clear hcs hr hx hw
     go_wp2_with fail
     refine HS.out.mono ?_
     rintro e w2 ⟨hb2,rfl⟩
     have HB2:=AA (Ky.out.trans (hb2.mono Ky.out.size))
     clear hb2
     go_wp2_with fail
     exact⟨⟨k+1,hlt,by go_num,HB2.out⟩,by simp [intOf];omega⟩
    ·obtain rfl:k=l.length:=by omega
     go_wp2_with fail
     go_ret
     exact⟨Ky.out,rfl⟩
theorem s_fn (x:FL) (b lo hi:Nat) (w:World) (h:(aK.wide mkC).R w lo hi [.slice (some ⟨b,0,none⟩) x.code.length (x.code.length+64)] x.code) (hhi:hi≤w.heap.size) (hle:x.code.length≤131072∧ ∀y∈x.code,y.l.length≤131072):
 Calls prog 86 #[.agg #[.int .i64 x.t,.string x.loc,.slice (some ⟨b,0,none⟩) x.code.length (x.code.length+64)]] w fun e w'=>Below w.heap.size w w'∧e= .returned (.bool true):=by
 have H:=AA h;have OY:=AA hle
 clear h hle
 go_enter func86,ntmps86
 go_wp2_with fail
 generalize hw:World.alloc _ _=w1
 have HB1:Hid (Below w.heap.size w w1):=AA (by rw [←hw];exact(Below.refl _ _).alloc (Nat.le_refl _) _)
 clear hw
 refine(AC_ b lo hi x.code w1 (Rd.below H.out HB1.out hhi) (Nat.le_trans hhi HB1.out.size) OY.out.1 OY.out.2).mono ?_
 rintro e w2 ⟨hb2,rfl⟩
 have HB2:=AA (HB1.out.trans (hb2.mono HB1.out.size))
 clear hb2
 go_wp2_with fail
 go_ret
 exact⟨HB2.out,rfl⟩
def Yi (n:Nat) (w:World) (i:Value) (wr:World):Prop:= ∃k:Nat,n≤k∧k≤n+64∧i= .int .i64 (k:Int)∧Below w.heap.size w wr
def YJ (n:Nat) (w:World) (i:Value) (wr:World):Prop:= ∃k:Nat,k≤n∧i= .int .i64 (k:Int)∧Below w.heap.size w wr
theorem fG (b lo hi:Nat) (l:List FL) (w:World) (h:(wFn.wide mkF).R w lo hi [.slice (some ⟨b,0,none⟩) l.length (l.length+64)] l) (hhi:hi≤w.heap.size) (hle:l.length≤131072) (hbd: ∀x∈l,x.code.length≤131072∧ ∀y∈x.code,y.l.length≤131072):
 Calls prog 53 #[.slice (some ⟨b,0,none⟩) l.length (l.length+64)] w fun e w'=>Below w.heap.size w w'∧e= .returned (.bool true):=by
 obtain⟨Kg,hels,OQ⟩:=Jb h
 have HM:=AA OQ;have HL:=AA hels
 have hbw:b<w.heap.size:=Nat.lt_of_lt_of_le Kg hhi
 have pF:=AA hbd
 clear h hels OQ hbd
 go_enter func53,ntmps53
 go_wp2_with fail
 go_loopw [4,5] (fun i _ wr=>Yi l.length w i wr) (fun i _ _=>l.length+64-(intOf i).toNat)
 case atStart=>exact⟨l.length,Nat.le_refl _,Nat.le_add_right _ _,rfl,Below.refl _ _⟩
 case round=>
  obtain⟨k,hk1,hk2,rfl,hbel⟩:=hrel
  have HB:=AA hbel
  clear hbel
  have hk0:(0:Int)≤k:=by omega
  by_cases hlt:k<l.length+64
  ·have SX:(k:Int)<l.length+64:=by omega
   have HC:Hid (∀w,Calls prog 70 #[.int .i64 9,.int .i64 (k:Int)] w fun e w'=>w=w'∧e= .returned (.int .i64 (Ei k))):=AA (fun w=>w_num k (by omega) w)
   have hm:=HM.out k hk1 hlt
   obtain⟨y,hy,hy0,hy1⟩: ∃y,Ei k=y∧0≤y∧y<4611686018427387904:=⟨_,rfl,by unfold Ei;omega,by unfold Ei;omega⟩
   unfold mkF at hm
   rw [hy] at HC hm
   have hwr:IntKind.u64.wrap y=y:=by rw [IntKind.wrap_u64];omega
   clear hy
   have m0:wr.cell? ⟨b,k*3,none⟩=some (.int .i64 y):=(HB.out.cell (p:=⟨b,k*3,none⟩) hbw).trans (hm 0 _ rfl)
   have m1:wr.cell? ⟨b,k*3+1,none⟩=some (.string ⟨#[]⟩):=(HB.out.cell (p:=⟨b,k*3+1,none⟩) hbw).trans (hm 1 _ rfl)
   have m2:wr.cell? ⟨b,k*3+2,none⟩=some (.slice none 0 0):=(HB.out.cell (p:=⟨b,k*3+2,none⟩) hbw).trans (hm 2 _ rfl)
   clear hm
   go_upto_region 6 with fail
   generalize hw3:World.alloc _ _=w3
   have HB3:Hid (Below w.heap.size w w3):=AA (by rw [←hw3];exact HB.out.alloc HB.out.size _)
   have Gz:Hid (AV w3 wr.heap.size 56 [.int .i64 y,.string ⟨#[]⟩,.slice none 0 0]):=AA (by rw [←hw3];exact AV.new wr _ _)
   have OV:Hid (∀W,Below w3.heap.size w3 W→W.cell? ⟨wr.heap.size,0,none⟩=some (.int .i64 y)∧W.cell? ⟨wr.heap.size,1,none⟩=some (.string ⟨#[]⟩)∧W.cell? ⟨wr.heap.size,2,none⟩=some (.slice none 0 0)):=AA (fun W hW=>⟨(Gz.out.below hW Gz.out.lt).cell 0,(Gz.out.below hW Gz.out.lt).cell 1,(Gz.out.below hW Gz.out.lt).cell 2⟩)
   have Pq:Hid (Below w3.heap.size w3 w3.drew):=AA (Below.refl w3.heap.size w3).drew
   clear hw3 m0 m1 m2
   refine wp_region_held_drew (S:=fun W=>W.cell? ⟨wr.heap.size,0,none⟩=some (.int .i64 y)∧W.cell? ⟨wr.heap.size,1,none⟩=some (.string ⟨#[]⟩)∧W.cell? ⟨wr.heap.size,2,none⟩=some (.slice none 0 0)) (by kernel_rfl) (OV.out _ Pq.out) (fun hHeld=> ?_)
   generalize w3.drew=w9 at*
   refine AB (i:=0) (v:= ?_) rfl (by kernel_rfl) (fun _ _ _ h=>h) (by intro w hSw;(try dsimp only at hSw);go_simp;try with_reducible rfl) hHeld ?_
   refine AB (i:=1) (v:= ?_) rfl (by kernel_rfl) (fun _ _ _ h=>h) (by intro w hSw;(try dsimp only at hSw);go_simp;try with_reducible rfl) hHeld ?_
   refine AB (i:=2) (v:= ?_) rfl (by kernel_rfl) (fun _ _ _ h=>h) (by intro w hSw;(try dsimp only at hSw);go_simp;try with_reducible rfl) hHeld ?_
   refine wpAnyH_ready (rs:= [3]) (by kernel_rfl) (by simp) ?_
   refine AllReadyH.cons rfl (fun K hK=> ?_) AllReadyH.nil
   go_simp
   go_at_call 70
   refine(HC.out _).mono ?_
   rintro e w2 ⟨rfl,rfl⟩
   refine hK.out _ _ (OV.out _ Pq.out) (fun AX=> ?_)
   clear hK K
   have xB:Hid (Below w.heap.size w w9):=AA (HB3.out.trans (Pq.out.mono HB3.out.size))
   refine AB (i:=4) (v:= ?_) rfl (by kernel_rfl) (fun _ _ _ h=>h) (by intro w hSw;(try dsimp only at hSw);go_simp;try with_reducible rfl) AX ?_
   refine AB (i:=5) (v:= ?_) rfl (by kernel_rfl) (fun _ _ _ h=>h) (by intro w hSw;(try dsimp only at hSw);go_simp;try with_reducible rfl) AX ?_
   refine AB (i:=6) (v:= ?_) rfl (by kernel_rfl) (fun _ _ _ h=>h) (by intro w hSw;(try dsimp only at hSw);go_simp;try with_reducible rfl) AX ?_
   refine AB (i:=7) (v:= ?_) rfl (by kernel_rfl) (fun _ _ _ h=>h) (by intro w hSw;(try dsimp only at hSw);go_simp;try with_reducible rfl) AX ?_
   refine AB (i:=8) (v:= ?_) rfl (by kernel_rfl) (fun _ _ _ h=>h) (by intro w hSw;(try dsimp only at hSw);go_simp;try with_reducible rfl) AX ?_
   refine AB (i:=9) (v:= ?_) rfl (by kernel_rfl) (fun _ _ _ h=>h) (by intro w hSw;(try dsimp only at hSw);go_simp;try with_reducible rfl) AX ?_
   refine AB (i:=10) (v:= ?_) rfl (by kernel_rfl) (fun _ _ _ h=>h) (by intro w hSw;(try dsimp only at hSw);go_simp;try with_reducible rfl) AX ?_
   refine AB (i:=11) (v:= ?_) rfl (by kernel_rfl) (fun _ _ _ h=>h) (by intro w hSw;(try dsimp only at hSw);go_simp;try with_reducible rfl) AX ?_
   refine wpAnyH_done (by kernel_rfl) ?_ _
   go_simp
   go_wp2_with fail
   exact⟨⟨k+1,by omega,hlt,by go_num,xB.out⟩,by simp [intOf];omega⟩
  ·obtain rfl:k=l.length+64:=by omega
   have hge: ¬(((l.length+64:Nat):Int)<l.length+64):=by omega
   clear hlt hk0 hk1 hk2
   go_wp2_with fail
   obtain⟨wo,rfl⟩: ∃wo:World,wo=wr:=⟨_,rfl⟩
   go_loopw [6] (fun i wr=>YJ l.length w i wr) (fun i _=>l.length-(intOf i).toNat)
   case atStart=>exact⟨0,Nat.zero_le _,rfl,HB.out⟩
   case round=>
    obtain⟨k,hk2,rfl,hbel⟩:=hrel
    have Ky:=AA hbel
    clear hbel hge
    have hk0:(0:Int)≤k:=by omega
    by_cases hlt:k<l.length
    ·have hkl:(k:Int)<l.length:=by omega
     have hkn:(k:Int)<l.length+64:=by omega
     obtain⟨x,hx⟩: ∃x,l[k]?=some x:=⟨_,List.getElem?_eq_getElem hlt⟩
     obtain⟨cs,hcs,hr⟩:=HL.out k x hx
     obtain⟨v,rfl,h63,hs3,hw⟩:=WY.1 hr
     obtain⟨b2,hv2,-,-⟩:=Df hw
     obtain rfl:v= .slice (some ⟨b2,0,none⟩) x.code.length (x.code.length+64):=by injection hv2
     have m0:wr.cell? ⟨b,k*3,none⟩=some (.int .i64 x.t):=(Ky.out.cell (p:=⟨b,k*3,none⟩) hbw).trans (hcs 0 _ rfl)
     have m1:wr.cell? ⟨b,k*3+1,none⟩=some (.string x.loc):=(Ky.out.cell (p:=⟨b,k*3+1,none⟩) hbw).trans (hcs 1 _ rfl)
     have m2:wr.cell? ⟨b,k*3+2,none⟩=some (.slice (some ⟨b2,0,none⟩) x.code.length (x.code.length+64)):=(Ky.out.cell (p:=⟨b,k*3+2,none⟩) hbw).trans (hcs 2 _ rfl)
     have HS:=AA (s_fn x b2 lo hi wr (Rd.below hw Ky.out hhi) (Nat.le_trans hhi Ky.out.size) (pF.out x (List.mem_of_getElem? hx)))
     clear hcs hr hx hw
     go_wp2_with fail
     refine HS.out.mono ?_
     rintro e w2 ⟨hb2,rfl⟩
     have HB2:=AA (Ky.out.trans (hb2.mono Ky.out.size))
     clear hb2
     go_wp2_with fail
     exact⟨⟨k+1,hlt,by go_num,HB2.out⟩,by simp [intOf];omega⟩
    ·obtain rfl:k=l.length:=by omega
     go_wp2_with fail
     go_ret
     exact⟨Ky.out,rfl⟩
theorem AFe (x:EZ) (b lo hi:Nat) (w:World) (h:aJ.R w lo hi [.slice (some ⟨b,0,none⟩) x.b.length (x.b.length+64)] x.b) (hhi:hi≤w.heap.size) (hle:x.b.length≤131072):
 Calls prog 87 #[.agg #[.int .i64 x.at_,.slice (some ⟨b,0,none⟩) x.b.length (x.b.length+64)]] w fun e w'=>Below w.heap.size w w'∧e= .returned (.bool true):=by
 have H:=AA h
 clear h
 go_enter func87,ntmps87
 go_wp2_with fail
 generalize hw:World.alloc _ _=w1
 have HB1:Hid (Below w.heap.size w w1):=AA (by rw [←hw];exact(Below.refl _ _).alloc (Nat.le_refl _) _)
 clear hw
 refine(AAi b lo hi x.b w1 (Rd.below H.out HB1.out hhi) (Nat.le_trans hhi HB1.out.size) hle).mono ?_
 rintro e w2 ⟨hb2,rfl⟩
 have HB2:=AA (HB1.out.trans (hb2.mono HB1.out.size))
 clear hb2
 go_wp2_with fail
 go_ret
 exact⟨HB2.out,rfl⟩
def p9 (n:Nat) (w:World) (i:Value) (wr:World):Prop:= ∃k:Nat,n≤k∧k≤n+64∧i= .int .i64 (k:Int)∧Below w.heap.size w wr
def jU (n:Nat) (w:World) (i:Value) (wr:World):Prop:= ∃k:Nat,k≤n∧i= .int .i64 (k:Int)∧Below w.heap.size w wr
theorem AAj (b lo hi:Nat) (l:List EZ) (w:World) (h:(fA.wide mkD).R w lo hi [.slice (some ⟨b,0,none⟩) l.length (l.length+64)] l) (hhi:hi≤w.heap.size) (hle:l.length≤131072) (hbd: ∀x∈l,x.b.length≤131072):
 Calls prog 54 #[.slice (some ⟨b,0,none⟩) l.length (l.length+64)] w fun e w'=>Below w.heap.size w w'∧e= .returned (.bool true):=by
 obtain⟨Kg,hels,OQ⟩:=Jb h
 have HM:=AA OQ;have HL:=AA hels
 have hbw:b<w.heap.size:=Nat.lt_of_lt_of_le Kg hhi
 have pF:=AA hbd
 clear h hels OQ hbd
 go_enter func54,ntmps54
 go_wp2_with fail
 go_loopw [4,5] (fun i _ wr=>p9 l.length w i wr) (fun i _ _=>l.length+64-(intOf i).toNat)
 case atStart=>exact⟨l.length,Nat.le_refl _,Nat.le_add_right _ _,rfl,Below.refl _ _⟩
 case round=>
  obtain⟨k,hk1,hk2,rfl,hbel⟩:=hrel
  have HB:=AA hbel
  clear hbel
  have hk0:(0:Int)≤k:=by omega
  by_cases hlt:k<l.length+64
  ·have SX:(k:Int)<l.length+64:=by omega
   have HC:Hid (∀w,Calls prog 70 #[.int .i64 9,.int .i64 (k:Int)] w fun e w'=>w=w'∧e= .returned (.int .i64 (Ei k))):=AA (fun w=>w_num k (by omega) w)
   have hm:=HM.out k hk1 hlt
   obtain⟨y,hy,hy0,hy1⟩: ∃y,Ei k=y∧0≤y∧y<4611686018427387904:=⟨_,rfl,by unfold Ei;omega,by unfold Ei;omega⟩
   unfold mkD at hm
   rw [hy] at HC hm
   have hwr:IntKind.u64.wrap y=y:=by rw [IntKind.wrap_u64];omega
   clear hy
   have m0:wr.cell? ⟨b,k*2,none⟩=some (.int .i64 y):=(HB.out.cell (p:=⟨b,k*2,none⟩) hbw).trans (hm 0 _ rfl)
   have m1:wr.cell? ⟨b,k*2+1,none⟩=some (.slice none 0 0):=(HB.out.cell (p:=⟨b,k*2+1,none⟩) hbw).trans (hm 1 _ rfl)
   clear hm
   go_upto_region 6 with fail
   generalize hw3:World.alloc _ _=w3
   have HB3:Hid (Below w.heap.size w w3):=AA (by rw [←hw3];exact HB.out.alloc HB.out.size _)
   have Gz:Hid (AV w3 wr.heap.size 59 [.int .i64 y,.slice none 0 0]):=AA (by rw [←hw3];exact AV.new wr _ _)
   have OV:Hid (∀W,Below w3.heap.size w3 W→W.cell? ⟨wr.heap.size,0,none⟩=some (.int .i64 y)∧W.cell? ⟨wr.heap.size,1,none⟩=some (.slice none 0 0)):=AA (fun W hW=>⟨(Gz.out.below hW Gz.out.lt).cell 0,(Gz.out.below hW Gz.out.lt).cell 1⟩)
   have Pq:Hid (Below w3.heap.size w3 w3.drew):=AA (Below.refl w3.heap.size w3).drew
   clear hw3 m0 m1
   refine wp_region_held_drew (S:=fun W=>W.cell? ⟨wr.heap.size,0,none⟩=some (.int .i64 y)∧W.cell? ⟨wr.heap.size,1,none⟩=some (.slice none 0 0)) (by kernel_rfl) (OV.out _ Pq.out) (fun hHeld=> ?_)
   generalize w3.drew=w9 at*
   refine AB (i:=0) (v:= ?_) rfl (by kernel_rfl) (fun _ _ _ h=>h) (by intro w hSw;(try dsimp only at hSw);go_simp;try with_reducible rfl) hHeld ?_
   refine AB (i:=1) (v:= ?_) rfl (by kernel_rfl) (fun _ _ _ h=>h) (by intro w hSw;(try dsimp only at hSw);go_simp;try with_reducible rfl) hHeld ?_
   refine AB (i:=2) (v:= ?_) rfl (by kernel_rfl) (fun _ _ _ h=>h) (by intro w hSw;(try dsimp only at hSw);go_simp;try with_reducible rfl) hHeld ?_
   refine wpAnyH_ready (rs:= [3]) (by kernel_rfl) (by simp) ?_
   refine AllReadyH.cons rfl (fun K hK=> ?_) AllReadyH.nil
   go_simp
   go_at_call 70
   refine(HC.out _).mono ?_
   rintro e w2 ⟨rfl,rfl⟩
   refine hK.out _ _ (OV.out _ Pq.out) (fun AX=> ?_)
   clear hK K
   have xB:Hid (Below w.heap.size w w9):=AA (HB3.out.trans (Pq.out.mono HB3.out.size))
   refine AB (i:=4) (v:= ?_) rfl (by kernel_rfl) (fun _ _ _ h=>h) (by intro w hSw;(try dsimp only at hSw);go_simp;try with_reducible rfl) AX ?_
   refine AB (i:=5) (v:= ?_) rfl (by kernel_rfl) (fun _ _ _ h=>h) (by intro w hSw;(try dsimp only at hSw);go_simp;try with_reducible rfl) AX ?_
   refine AB (i:=6) (v:= ?_) rfl (by kernel_rfl) (fun _ _ _ h=>h) (by intro w hSw;(try dsimp only at hSw);go_simp;try with_reducible rfl) AX ?_
   refine AB (i:=7) (v:= ?_) rfl (by kernel_rfl) (fun _ _ _ h=>h) (by intro w hSw;(try dsimp only at hSw);go_simp;try with_reducible rfl) AX ?_
   refine AB (i:=8) (v:= ?_) rfl (by kernel_rfl) (fun _ _ _ h=>h) (by intro w hSw;(try dsimp only at hSw);go_simp;try with_reducible rfl) AX ?_
   refine AB (i:=9) (v:= ?_) rfl (by kernel_rfl) (fun _ _ _ h=>h) (by intro w hSw;(try dsimp only at hSw);go_simp;try with_reducible rfl) AX ?_
   refine AB (i:=10) (v:= ?_) rfl (by kernel_rfl) (fun _ _ _ h=>h) (by intro w hSw;(try dsimp only at hSw);go_simp;try with_reducible rfl) AX ?_
   refine AB (i:=11) (v:= ?_) rfl (by kernel_rfl) (fun _ _ _ h=>h) (by intro w hSw;(try dsimp only at hSw);go_simp;try with_reducible rfl) AX ?_
   refine wpAnyH_done (by kernel_rfl) ?_ _
   go_simp
   go_wp2_with fail
   exact⟨⟨k+1,by omega,hlt,by go_num,xB.out⟩,by simp [intOf];omega⟩
  ·obtain rfl:k=l.length+64:=by omega
   have hge: ¬(((l.length+64:Nat):Int)<l.length+64):=by omega
   clear hlt hk0 hk1 hk2
   go_wp2_with fail
   obtain⟨wo,rfl⟩: ∃wo:World,wo=wr:=⟨_,rfl⟩
   go_loopw [6] (fun i wr=>jU l.length w i wr) (fun i _=>l.length-(intOf i).toNat)
   case atStart=>exact⟨0,Nat.zero_le _,rfl,HB.out⟩
   case round=>
    obtain⟨k,hk2,rfl,hbel⟩:=hrel
    have Ky:=AA hbel
    clear hbel hge
    have hk0:(0:Int)≤k:=by omega
    by_cases hlt:k<l.length
    ·have hkl:(k:Int)<l.length:=by omega
     have hkn:(k:Int)<l.length+64:=by omega
     obtain⟨x,hx⟩: ∃x,l[k]?=some x:=⟨_,List.getElem?_eq_getElem hlt⟩
     obtain⟨cs,hcs,hr⟩:=HL.out k x hx
     obtain⟨v,rfl,h63,hw⟩:=Te.1 hr
     obtain⟨b2,hv2,-,-⟩:=Df hw
     obtain rfl:v= .slice (some ⟨b2,0,none⟩) x.b.length (x.b.length+64):=by injection hv2
     have m0:wr.cell? ⟨b,k*2,none⟩=some (.int .i64 x.at_):=(Ky.out.cell (p:=⟨b,k*2,none⟩) hbw).trans (hcs 0 _ rfl)
     have m1:wr.cell? ⟨b,k*2+1,none⟩=some (.slice (some ⟨b2,0,none⟩) x.b.length (x.b.length+64)):=(Ky.out.cell (p:=⟨b,k*2+1,none⟩) hbw).trans (hcs 1 _ rfl)
     have HS:=AA (AFe x b2 lo hi wr (Rd.below hw Ky.out hhi) (Nat.le_trans hhi Ky.out.size) (pF.out x (List.mem_of_getElem? hx)))
     clear hcs hr hx hw
     go_wp2_with fail
     refine HS.out.mono ?_
     rintro e w2 ⟨hb2,rfl⟩
     have HB2:=AA (Ky.out.trans (hb2.mono Ky.out.size))
     clear hb2
     go_wp2_with fail
     exact⟨⟨k+1,hlt,by go_num,HB2.out⟩,by simp [intOf];omega⟩
    ·obtain rfl:k=l.length:=by omega
     go_wp2_with fail
     go_ret
     exact⟨Ky.out,rfl⟩
end Go.Proofs.YtebgikflpgcnlaaGreatDoor
