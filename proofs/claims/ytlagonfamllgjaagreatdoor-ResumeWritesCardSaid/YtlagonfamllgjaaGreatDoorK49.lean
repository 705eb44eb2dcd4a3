/- Part 49 of the proof: ResB ResC ResD -/
import Derived.Test.YtlagonfamllgjaaGreatDoorK48
namespace Go.Proofs.YtlagonfamllgjaaGreatDoor
set_option linter.unusedVariables false
set_option linter.unusedSimpArgs false
set_option maxRecDepth 100000
set_option maxHeartbeats 4000000
open Go.RowKit Tryz
theorem QY {α:Type} {r:Rd α} {W:World} {lo hi b:Nat} {t:TypeId} {vs:List Value} (hb:AQ W b t vs) (h1:lo≤b) (h2:b<hi) (l:List α) (hx: ∀k x,l[k]?=some x→r.R W lo hi ((vs.drop (k*r.z)).take r.z) x):(r.sl false).R W lo hi [.slice (some ⟨b,0,none⟩) l.length l.length] l:=
 ⟨_,_,rfl,⟨fun h=>(by cases h),Nat.le_refl _⟩,fun _=>⟨b,0,rfl,h1,h2,fun k x hk=>⟨_,(fun j u hu=>by
  rw [List.getElem?_take] at hu
  split at hu
  ·rw [List.getElem?_drop] at hu
   rw [Nat.zero_add,hb.cell]
   exact hu
  ·cases hu),hx k x hk⟩⟩⟩
theorem Po {n:Int} (h: -9223372036854775808≤n∧n<9223372036854775808):Rd.G8 n:=h
theorem Yu {s:ByteArray} (h:s.size≤140737488351232):Rd.Pq s:=h
def sW:ByteArray:=⟨#[119]⟩
def M0:AP:=⟨[⟨ByteArray.empty,sW⟩],[],[],1,2,[⟨0,ByteArray.empty,[⟨24,5,[]⟩,⟨6,0,[]⟩]⟩],[],[]⟩
def Bf:FH:=⟨[⟨0,0,[],[]⟩],[],[CB],0,1,[],0,0⟩
theorem VU (w:World):Calls prog 23 #[] w fun e w'=>Below w.heap.size w w'∧ ∃cs:List Value,e= .returned (.agg cs.toArray)∧DJ.R w' w.heap.size w'.heap.size cs M0:=by
 go_enter func23,ntmps23
 go_upto_region 1 with fail
 go_wp2_with fail
 refine⟨rfl,.agg #[.slice (some ⟨w.heap.size+1,0,none⟩) 1 1,.slice none 0 0,.slice none 0 0,.int .i64 1,.int .i64 2,.slice (some ⟨w.heap.size+1+1+1,0,none⟩) 1 1,.slice none 0 0,.slice none 0 0],?_,?_,?_⟩
 ·exact results_cell_row rfl _ _ w.heap.size 29 _ (0,0) _ rfl ((((AQ.new w 29 [.slice (some ⟨w.heap.size+1,0,none⟩) 1 1,.slice none 0 0,.slice none 0 0,.int .i64 1,.int .i64 2,.slice (some ⟨w.heap.size+1+1+1,0,none⟩) 1 1,.slice none 0 0,.slice none 0 0]).alloc _).alloc _).alloc _) underlying29 rfl (by kernel_rfl)
 ·exact(((Below.refl _ _).alloc (Nat.le_refl _) _).alloc (by simp) _ |>.alloc (by simp;omega) _).alloc (by simp;omega) _
 ·refine⟨[.slice (some ⟨w.heap.size+1,0,none⟩) 1 1,.slice none 0 0,.slice none 0 0,.int .i64 1,.int .i64 2,.slice (some ⟨w.heap.size+1+1+1,0,none⟩) 1 1,.slice none 0 0,.slice none 0 0],rfl,?_⟩
  obtain⟨w1,h1⟩: ∃w1,w1=w.alloc (.cells #[.slice (some ⟨w.heap.size+1,0,none⟩) 1 1,.slice none 0 0,.slice none 0 0,.int .i64 1,.int .i64 2,.slice (some ⟨w.heap.size+1+1+1,0,none⟩) 1 1,.slice none 0 0,.slice none 0 0] 29):=⟨_,rfl⟩
  have z1:w1.heap.size=w.heap.size+1:=by rw [h1];simp
  rw [←h1]
  clear h1
  obtain⟨w2,h2⟩: ∃w2,w2=w1.alloc (.cells #[.string {data:= #[]},.string {data:= #[119]}] 93):=⟨_,rfl⟩
  have z2:w2.heap.size=w1.heap.size+1:=by rw [h2];simp
  have b1:AQ w2 (w.heap.size+1) 93 [.string {data:= #[]},.string {data:= #[119]}]:=by rw [h2,←z1];exact AQ.new w1 _ [_,_]
  rw [←h2]
  clear h2
  obtain⟨w3,h3⟩: ∃w3,w3=w2.alloc (.cells #[.int .u8 24,.int .i64 5,.slice none 0 0,.int .u8 6,.int .i64 0,.slice none 0 0] 122):=⟨_,rfl⟩
  have z3:w3.heap.size=w2.heap.size+1:=by rw [h3];simp
  have b2:AQ w3 (w.heap.size+1+1) 122 [.int .u8 24,.int .i64 5,.slice none 0 0,.int .u8 6,.int .i64 0,.slice none 0 0]:=by rw [h3,←z1,←z2];exact AQ.new w2 _ [_,_,_,_,_,_]
  have b1:AQ w3 (w.heap.size+1) 93 [.string {data:= #[]},.string {data:= #[119]}]:=by rw [h3];exact b1.alloc _
  rw [←h3]
  clear h3
  obtain⟨w4,h4⟩: ∃w4,w4=w3.alloc (.cells #[.int .i64 0,.string {data:= #[]},.slice (some ⟨w.heap.size+1+1,0,none⟩) 2 2] 96):=⟨_,rfl⟩
  have z4:w4.heap.size=w3.heap.size+1:=by rw [h4];simp
  have b3:AQ w4 (w.heap.size+1+1+1) 96 [.int .i64 0,.string {data:= #[]},.slice (some ⟨w.heap.size+1+1,0,none⟩) 2 2]:=by rw [h4,←z1,←z2,←z3];exact AQ.new w3 _ [_,_,_]
  have b1:AQ w4 (w.heap.size+1) 93 [.string {data:= #[]},.string {data:= #[119]}]:=by rw [h4];exact b1.alloc _
  have b2:AQ w4 (w.heap.size+1+1) 122 [.int .u8 24,.int .i64 5,.slice none 0 0,.int .u8 6,.int .i64 0,.slice none 0 0]:=by rw [h4];exact b2.alloc _
  rw [←h4]
  clear h4
  refine Am.2 ⟨_,_,_,_,_,_,rfl,QY (r:=Py) b1 (by omega) (by omega) [⟨ByteArray.empty,sW⟩] ?_,TR,TR,by first | exact Po (by decide) | exact Yu (by decide),by first | exact Po (by decide) | exact Yu (by decide),QY (r:=Qe) b3 (by omega) (by omega) [⟨0,ByteArray.empty,[⟨24,5,[]⟩,⟨6,0,[]⟩]⟩] ?_,TR,TR⟩
  ·intro k x hk
   have hk0:k=0:=by have:=(List.getElem?_eq_some_iff.1 hk).1;simp at this;exact this
   subst hk0
   injection hk with hk
   subst hk
   exact Rt.2 ⟨rfl,by first | exact Po (by decide) | exact Yu (by decide),by first | exact Po (by decide) | exact Yu (by decide)⟩
  ·intro k x hk
   have hk0:k=0:=by have:=(List.getElem?_eq_some_iff.1 hk).1;simp at this;exact this
   subst hk0
   injection hk with hk
   subst hk
   refine IX.2 ⟨_,rfl,by first | exact Po (by decide) | exact Yu (by decide),by first | exact Po (by decide) | exact Yu (by decide),QY (r:=Ei) b2 (by omega) (by omega) [⟨24,5,[]⟩,⟨6,0,[]⟩] ?_⟩
   intro k x hk
   have hk2:k=0∨k=1:=by have:=(List.getElem?_eq_some_iff.1 hk).1;simp at this;omega
   rcases hk2 with rfl | rfl
   ·injection hk with hk
    subst hk
    exact DL.2 ⟨_,rfl,by first | exact Po (by decide) | exact Yu (by decide),TR⟩
   ·injection hk with hk
    subst hk
    exact DL.2 ⟨_,rfl,by first | exact Po (by decide) | exact Yu (by decide),TR⟩
theorem VW (w:World):Calls prog 24 #[] w fun e w'=>Below w.heap.size w w'∧ ∃cs:List Value,e= .returned (.agg cs.toArray)∧K7.R w' w.heap.size w'.heap.size cs Bf:=by
 obtain⟨i1,hi1,hz1,hs1,hb1⟩:=info_parts EJ
 have hmk:=fun W=>JO (P:=prog) 40 5 i1 (.int .u8 0) 1 underlying40 hi1 hz1 rfl hs1 hb1 4096 4096 rfl (by omega) (by omega) W
 have HN:Hid (jy (.int .u8 0) 4096=(CB.map bv).toArray):=AA VR
 rw [HN.out] at hmk
 obtain⟨Z,hZ⟩: ∃Z,(CB.map bv).toArray=Z:=⟨_,rfl⟩
 rw [hZ] at hmk
 have HZ0:=AA hZ
 clear hZ HN
 clear hi1 hz1 hs1 hb1
 go_enter func24,ntmps24
 go_wp2_with fail
 refine⟨rfl,.agg #[.slice (some ⟨w.heap.size+1,0,none⟩) 1 1,.slice none 0 0,.slice (some ⟨w.heap.size+1+1+1,0,none⟩) 1 1,.int .i64 0,.int .i8 1,.slice none 0 0,.int .i8 0,.int .i64 0],?_,?_,?_⟩
 ·exact results_cell_row rfl _ _ w.heap.size 35 _ (0,0) _ rfl ((((AQ.new w 35 [.slice (some ⟨w.heap.size+1,0,none⟩) 1 1,.slice none 0 0,.slice (some ⟨w.heap.size+1+1+1,0,none⟩) 1 1,.int .i64 0,.int .i8 1,.slice none 0 0,.int .i8 0,.int .i64 0]).alloc _).alloc _).alloc _) underlying35 rfl (by kernel_rfl)
 ·exact(((Below.refl _ _).alloc (Nat.le_refl _) _).alloc (by simp) _ |>.alloc (by simp;omega) _).alloc (by simp;omega) _
 ·refine⟨[.slice (some ⟨w.heap.size+1,0,none⟩) 1 1,.slice none 0 0,.slice (some ⟨w.heap.size+1+1+1,0,none⟩) 1 1,.int .i64 0,.int .i8 1,.slice none 0 0,.int .i8 0,.int .i64 0],rfl,?_⟩
  have HP:Hid ((CB.map bv).toArray=Z):=HZ0
  obtain⟨w1,h1⟩: ∃w1,w1=w.alloc (.cells #[.slice (some ⟨w.heap.size+1,0,none⟩) 1 1,.slice none 0 0,.slice (some ⟨w.heap.size+1+1+1,0,none⟩) 1 1,.int .i64 0,.int .i8 1,.slice none 0 0,.int .i8 0,.int .i64 0] 35):=⟨_,rfl⟩
  have z1:w1.heap.size=w.heap.size+1:=by rw [h1];simp
  rw [←h1]
  clear h1
  obtain⟨w2,h2⟩: ∃w2,w2=w1.alloc (.cells #[.int .i64 0,.int .i64 0,.slice none 0 0,.slice none 0 0] 91):=⟨_,rfl⟩
  have z2:w2.heap.size=w1.heap.size+1:=by rw [h2];simp
  have b1:AQ w2 (w.heap.size+1) 91 [.int .i64 0,.int .i64 0,.slice none 0 0,.slice none 0 0]:=by rw [h2,←z1];exact AQ.new w1 _ [_,_,_,_]
  rw [←h2]
  clear h2
  obtain⟨w3,h3⟩: ∃w3,w3=w2.alloc (.cells Z 5):=⟨_,rfl⟩
  have z3:w3.heap.size=w2.heap.size+1:=by rw [h3];simp
  have b2:AQ w3 (w.heap.size+1+1) 5 (CB.map bv):=by rw [h3,←z1,←z2,←HP.out];exact AQ.new w2 _ _
  have b1:AQ w3 (w.heap.size+1) 91 [.int .i64 0,.int .i64 0,.slice none 0 0,.slice none 0 0]:=by rw [h3];exact b1.alloc _
  rw [←h3]
  clear h3
  obtain⟨w4,h4⟩: ∃w4,w4=w3.alloc (.cells #[.slice (some ⟨w.heap.size+1+1,0,none⟩) 4096 4096] 40):=⟨_,rfl⟩
  have z4:w4.heap.size=w3.heap.size+1:=by rw [h4];simp
  have b3:AQ w4 (w.heap.size+1+1+1) 40 [.slice (some ⟨w.heap.size+1+1,0,none⟩) 4096 4096]:=by rw [h4,←z1,←z2,←z3];exact AQ.new w3 _ [_]
  have b1:AQ w4 (w.heap.size+1) 91 [.int .i64 0,.int .i64 0,.slice none 0 0,.slice none 0 0]:=by rw [h4];exact b1.alloc _
  have b2:AQ w4 (w.heap.size+1+1) 5 (CB.map bv):=by rw [h4];exact b2.alloc _
  rw [←h4]
  clear h4
  refine CU.2 ⟨_,_,_,_,rfl,QY (r:=Od) b1 (by omega) (by omega) [⟨0,0,[],[]⟩] ?_,TR,QY (r:=Rd.u8.sl false) b3 (by omega) (by omega) [CB] ?_,Po (by decide),⟨by decide,by decide⟩,TR,⟨by decide,by decide⟩,Po (by decide)⟩
  ·intro k x hk
   have hk0:k=0:=by have:=(List.getElem?_eq_some_iff.1 hk).1;simp at this;exact this
   subst hk0
   injection hk with hk
   subst hk
   exact FV.2 ⟨_,_,rfl,Po (by decide),Po (by decide),TR,TR⟩
  ·intro k x hk
   have hk0:k=0:=by have:=(List.getElem?_eq_some_iff.1 hk).1;simp at this;exact this
   subst hk0
   injection hk with hk
   subst hk
   have hl:CB.length=4096:=List.length_replicate ..
   have:=QY (r:=Rd.u8) (W:=w4) (lo:=w.heap.size) (hi:=w4.heap.size) b2 (by omega) (by omega) CB (fun k x hk=>⟨by
    have hlt:=(List.getElem?_eq_some_iff.1 hk).1
    show((CB.map bv).drop (k*1)).take 1= [bv x]
    rw [Nat.mul_one,←List.map_drop,List.drop_eq_getElem_cons hlt]
    rw [List.getElem?_eq_getElem hlt] at hk
    injection hk with hk
    rw [hk];rfl,trivial⟩)
   rw [hl] at this
   exact this
theorem ak {w:World} {g:Nat} {tmps:Array Value} {a0 a1 a2 a3 a4 a5 a6 a7 e v:Value} (h:AQ w g 35 [a0,a1,a2,a3,a4,a5,a6,a7]) (h2:tmps.getD 7 undef= .pointer (some ⟨g,0,none⟩)) (h3:tmps.getD 8 undef=e) (h4:tmps.getD 9 undef=v):
 (results f79 tmps).run prog w= .ok (.tuple #[.agg #[a0,a1,a2,a3,a4,a5,a6,a7],e,v]) w:=by
 obtain⟨z0,z1,z2,z3,z4,z5,z6,z7⟩:=wU h
 simp only [Array.getD_eq_getD_getElem?] at h2 h3 h4
 simp [results,results79,go_sem,z0,z1,z2,z3,z4,z5,z6,z7,h2,h3,h4]
theorem Wy {w:World} {g:Nat} {tmps:Array Value} {a0 a1 a2 a3 a4 a5 a6 a7 e v:Value} (h:AQ w g 35 [a0,a1,a2,a3,a4,a5,a6,a7]) (h2:tmps.getD 4 undef= .pointer (some ⟨g,0,none⟩)) (h3:tmps.getD 5 undef=e) (h4:tmps.getD 6 undef=v):
 (results f18 tmps).run prog w= .ok (.tuple #[.agg #[a0,a1,a2,a3,a4,a5,a6,a7],e,v]) w:=by
 obtain⟨z0,z1,z2,z3,z4,z5,z6,z7⟩:=wU h
 simp only [Array.getD_eq_getD_getElem?] at h2 h3 h4
 simp [results,results18,go_sem,z0,z1,z2,z3,z4,z5,z6,z7,h2,h3,h4]
def ckV (m:AP) (s:FH) (ds:List Value):Value:=if(DW m s).1=0 then .tuple #[.agg ds.toArray,.int .i64 0,.int .i64 0] else .tuple #[VT,.int .i64 (DW m s).1,.int .i64 (DW m s).2]
theorem ABX (a0 a1 a2 a3 a4 a5 a6 a7:Value) (e at_:Int) (hne:e≠0) (mp:Value) (w:World):
 Calls prog 79 #[.agg #[a0,a1,a2,a3,a4,a5,a6,a7],.int .i64 e,.int .i64 at_,mp] w fun en w'=>Below w.heap.size w w'∧en= .returned (.tuple #[VT,.int .i64 e,.int .i64 at_]):=by
 have n1:(e !=0)=true:=bne_iff_ne.2 hne
 go_enter func79,ntmps79
 go_upto_region 1 with fail
 generalize hw0:w.alloc (.cells #[a0,a1,a2,a3,a4,a5,a6,a7] 35)=w0
 obtain⟨hb0,hx0⟩:=ES hw0
 have hz0:w0.heap.size=w.heap.size+1:=by rw [←hw0];simp
 clear hw0
 generalize hw1:w0.alloc _=w1
 obtain⟨hb1,hx1⟩:=ES hw1
 rw [hz0] at hx1
 try rw [hz0]
 have Ef:=AA hx1
 have HB1:Hid (Below w.heap.size w w1):=AA (hb0.trans (hb1.mono hb0.size))
 clear hw1 hb0 hb1 hx0 hx1 hz0
 go_wp2_with (refine Jr Ef.out rfl _ _ rfl rfl _ rfl ?_ ?_ ?_ ?_;(try focus kernel_rfl);(try focus rfl);(try focus kernel_rfl))
 have CV:=AA (Ef.out.setRow #[.slice none 0 0,.slice none 0 0,.slice none 0 0,.int .i64 0,.int .i8 0,.slice none 0 0,.int .i8 0,.int .i64 0])
 generalize hw2:World.setRow _ _ _=w2 at*
 have hbz:Below w.heap.size w w2:=by rw [←hw2];exact HB1.out.trans (ER (Nat.le_succ _) _)
 refine⟨rfl,.tuple #[VT,.int .i64 e,.int .i64 at_],?_,hbz,rfl⟩
 exact ak CV.out rfl rfl rfl
theorem AFK (cs ds:List Value) (hi mb:Nat) (m:AP) (s:FH) (w:World) (hmb:AQ w mb 29 cs) (hm:DJ.R w 0 hi cs m) (hs:K7.R w 0 hi ds s) (hhi:hi≤w.heap.size) (hle:Bg m≤2147483647) (Df:FN m) (hin:RA s)
 (htab: ∀w',Below hi w w'→Lib.TabIs prog w' "strings.asciiSpace" .u8 Lib.asciiSpaceTab):
 Calls prog 79 #[.agg ds.toArray,.int .i64 0,.int .i64 0,.pointer (some ⟨mb,0,none⟩)] w fun en w'=>Below w.heap.size w w'∧en= .returned (ckV m s ds):=by
 have HM:=AA hm;have HST:=AA hs;have Bw:=AA hhi;have I7:=AA hle;have HN:=AA Df;have Es:=AA hin;have HT:=AA htab
 obtain⟨v1,v2,v3,v4,v5,v6,rfl,_⟩:=Am.1 hm
 obtain⟨u0,u1,u2,u5,rfl,s0,s1,s2,_,_,s5,_,_⟩:=CU.1 hs
 obtain⟨B0,d0,rfl⟩:=AB s0
 obtain⟨B1,d1,rfl⟩:=AB s1
 obtain⟨B2,d2,rfl⟩:=AB s2
 obtain⟨B5,d5,rfl⟩:=AB s5
 clear s0 s1 s2 s5
 have TY:=AA hmb
 have hml:=hmb.lt
 clear hm hs hhi hle Df hin htab hmb
 go_enter func79,ntmps79
 go_upto_region 1 with fail
 generalize hw0:w.alloc (.cells #[.slice B0 s.frames.length d0,.slice B1 s.globs.length d1,.slice B2 s.pages.length d2,.int .i64 s.Bj,.int .i8 s.end_,.slice B5 s.res.length d5,.int .i8 s.trap,.int .i64 s.used] 35)=w0
 obtain⟨hb0,hx0⟩:=ES hw0
 have hz0:w0.heap.size=w.heap.size+1:=by rw [←hw0];simp
 clear hw0
 generalize hw1:w0.alloc _=w1
 obtain⟨hb1,hx1⟩:=ES hw1
 rw [hz0] at hx1
 try rw [hz0]
 have HXA:=AA (hx0.below hb1 hx0.lt)
 have Ef:=AA hx1
 have HB1:Hid (Below w.heap.size w w1):=AA (hb0.trans (hb1.mono hb0.size))
 have HMB1:=AA (TY.out.below HB1.out hml)
 clear hw1 hb0 hb1 hx0 hx1 hz0
 go_wp2_with (first | refine rG HMB1.out rfl _ rfl rfl ?_ | refine jo HXA.out rfl _ rfl rfl ?_)
 refine(Yo _ _ hi m s w1 (Rd.below HM.out HB1.out Bw.out) (Rd.below HST.out HB1.out Bw.out) (Nat.le_trans Bw.out HB1.out.size) I7.out HN.out Es.out (fun w' hw'=>HT.out w' ((HB1.out.mono Bw.out).trans hw'))).mono ?_
 rintro e w2 ⟨hb2,rfl⟩
 have HB2:Hid (Below w.heap.size w w2):=AA (HB1.out.trans (hb2.mono HB1.out.size))
 have HYA:=AA (HXA.out.below hb2 HXA.out.lt)
 have L9:=AA (Ef.out.below hb2 Ef.out.lt)
 clear hb2
 by_cases h0:(DW m s).1=0
 ·have HP:Hid (ckV m s [.slice B0 s.frames.length d0,.slice B1 s.globs.length d1,.slice B2 s.pages.length d2,.int .i64 s.Bj,.int .i8 s.end_,.slice B5 s.res.length d5,.int .i8 s.trap,.int .i64 s.used]= .tuple #[.agg #[.slice B0 s.frames.length d0,.slice B1 s.globs.length d1,.slice B2 s.pages.length d2,.int .i64 s.Bj,.int .i8 s.end_,.slice B5 s.res.length d5,.int .i8 s.trap,.int .i64 s.used],.int .i64 0,.int .i64 0]):=AA (by unfold ckV;rw [if_pos h0])
  rw [h0]
  clear h0
  generalize (DW m s).2=at2 at*
  go_wp2_with (first | refine jo HYA.out rfl _ rfl rfl ?_ | (refine Jr L9.out rfl _ _ rfl rfl _ rfl ?_ ?_ ?_ ?_;(try focus kernel_rfl);(try focus rfl);(try focus kernel_rfl)))
  have CV:=AA (L9.out.setRow #[.slice B0 s.frames.length d0,.slice B1 s.globs.length d1,.slice B2 s.pages.length d2,.int .i64 s.Bj,.int .i8 s.end_,.slice B5 s.res.length d5,.int .i8 s.trap,.int .i64 s.used])
  generalize hw2:World.setRow _ _ _=w3 at*
  have hbz:Below w.heap.size w w3:=by rw [←hw2];exact HB2.out.trans (ER (Nat.le_succ _) _)
  refine⟨rfl,.tuple #[.agg #[.slice B0 s.frames.length d0,.slice B1 s.globs.length d1,.slice B2 s.pages.length d2,.int .i64 s.Bj,.int .i8 s.end_,.slice B5 s.res.length d5,.int .i8 s.trap,.int .i64 s.used],.int .i64 0,.int .i64 0],?_,hbz,by rw [HP.out]⟩
  exact ak CV.out rfl rfl rfl
 ·have hne:((DW m s).1 !=0)=true:=bne_iff_ne.2 h0
  have HP:Hid (ckV m s [.slice B0 s.frames.length d0,.slice B1 s.globs.length d1,.slice B2 s.pages.length d2,.int .i64 s.Bj,.int .i8 s.end_,.slice B5 s.res.length d5,.int .i8 s.trap,.int .i64 s.used]= .tuple #[VT,.int .i64 (DW m s).1,.int .i64 (DW m s).2]):=AA (by unfold ckV;rw [if_neg h0])
  generalize (DW m s).1=er at*
  generalize (DW m s).2=at2 at*
  clear h0
  go_wp2_with (refine Jr L9.out rfl _ _ rfl rfl _ rfl ?_ ?_ ?_ ?_;(try focus kernel_rfl);(try focus rfl);(try focus kernel_rfl))
  have CV:=AA (L9.out.setRow #[.slice none 0 0,.slice none 0 0,.slice none 0 0,.int .i64 0,.int .i8 0,.slice none 0 0,.int .i8 0,.int .i64 0])
  generalize hw2:World.setRow _ _ _=w3 at*
  have hbz:Below w.heap.size w w3:=by rw [←hw2];exact HB2.out.trans (ER (Nat.le_succ _) _)
  refine⟨rfl,.tuple #[VT,.int .i64 er,.int .i64 at2],?_,hbz,by rw [HP.out]⟩
  exact ak CV.out rfl rfl rfl
theorem au (a0 a1 a2 a3 a4 a5 a6 a7:Value) (w:World):
 Calls prog 52 #[.agg #[a0,a1,a2,a3,a4,a5,a6,a7]] w fun en w'=>Below w.heap.size w w'∧en= .returned (.func (.func 79) #[] #[.pointer (some ⟨w.heap.size,0,none⟩)])∧AQ w' w.heap.size 29 [a0,a1,a2,a3,a4,a5,a6,a7]:=by
 go_enter func52,ntmps52
 go_wp2_with fail
 generalize hw0:w.alloc _=w0
 obtain⟨hb0,hx0⟩:=ES hw0
 go_ret
 exact⟨hb0,rfl,hx0⟩
def ABY (m:AP) (l:List UInt8) (w:World) (e:Ending) (w':World):Prop:=Below w.heap.size w w'∧match F7 m with
 | .inl q=>e= .returned (.tuple #[VT,.int .i64 q.1,.int .i64 0])
 | .inr _=>match I6 l with
  | .inl x=>e= .returned (.tuple #[VT,.int .i64 x.1,.int .i64 x.2])
  | .inr s=>if(DW m s).1=0 then ∃ds:List Value,e= .returned (.tuple #[.agg ds.toArray,.int .i64 0,.int .i64 0])∧K7.R w' w.heap.size w'.heap.size ds s
   else e= .returned (.tuple #[VT,.int .i64 (DW m s).1,.int .i64 (DW m s).2])
theorem wX (cs:List Value) (hi:Nat) (m:AP) (A:Option Addr) (c B:Nat) (l:List UInt8) (w:World) (hm:DJ.R w 0 hi cs m) (hhi:hi≤w.heap.size) (hle:Bg m≤2147483647) (Df:FN m) (hr:Row w B A (l.map bv)) (hB:B≤w.heap.size) (hlc:l.length≤c) (hl:l.length≤140737488351232)
 (htab: ∀w',Below hi w w'→Lib.TabIs prog w' "strings.asciiSpace" .u8 Lib.asciiSpaceTab) (hx0: ∀x,I6 l= .inl x→x.1≠0) (hin: ∀s,I6 l= .inr s→RA s)
 (Zv: ∀(g:Nat) (w:World),Hq 146 w g (.slice A l.length c) (posR (bR l))→Row w B A (l.map bv)→B≤g→Calls prog 83 #[.pointer (some ⟨g,0,none⟩)] w (Oa 146 g (.slice A l.length c) w (posR (T9 l)) (iy (Rd.u8.sl false) w (T9 l)))):
 Calls prog 18 #[.agg cs.toArray,.slice A l.length c] w (ABY m l w):=by
 have HM:=AA hm;have Bw:=AA hhi;have I7:=AA hle;have HN:=AA Df;have HT:=AA htab;have HR:=AA hr;have Pw:=AA hx0;have Es:=AA hin;have Zv:=AA Zv
 obtain⟨v1,v2,v3,v4,v5,v6,rfl,_⟩:=Am.1 hm
 clear hm hhi hle Df htab hr hx0 hin
 go_enter func18,ntmps18
 go_upto_region 1 with fail
 generalize hw0:w.alloc (.cells #[v1,v2,v3,.int .i64 m.first,.int .i64 m.most,v4,v5,v6] 29)=w0
 obtain⟨hb0,hx0⟩:=ES hw0
 have hz0:w0.heap.size=w.heap.size+1:=by rw [←hw0];simp
 clear hw0
 generalize hw1:w0.alloc _=w1
 obtain⟨hb1,hx1⟩:=ES hw1
 rw [hz0] at hx1
 try rw [hz0]
 have G9:=AA (hx0.below hb1 hx0.lt)
 have Ef:=AA hx1
 have HB1:Hid (Below w.heap.size w w1):=AA (hb0.trans (hb1.mono hb0.size))
 clear hw1 hb0 hb1 hx0 hx1 hz0
 go_wp2_with (refine rG G9.out rfl _ rfl rfl ?_)
 refine(VO _ hi m w1 (Rd.below HM.out HB1.out Bw.out) (Nat.le_trans Bw.out HB1.out.size) I7.out HN.out (fun w' hw'=>HT.out w' ((HB1.out.mono Bw.out).trans hw'))).mono ?_
 rintro e w2 ⟨hb2,hp⟩
 have HB2:Hid (Below w.heap.size w w2):=AA (HB1.out.trans (hb2.mono HB1.out.size))
 have U_:=AA (G9.out.below hb2 G9.out.lt)
 have L9:=AA (Ef.out.below hb2 Ef.out.lt)
 clear hb2
 cases hv:F7 m with
 | inl q=>
  rw [hv] at hp
  dsimp only at hp
  subst hp
  have hne:(q.1 !=0)=true:=by have:=MR hv;simpa using this
  have HX:=AA hv
  clear hv
  go_wp2_with (refine Jr L9.out rfl _ _ rfl rfl _ rfl ?_ ?_ ?_ ?_;(try focus kernel_rfl);(try focus rfl);(try focus kernel_rfl))
  have CV:=AA (L9.out.setRow #[.slice none 0 0,.slice none 0 0,.slice none 0 0,.int .i64 0,.int .i8 0,.slice none 0 0,.int .i8 0,.int .i64 0])
  generalize hw2:World.setRow _ _ _=w3 at*
  have hbz:Below w.heap.size w w3:=by rw [←hw2];exact HB2.out.trans (ER (Nat.le_succ _) _)
  refine⟨rfl,.tuple #[VT,.int .i64 q.1,.int .i64 0],?_,hbz,by rw [HX.out]⟩
  exact Wy CV.out rfl rfl rfl
 | inr t=>
 rw [hv] at hp
 dsimp only at hp
 obtain⟨At,ct,rfl,_⟩:=hp
 have HV:=AA hv
 clear hv
 go_wp2_with (refine rG U_.out rfl _ rfl rfl ?_)
 refine(au _ _ _ _ _ _ _ _ w2).mono ?_
 rintro e w3 ⟨hb3,rfl,hbk⟩
 have HB3:Hid (Below w.heap.size w w3):=AA (HB2.out.trans (hb3.mono HB2.out.size))
 have HYT:=AA (L9.out.below hb3 L9.out.lt)
 have dK:=AA hbk
 clear hb3 hbk
 go_wp2_with fail
 refine(wV A c B l w3 (HR.out.below' HB3.out hB) (Nat.le_trans hB HB3.out.size) hlc hl Zv.out).mono ?_
 rintro e w4 ⟨hb4,jd⟩
 have C9:Hid (Below w.heap.size w w4):=AA (HB3.out.trans (hb4.mono HB3.out.size))
 have HWS:=AA (HYT.out.below hb4 HYT.out.lt)
 have HBM:=AA (dK.out.below hb4 dK.out.lt)
 cases zM:I6 l with
 | inl x=>
  rw [zM] at jd
  dsimp only at jd
  subst jd
  have HX:=AA zM
  have HNE:=AA (Pw.out x zM)
  clear zM hb4
  unfold VT
  go_wp2_with fail
  refine(ABX _ _ _ _ _ _ _ _ x.1 x.2 HNE.out _ w4).mono ?_
  rintro e w5 ⟨hb5,rfl⟩
  have D8:Hid (Below w.heap.size w w5):=AA (C9.out.trans (hb5.mono C9.out.size))
  have HUS:=AA (HWS.out.below hb5 HWS.out.lt)
  clear hb5
  unfold VT
  go_wp2_with (refine Jr HUS.out rfl _ _ rfl rfl _ rfl ?_ ?_ ?_ ?_;(try focus kernel_rfl);(try focus rfl);(try focus kernel_rfl))
  have CV:=AA (HUS.out.setRow #[.slice none 0 0,.slice none 0 0,.slice none 0 0,.int .i64 0,.int .i8 0,.slice none 0 0,.int .i8 0,.int .i64 0])
  generalize hw2:World.setRow _ _ _=w6 at*
  have hbz:Below w.heap.size w w6:=by rw [←hw2];exact D8.out.trans (ER (Nat.le_succ _) _)
  refine⟨rfl,.tuple #[VT,.int .i64 x.1,.int .i64 x.2],?_,hbz,by rw [HV.out];dsimp only;rw [HX.out]⟩
  exact Wy CV.out rfl rfl rfl
 | inr s=>
  rw [zM] at jd
  obtain⟨ds,rfl,hst⟩:=jd
  have HX:=AA zM
  have HSI:=AA (Es.out s zM)
  have HST:=AA hst
  have iL:=AA (DJ.more (Nat.zero_le _) (Nat.le_trans Bw.out C9.out.size) (Rd.below HM.out C9.out Bw.out))
  have HST0:=AA (K7.more (Nat.zero_le _) (Nat.le_refl _) hst)
  have HT4:Hid (∀w',Below w4.heap.size w4 w'→Lib.TabIs prog w' "strings.asciiSpace" .u8 Lib.asciiSpaceTab):=AA (fun w' hw'=>HT.out w' ((C9.out.mono Bw.out).trans (hw'.mono (Nat.le_trans Bw.out C9.out.size))))
  obtain⟨u0,u1,u2,u5,rfl,s0,s1,s2,_,_,s5,_,_⟩:=CU.1 hst
  obtain⟨B0,d0,rfl⟩:=AB s0
  obtain⟨B1,d1,rfl⟩:=AB s1
  obtain⟨B2,d2,rfl⟩:=AB s2
  obtain⟨B5,d5,rfl⟩:=AB s5
  clear zM hb4 hst s0 s1 s2 s5
  go_wp2_with fail
  refine(AFK _ [.slice B0 s.frames.length d0,.slice B1 s.globs.length d1,.slice B2 s.pages.length d2,.int .i64 s.Bj,.int .i8 s.end_,.slice B5 s.res.length d5,.int .i8 s.trap,.int .i64 s.used] w4.heap.size w2.heap.size m s w4 HBM.out iL.out HST0.out (Nat.le_refl _) I7.out HN.out HSI.out HT4.out).mono ?_
  rintro e w5 ⟨hb5,rfl⟩
  have D8:Hid (Below w.heap.size w w5):=AA (C9.out.trans (hb5.mono C9.out.size))
  have HUS:=AA (HWS.out.below hb5 HWS.out.lt)
  have HST5:=AA (Rd.below HST.out hb5 (Nat.le_refl _))
  have hlt3:=HYT.out.lt
  have hz5:=hb5.size
  clear hb5
  unfold ckV
  by_cases h0:(DW m s).1=0
  ·rw [if_pos h0]
   have H0:=AA h0
   clear h0
   go_wp2_with (refine Jr HUS.out rfl _ _ rfl rfl _ rfl ?_ ?_ ?_ ?_;(try focus kernel_rfl);(try focus rfl);(try focus kernel_rfl))
   have CV:=AA (HUS.out.setRow #[.slice B0 s.frames.length d0,.slice B1 s.globs.length d1,.slice B2 s.pages.length d2,.int .i64 s.Bj,.int .i8 s.end_,.slice B5 s.res.length d5,.int .i8 s.trap,.int .i64 s.used])
   generalize hw2:World.setRow _ _ _=w6 at*
   have hbz:Below w.heap.size w w6:=by rw [←hw2];exact D8.out.trans (ER (Nat.le_succ _) _)
   refine⟨rfl,.tuple #[.agg #[.slice B0 s.frames.length d0,.slice B1 s.globs.length d1,.slice B2 s.pages.length d2,.int .i64 s.Bj,.int .i8 s.end_,.slice B5 s.res.length d5,.int .i8 s.trap,.int .i64 s.used],.int .i64 0,.int .i64 0],?_,hbz,?_⟩
   ·exact Wy CV.out rfl rfl rfl
   ·rw [HV.out];dsimp only;rw [HX.out];dsimp only;rw [if_pos H0.out]
    have hk:Keep (KN (w.heap.size+1)) w5 w6:=by rw [←hw2];exact pR _ rfl
    exact⟨[.slice B0 s.frames.length d0,.slice B1 s.globs.length d1,.slice B2 s.pages.length d2,.int .i64 s.Bj,.int .i8 s.end_,.slice B5 s.res.length d5,.int .i8 s.trap,.int .i64 s.used],rfl,K7.more HB3.out.size (Nat.le_trans hz5 hk.size) (Rd.C8 HST5.out hk hz5 (fun k h1 h2=>by show k≠_;omega))⟩
  ·rw [if_neg h0]
   have H0:=AA h0
   clear h0
   unfold VT
   go_wp2_with (refine Jr HUS.out rfl _ _ rfl rfl _ rfl ?_ ?_ ?_ ?_;(try focus kernel_rfl);(try focus rfl);(try focus kernel_rfl))
   have CV:=AA (HUS.out.setRow #[.slice none 0 0,.slice none 0 0,.slice none 0 0,.int .i64 0,.int .i8 0,.slice none 0 0,.int .i8 0,.int .i64 0])
   generalize hw2:World.setRow _ _ _=w6 at*
   have hbz:Below w.heap.size w w6:=by rw [←hw2];exact D8.out.trans (ER (Nat.le_succ _) _)
   refine⟨rfl,.tuple #[VT,.int .i64 (DW m s).1,.int .i64 (DW m s).2],?_,hbz,by rw [HV.out];dsimp only;rw [HX.out];dsimp only;rw [if_neg H0.out]⟩
   exact Wy CV.out rfl rfl rfl
def GH:List UInt8:= [70,83,78,80,1,1,0,0,0,0,0,1,0,1,0,0,0,0]
theorem AFL:XW CB=false:=by
 have h: ∀n:Nat,(List.replicate n (0:UInt8)).any (fun c=>c !=0)=false:=by
  intro n
  induction n with
  | zero=>rfl
  | succ n ih=>rw [List.replicate_succ,List.any_cons,ih];rfl
 exact h 4096
theorem av:CP Bf=GH:=by
 have hz:Bu [CB] 1= []:=by rw [NH];unfold ZV;simp [AFL,Bu]
 have e0:enc 0= [0]:=FX 0 (by omega)
 have e1:enc 1= [1]:=FX 1 (by omega)
 unfold CP Bf Oz BS G5
 simp only [List.length_cons,List.length_nil,List.flatMap_nil,List.flatMap_cons]
 unfold NG BS
 rw [show(0+1:Nat)=1 from rfl,hz,show Int.toNat 0=0 from rfl,show Int.toNat 1=1 from rfl]
 simp only [List.length_nil,List.flatMap_nil,e0,e1]
 rfl
theorem Na:bR GH= .inr ([],11):=by decide+kernel
theorem Nb:DX GH 64 20 11= .inr (1,12)∧DX GH 1 20 12= .inr (0,13):=by decide+kernel
theorem szn:Bg M0≤2147483647:=by decide+kernel
theorem QZ:DW M0 Bf=(0,0):=by decide+kernel
theorem Ob:I6 GH= .inr Bf:=by
 have h7:T9 GH= .inr ([CB],13):=by
  show FL (bR GH) (Iq GH)=_
  rw [Na]
  show Iq GH 11=_
  unfold Iq
  rw [Nb.1]
  dsimp only
  rw [Nb.2]
  rfl
 have h8:jU GH= .inr ([⟨0,0,[],[]⟩],18):=by
  have f0:DX GH 64 20 13= .inr (1,14):=by decide+kernel
  have f4:fr4 GH 14= .inr ([],18):=by decide+kernel
  have f3:zX GH 14= .inr ([],17):=by decide+kernel
  have f2:fr2 GH 14= .inr (0,16):=by decide+kernel
  have f1:fr1 GH 14= .inr (0,15):=by decide+kernel
  show FL (T9 GH) (O1 GH)=_
  rw [h7]
  show O1 GH 13=_
  unfold O1
  rw [f0]
  dsimp only
  unfold Jg
  unfold OE
  rw [f4,f3,f2,f1]
  rfl
 have h5:kP GH= .inr ([],10):=by decide+kernel
 have h4:kN GH= .inr (0,9):=by decide+kernel
 have h3:jT GH= .inr (0,8):=by decide+kernel
 have h2:kM GH= .inr (0,7):=by decide+kernel
 have h1:qh GH= .inr (1,6):=by decide+kernel
 unfold I6
 rw [if_neg (by decide),if_neg (by decide),h8]
 dsimp only
 rw [if_neg (by decide)]
 unfold R8
 rw [h8,Na,h7,h4,h1,h5,h2,h3]
 rfl
theorem VX:FN M0:=by
 refine⟨?_,?_,by decide,by decide,?_,?_,?_⟩<;>intro x hx
 ·cases hx
 ·cases hx
 ·have hx:x∈ [(⟨0,ByteArray.empty,[⟨24,5,[]⟩,⟨6,0,[]⟩]⟩:Bv)]:=hx
  rw [List.mem_singleton] at hx
  subst hx
  refine⟨by decide,fun y hy=> ?_⟩
  have hy:y∈ [(⟨24,5,[]⟩:Ad),⟨6,0,[]⟩]:=hy
  rcases List.mem_cons.1 hy with rfl | hy
  ·exact⟨Po (by decide),fun n hn=>by cases hn⟩
  ·rw [List.mem_singleton] at hy
   subst hy
   exact⟨Po (by decide),fun n hn=>by cases hn⟩
 ·cases hx
 ·cases hx
theorem Yv:RA Bf:=by
 refine⟨by decide,fun x hx=> ?_,by decide,by decide,fun x hx=> ?_,by decide⟩
 ·have hx:x∈ [(⟨0,0,[],[]⟩:Jy)]:=hx
  rw [List.mem_singleton] at hx
  subst hx
  exact⟨by decide,by decide⟩
 ·have hx:x∈ [CB]:=hx
  rw [List.mem_singleton] at hx
  subst hx
  rw [show CB.length=4096 from List.length_replicate ..]
  decide
end Go.Proofs.YtlagonfamllgjaaGreatDoor
