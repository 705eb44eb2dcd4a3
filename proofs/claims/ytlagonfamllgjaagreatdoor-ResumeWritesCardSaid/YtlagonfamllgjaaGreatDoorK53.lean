/- Part 53 of the proof: ResF OpenM -/
import Derived.Test.YtlagonfamllgjaaGreatDoorK52
namespace Go.Proofs.YtlagonfamllgjaaGreatDoor
set_option linter.unusedVariables false
set_option linter.unusedSimpArgs false
set_option maxRecDepth 100000
set_option maxHeartbeats 4000000
open Go.RowKit Tryz
theorem qO {W:World} {lo hi:Nat} {ds:List Value} {s:FH} (hs:K7.R W lo hi ds s) (ok:R7 s):(CP s).length≤140737488351232:=by
 obtain⟨u0,u1,u2,u5,rfl,s0,s1,_,sr,_,s5,_,_⟩:=CU.1 hs
 obtain⟨B1,d1,rfl⟩:=AB s1
 obtain⟨B5,d5,rfl⟩:=AB s5
 unfold Rd.G8 at sr
 have h1:=AU s.used.toNat (by have:=ok.u1;omega)
 have h2:=AU s.Bj.toNat (by omega)
 have h3:=GU (Rd.Hw s5) (by have:=ok.res;omega)
 have h4:=GU (Rd.Hw s1) (by have:=ok.globs;omega)
 have h5:=pF ok.page ok.pages
 have h6:=AU s.frames.length (by have:=ok.frames;omega)
 have h7:=aX (dV s0 ok)
 have h8:=ok.res;have h9:=ok.globs;have h10:=ok.frames
 have hm:G5.length=5:=rfl
 unfold CP
 simp only [List.length_append,List.length_cons,List.length_nil]
 omega
theorem jP {W:World} {lo hi:Nat} {cs:List Value} {m:AP} (h:DJ.R W lo hi cs m):FN m:=by
 obtain⟨v1,v2,v3,v4,v5,v6,rfl,_,h1,h2,h3,h4,h5,h6,h7⟩:=Am.1 h
 obtain⟨A2,c2,rfl⟩:=AB h2
 obtain⟨A5,c5,rfl⟩:=AB h5
 obtain⟨A6,c6,rfl⟩:=AB h6
 obtain⟨A7,c7,rfl⟩:=AB h7
 obtain⟨A1,c1,rfl⟩:=AB h1
 refine⟨fun t ht=>(Rd.Hw h1 t ht).2,fun x hx=> ?_,h3.2,h4.2,fun f hf=> ?_,fun d hd=> ?_,fun x hx=> ?_⟩
 ·obtain⟨k,hk⟩:=List.getElem?_of_mem hx
  obtain⟨_,_,_,_,_,_,_,_,hb⟩:=Eh h2 hk
  exact hb
 ·obtain⟨k,hk⟩:=List.getElem?_of_mem hf
  obtain⟨_,_,_,_,_,_,_,_,_,_,hb,_,hc⟩:=Eu h5 hk
  refine⟨hb.2,fun x hx=> ?_⟩
  obtain⟨j,hj⟩:=List.getElem?_of_mem hx
  obtain⟨_,_,_,_,_,_,_,_,_,_,ha,hl⟩:=Dy hc hj
  exact⟨ha,fun n hn=>(Rd.Hw hl n hn).2⟩
 ·obtain⟨k,hk⟩:=List.getElem?_of_mem hd
  obtain⟨_,_,_,_,_,_,_,_,_,hb,_⟩:=IY h6 hk
  exact hb.2
 ·obtain⟨k,hk⟩:=List.getElem?_of_mem hx
  obtain⟨_,_,_,_,_,_,_,_,hb⟩:=Jw h7 hk
  exact hb.2
theorem Y6 {P:Program} {ops:Array Oper} {rest:List Oper} {o:Oper} {a:Act} {w:World} {Q:Exit→Act→World→Prop} {g:Nat} {t:TypeId} {xs:List Value} (hb:AQ w g t xs) {d:TypeDesc} (hu:P.underlying t=some d) (hd:(match d with | .struct _ | .array _ _=>true | _=>false)=true) (hi:(P.info? t).map (·.size)=some xs.length)
 (hg:Region.wanted o (yielded ops a.tmps)=true) (x:Operand) (ho:o.op= .load t x) (hx:a.eval x= .pointer (some ⟨g,0,none⟩)) (h:wpList P ops Q rest (a.put o.dst (.agg xs.toArray)) w):wpList P ops Q (o::rest) a w:=
 BigFrame.wpList_want hg fun _ hK=>wp_load_row t x ho g hx t xs.toArray (0,0) d hb hu hd (by simpa using hi) (hK _ _ h)
section
variable {ops:Array Oper} {rest:List Oper} {o:Oper} {a:Act} {w:World} {Q:Exit→Act→World→Prop} {g:Nat}
theorem AFb {a0 a1 a2 a3 a4 a5 a6 a7:Value} (hb:AQ w g 29 [a0,a1,a2,a3,a4,a5,a6,a7]) (hg:Region.wanted o (yielded ops a.tmps)=true) (x:Operand) (ho:o.op= .load 29 x) (hx:a.eval x= .pointer (some ⟨g,0,none⟩))
 (h:wpList prog ops Q rest (a.put o.dst (.agg #[a0,a1,a2,a3,a4,a5,a6,a7])) w):wpList prog ops Q (o::rest) a w:=
 Y6 hb underlying29 rfl (by kernel_rfl) hg x ho hx h
theorem AFc {a0 a1 a2 a3 a4 a5 a6 a7:Value} (hb:AQ w g 35 [a0,a1,a2,a3,a4,a5,a6,a7]) (hg:Region.wanted o (yielded ops a.tmps)=true) (x:Operand) (ho:o.op= .load 35 x) (hx:a.eval x= .pointer (some ⟨g,0,none⟩))
 (h:wpList prog ops Q rest (a.put o.dst (.agg #[a0,a1,a2,a3,a4,a5,a6,a7])) w):wpList prog ops Q (o::rest) a w:=
 Y6 hb underlying35 rfl (by kernel_rfl) hg x ho hx h
end
theorem bG (cs ds:List Value) (hi:Nat) (m:AP) (s:FH) (w:World) (hm:DJ.R w 0 hi cs m) (hs:K7.R w 0 hi ds s) (hhi:hi≤w.heap.size) (hin:bV m) (his:RA s)
 (htab: ∀w',Below w.heap.size w w'→Lib.TabIs prog w' "strings.asciiSpace" .u8 Lib.asciiSpaceTab):
 Calls prog 3 #[.agg cs.toArray,.agg ds.toArray] w fun e w'=>Below w.heap.size w w'∧e= .returned (.bool true):=by
 have HM:=AA hm;have HST:=AA hs;have Bw:=AA hhi;have HIM:=AA hin;have HIS:=AA his;have HT:=AA htab;have zB:=AA (jP hm)
 obtain⟨v1,v2,v3,v4,v5,v6,rfl,_⟩:=Am.1 hm
 obtain⟨u0,u1,u2,u5,rfl,_⟩:=CU.1 hs
 clear hm hs hhi hin his htab
 go_enter func3,ntmps3
 go_upto_region 1 with fail
 generalize hw0:w.alloc (.cells #[v1,v2,v3,.int .i64 m.first,.int .i64 m.most,v4,v5,v6] 29)=w0
 obtain⟨hb0,hx0⟩:=ES hw0
 have hz0:w0.heap.size=w.heap.size+1:=by rw [←hw0];simp
 clear hw0
 generalize hw1:w0.alloc _=w1
 obtain⟨hb1,hx1⟩:=ES hw1
 rw [hz0] at hx1
 try rw [hz0]
 have G9:=AA (hx0.below hb1 hx0.lt)
 have Ef:=AA hx1
 have HB1:Hid (Below w.heap.size w w1):=AA (hb0.trans (hb1.mono hb0.size))
 clear hw1 hb0 hb1 hx0 hx1 hz0
 have HWK:Hid (∀W,Below w.heap.size w W→Calls prog 6 #[] W fun e w'=>Below w.heap.size w w'∧e= .returned (.bool true)):=AA (fun W hW=>(jM W (fun w' hw'=>HT.out w' (hW.trans (hw'.mono hW.size)))).mono (fun e w' h=>⟨hW.trans (h.1.mono hW.size),h.2⟩))
 go_wp2_with (first | refine rG G9.out rfl _ rfl rfl ?_ | refine jo Ef.out rfl _ rfl rfl ?_)
 refine(lH _ _ hi hi 0 m s w1 (Rd.below HM.out HB1.out Bw.out) (Rd.below HST.out HB1.out Bw.out) (Nat.le_trans Bw.out HB1.out.size) (Nat.le_trans Bw.out HB1.out.size) HIM.out HIS.out).mono ?_
 rintro e w2 ⟨hb2,b,rfl,hfit⟩
 have HB2:Hid (Below w.heap.size w w2):=AA (HB1.out.trans (hb2.mono HB1.out.size))
 have G9:=AA (G9.out.below hb2 G9.out.lt);have Ef:=AA (Ef.out.below hb2 Ef.out.lt)
 clear hb2
 cases b with
 | true=>
  clear hfit
  go_wp2_with fail
  refine(HWK.out w2 HB2.out).mono ?_
  rintro e w3 ⟨hb3,rfl⟩
  have HB3:=AA hb3
  clear hb3
  go_wp2_with fail
  go_ret
  exact⟨HB3.out,rfl⟩
 | false=>
 obtain⟨f1,f2,_,_⟩:=hfit.1 rfl
 have iV:=AA f1;have Im:=AA f2
 clear hfit f1 f2
 go_wp2_with (refine rG G9.out rfl _ rfl rfl ?_)
 refine(fu _ hi m w2 (Rd.below HM.out HB2.out Bw.out) (Nat.le_trans Bw.out HB2.out.size) (Xv iV.out)).mono ?_
 rintro e w3 ⟨cs',rfl,hr3,hb3⟩
 have HB3:Hid (Below w.heap.size w w3):=AA (HB2.out.trans (hb3.mono HB2.out.size))
 have G9:=AA (G9.out.below hb3 G9.out.lt);have Ef:=AA (Ef.out.below hb3 Ef.out.lt)
 have HC3:=AA hr3
 obtain⟨x1,x2,x3,x4,x5,x6,rfl,y1,y2,y3,_,_,y4,y5,y6⟩:=Am.1 hr3
 obtain⟨E1,g1,rfl⟩:=AB y1
 obtain⟨E2,g2,rfl⟩:=AB y2
 obtain⟨E3,g3,rfl⟩:=AB y3
 obtain⟨E4,g4,rfl⟩:=AB y4
 obtain⟨E5,g5,rfl⟩:=AB y5
 obtain⟨E6,g6,rfl⟩:=AB y6
 clear hr3 hb3 y1 y2 y3 y4 y5 y6
 go_upto_region 4 with(refine Fh rfl _ _ _ rfl _ _ rfl rfl ?_ ?_ ?_ ?_;(try focus kernel_rfl);(try focus rfl);(try focus kernel_rfl))
 generalize hw4:w3.alloc _=w4
 obtain⟨hb4,hx4⟩:=ES hw4
 obtain⟨nb,hnb⟩: ∃nb,nb=w3.heap.size:=⟨_,rfl⟩
 rw [←hnb] at hx4⊢
 have eH:=AA hx4
 have C9:Hid (Below w.heap.size w w4):=AA (HB3.out.trans (hb4.mono HB3.out.size))
 have G9:=AA (G9.out.below hb4 G9.out.lt);have Ef:=AA (Ef.out.below hb4 Ef.out.lt)
 have HC4:=AA (DJ.more (Nat.zero_le _) (Nat.le_refl _) (Rd.below HC3.out hb4 (Nat.le_refl _)))
 have ABq:=hb4.size
 clear hw4 hb4 hx4 hnb HC3
 go_wp2_with (refine jo Ef.out rfl _ rfl rfl ?_)
 refine(lW _ hi s w4 (Rd.below HST.out C9.out Bw.out) (Nat.le_trans Bw.out C9.out.size) (bX Im.out)).mono ?_
 rintro e w5 ⟨ds',rfl,hr5,hb5⟩
 have D8:Hid (Below w.heap.size w w5):=AA (C9.out.trans (hb5.mono C9.out.size))
 have G9:=AA (G9.out.below hb5 G9.out.lt);have Ef:=AA (Ef.out.below hb5 Ef.out.lt);have eH:=AA (eH.out.below hb5 eH.out.lt)
 have HC5:=AA (DJ.more (Nat.le_refl _) (Nat.le_trans ABq hb5.size) (Rd.below HC4.out hb5 ABq))
 have HD5:=AA hr5
 obtain⟨p0,p1,p2,p5,rfl,s0,s1,s2,_,_,s5,_,_⟩:=CU.1 hr5
 obtain⟨B0,d0,rfl⟩:=AB s0
 obtain⟨B1,d1,rfl⟩:=AB s1
 obtain⟨B2,d2,rfl⟩:=AB s2
 obtain⟨B5,d5,rfl⟩:=AB s5
 clear hr5 hb5 s0 s1 s2 s5 ABq HC4
 go_upto_region 5 with(refine Fh rfl _ _ _ rfl _ _ rfl rfl ?_ ?_ ?_ ?_;(try focus kernel_rfl);(try focus rfl);(try focus kernel_rfl))
 generalize YJ:w5.alloc _=w6
 obtain⟨hb6,hx6⟩:=ES YJ
 obtain⟨qb,hqb⟩: ∃qb,qb=w5.heap.size:=⟨_,rfl⟩
 rw [←hqb] at hx6⊢
 have qP:=AA hx6
 have FQ:Hid (Below w.heap.size w w6):=AA (D8.out.trans (hb6.mono D8.out.size))
 have G9:=AA (G9.out.below hb6 G9.out.lt);have Ef:=AA (Ef.out.below hb6 Ef.out.lt);have eH:=AA (eH.out.below hb6 eH.out.lt)
 have HC6:=AA (DJ.more (Nat.le_refl _) hb6.size (Rd.below HC5.out hb6 (Nat.le_refl _)))
 have HD6:=AA (K7.more (Nat.zero_le _) hb6.size (Rd.below HD5.out hb6 (Nat.le_refl _)))
 clear YJ hb6 hx6 hqb HC5 HD5
 go_wp2_with (first | refine rG eH.out rfl _ rfl rfl ?_ | refine jo qP.out rfl _ rfl rfl ?_)
 refine(Yp _ _ w6.heap.size m s w6 HC6.out HD6.out (Nat.le_refl _) iV.out zB.out HIS.out (fun w' hw'=>HT.out w' (FQ.out.trans (hw'.mono FQ.out.size)))).mono ?_
 rintro e w7 ⟨Mf,Yh⟩
 have UA:Hid (Below w.heap.size w w7):=AA (FQ.out.trans (Mf.mono FQ.out.size))
 have G9:=AA (G9.out.below Mf G9.out.lt);have Ef:=AA (Ef.out.below Mf Ef.out.lt);have eH:=AA (eH.out.below Mf eH.out.lt);have qP:=AA (qP.out.below Mf qP.out.lt)
 have HC7:=AA (DJ.more (Nat.le_refl _) Mf.size (Rd.below HC6.out Mf (Nat.le_refl _)))
 have HD7:=AA (K7.more (Nat.zero_le _) Mf.size (Rd.below HD6.out Mf (Nat.le_refl _)))
 clear Mf HC6 HD6
 have hO: ∃A n c,e= .returned (.tuple #[.slice A n c,.int .i64 (DW m s).1])∧((DW m s).1=0→n=(CP s).length∧R7 s∧Ey w7 w6.heap.size 5 (.slice A (CP s).length c) (CP s).length ((CP s).map bv))∧((DW m s).1≠0→n=0):=by
  by_cases h0:(DW m s).1=0
  ·rw [if_pos h0] at Yh
   obtain⟨A,c,rfl,ho⟩:=Yh
   exact⟨A,_,c,by rw [h0],fun _=>⟨rfl,pK h0,ho⟩,fun h=>absurd h0 h⟩
  ·rw [if_neg h0] at Yh
   exact⟨none,0,0,Yh,fun h=>absurd h h0,fun _=>rfl⟩
 clear Yh
 obtain⟨A,n,c,rfl,hO1,hO2⟩:=hO
 have Ui:=AA hO1;have HO2:=AA hO2
 clear hO1 hO2
 go_wp2_with (first | refine rG G9.out rfl _ rfl rfl ?_ | refine jo Ef.out rfl _ rfl rfl ?_)
 refine(iZ _ _ hi m s w7 (Rd.below HM.out UA.out Bw.out) (Rd.below HST.out UA.out Bw.out) (Nat.le_trans Bw.out UA.out.size) iV.out zB.out HIS.out).mono ?_
 rintro e w8 ⟨Nk,rfl⟩
 have Xz:Hid (Below w.heap.size w w8):=AA (UA.out.trans (Nk.mono UA.out.size))
 have G9:=AA (G9.out.below Nk G9.out.lt);have Ef:=AA (Ef.out.below Nk Ef.out.lt);have eH:=AA (eH.out.below Nk eH.out.lt);have qP:=AA (qP.out.below Nk qP.out.lt)
 have HC8:=AA (DJ.more (Nat.le_refl _) Nk.size (Rd.below HC7.out Nk (Nat.le_refl _)))
 have HD8:=AA (K7.more (Nat.zero_le _) Nk.size (Rd.below HD7.out Nk (Nat.le_refl _)))
 have yK:Hid ((DW m s).1=0→n=(CP s).length∧R7 s∧(Row w8 w8.heap.size A ((CP s).map bv))):=AA (fun h=>⟨(Ui.out h).1,(Ui.out h).2.1,Row.more (Row.below' ((Ui.out h).2.2.rows rfl).1 Nk (Nat.le_refl _)) Nk.size⟩)
 clear Nk HC7 HD7 Ui
 generalize (DW m s).2=fa at*
 generalize (DW m s).1=er at*
 have hee:(er !=er)=false:=by simp
 have HEM:Hid (Calls prog 11 _ w8 _):=AA (jJ _ _ w8.heap.size hi m m w8 HC8.out (Rd.below HM.out Xz.out Bw.out) (Nat.le_refl _) (Nat.le_trans Bw.out Xz.out.size) (Xv iV.out))
 go_wp2_with (first | refine AFb G9.out rfl _ rfl rfl ?_ | refine AFb eH.out rfl _ rfl rfl ?_)
 refine HEM.out.mono ?_
 rintro e w9 ⟨jv,b,rfl,hbt⟩
 obtain rfl:b=true:=hbt.2 rfl
 have om:Hid (Below w.heap.size w w9):=AA (Xz.out.trans (jv.mono Xz.out.size))
 have Ef:=AA (Ef.out.below jv Ef.out.lt);have qP:=AA (qP.out.below jv qP.out.lt)
 have HD9:=AA (K7.more (Nat.zero_le _) jv.size (Rd.below HD8.out jv (Nat.le_refl _)))
 have HR9:Hid (er=0→n=(CP s).length∧R7 s∧(Row w9 w9.heap.size A ((CP s).map bv))):=AA (fun h=>⟨(yK.out h).1,(yK.out h).2.1,Row.more (Row.below' (yK.out h).2.2 jv (Nat.le_refl _)) jv.size⟩)
 have HES:Hid (Calls prog 12 _ w9 _):=AA (Y3 _ _ w9.heap.size hi s s w9 HD9.out (Rd.below HST.out om.out Bw.out) (Nat.le_refl _) (Nat.le_trans Bw.out om.out.size) (bX Im.out))
 clear jv hbt HD8 yK HEM
 go_wp2_with (first | refine AFc Ef.out rfl _ rfl rfl ?_ | refine AFc qP.out rfl _ rfl rfl ?_)
 refine HES.out.mono ?_
 rintro e Zr ⟨qQ,b,rfl,hbt⟩
 obtain rfl:b=true:=hbt.2 rfl
 have qR:Hid (Below w.heap.size w Zr):=AA (om.out.trans (qQ.mono om.out.size))
 have Ef:=AA (Ef.out.below qQ Ef.out.lt)
 have ABr:Hid (er=0→n=(CP s).length∧R7 s∧(Row Zr Zr.heap.size A ((CP s).map bv))):=AA (fun h=>⟨(HR9.out h).1,(HR9.out h).2.1,Row.more (Row.below' (HR9.out h).2.2 qQ (Nat.le_refl _)) qQ.size⟩)
 clear qQ hbt HES HR9
 by_cases h0:er=0
 ·subst h0
  obtain⟨rfl,hok,hrow⟩:=ABr.out rfl
  have EX:=AA hok;have wN:=AA hrow
  clear hok hrow ABr HO2
  go_wp2_with (refine jo Ef.out rfl _ rfl rfl ?_)
  refine(jN _ hi s Zr (Rd.below HST.out qR.out Bw.out) (Nat.le_trans Bw.out qR.out.size) EX.out).mono ?_
  rintro e zK ⟨ABs,A2,c2,rfl,ho⟩
  have HB11:Hid (Below w.heap.size w zK):=AA (qR.out.trans (ABs.mono qR.out.size))
  have qx:=AA (Row.below' wN.out ABs (Nat.le_refl _));have HRB:=AA (ho.rows rfl).1
  have hn47:=qO HST.out EX.out
  clear ABs ho
  go_wp2_with fail
  refine(Xb A A2 _ _ c c2 _ _ zK (CP s) (CP s) rfl rfl hn47 qx.out HRB.out).mono ?_
  rintro e w12 ⟨⟨k,rfl⟩,rfl⟩
  rw [decide_eq_true rfl]
  go_wp2_with fail
  refine(HWK.out (zK.drewN k) (below_drewN HB11.out k)).mono ?_
  rintro e w13 ⟨Ml,rfl⟩
  have ABt:=AA Ml
  clear Ml
  go_wp2_with fail
  go_ret
  exact⟨ABt.out,rfl⟩
 ·have hne:(er !=0)=true:=bne_iff_ne.2 h0
  obtain rfl:=HO2.out h0
  clear h0 ABr
  go_wp2_with fail
  refine(HWK.out Zr qR.out).mono ?_
  rintro e w13 ⟨Ml,rfl⟩
  have ABt:=AA Ml
  clear Ml
  go_wp2_with fail
  go_ret
  exact⟨ABt.out,rfl⟩
theorem EC {α:Type} {P:Program} {t:TypeId} {r:Rd α} {ok ok':α→Prop} (h:Opens P t r ok) (hm: ∀x,ok x→ok' x):Opens P t r ok':=
 ⟨h.1,fun hx hw=>by obtain⟨y,hy,hk⟩:=h.2 hx hw;exact⟨y,hy,hm y hk⟩⟩
theorem XC:Opens prog 9 Rd.str Rd.Pq:=eY underlying9 (by kernel_rfl)
theorem Ll:Opens prog 3 Rd.i64 Rd.G8:=Un underlying3 (by kernel_rfl)
theorem Y7:Opens prog 2 Rd.i64 Rd.G8:=Un underlying2 (by kernel_rfl)
theorem eO:Opens prog 33 Rd.i8 Rd.B8:=j_ underlying33 (by kernel_rfl)
theorem qU:Opens prog 5 Rd.u8 (fun _=>True):=kC underlying5 (by kernel_rfl)
theorem qV:Opens prog 87 Rd.u64 Rd.XK:=eX underlying87 (by kernel_rfl)
theorem xP:Opens prog 4 Rd.bool (fun _=>True):=ZK underlying4 (by kernel_rfl)
def Bd {α:Type} (ok:α→Prop) (l:List α):Prop:=l.length≤140737488351232∧ ∀x∈l,ok x
theorem M8 {α:Type} {P:Program} {t e:TypeId} {r:Rd α} {ok:α→Prop} (ht:P.underlying t=some (.slice e)) (hc:P.cellsOf t=1) (he:Opens P e r ok) {XL:Nat} (hby:P.bytesOf e=XL) (h1:0<XL) (hz:0<P.cellsOf e):Opens P t (r.sl false) (Bd ok):=
 EC (kD ht hc he hby hz) fun x hx=>⟨Nat.le_trans (by have:=Nat.mul_le_mul_left x.length h1;omega) hx.1,hx.2⟩
theorem eP:Opens prog 23 (Rd.i64.sl false) (Bd Rd.G8):=M8 underlying23 (by kernel_rfl) Ll (XL:=8) (by kernel_rfl) (by decide) (of_decide_eq_true (by kernel_rfl))
theorem Pp:Opens prog 31 (Rd.u64.sl false) (Bd Rd.XK):=M8 underlying31 (by kernel_rfl) qV (XL:=8) (by kernel_rfl) (by decide) (of_decide_eq_true (by kernel_rfl))
theorem Y8:Opens prog 40 (Rd.u8.sl false) (Bd fun _=>True):=M8 underlying40 (by kernel_rfl) qU (XL:=1) (by kernel_rfl) (by decide) (of_decide_eq_true (by kernel_rfl))
theorem qW:Opens prog 32 ((Rd.u8.sl false).sl false) (Bd (Bd fun _=>True)):=M8 underlying32 (by kernel_rfl) Y8 (XL:=24) (by kernel_rfl) (by decide) (of_decide_eq_true (by kernel_rfl))
theorem ABu:Opens prog 93 Py (fun _=>True):=
 EC (FU (Dh underlying93 (by kernel_rfl) (Ag (by rfl) XC (Ag (by rfl) XC EZ))) (fun x:Cg=>(x.p,x.r,())) (fun a=>⟨a.1,a.2.1⟩) (fun _=>rfl)) fun _ _=>trivial
theorem xQ:Opens prog 139 Lm (fun _=>True):=
 EC (FU (Dh underlying139 (by kernel_rfl) (Ag (by rfl) qU (Ag (by rfl) xP (Ag (by rfl) qV EZ)))) (fun x:ED=>(x.l,x.m,x.v,())) (fun a=>⟨a.1,a.2.1,a.2.2.1⟩) (fun _=>rfl)) fun _ _=>trivial
theorem ABv:Opens prog 122 Ei Ut:=
 EC (FU (Dh underlying122 (by kernel_rfl) (Ag (by rfl) qU (Ag (by rfl) Y7 (Ag (by rfl) eP EZ)))) (fun x:Ad=>(x.op,x.a,x.l,())) (fun a=>⟨a.1,a.2.1,a.2.2.1⟩) (fun _=>rfl)) fun x h=>h.2.2.1.1
theorem xR:Opens prog 94 (Ei.sl false) (Bd Ut):=M8 underlying94 (by kernel_rfl) ABv (XL:=40) (by kernel_rfl) (by decide) (of_decide_eq_true (by kernel_rfl))
theorem AFd:Opens prog 96 Qe zi:=
 EC (FU (Dh underlying96 (by kernel_rfl) (Ag (by rfl) Ll (Ag (by rfl) XC (Ag (by rfl) xR EZ)))) (fun x:Bv=>(x.t,x.loc,x.code,())) (fun a=>⟨a.1,a.2.1,a.2.2.1⟩) (fun _=>rfl)) fun x h=>⟨h.2.1,h.2.2.1.1,h.2.2.1.2⟩
theorem ABw:Opens prog 99 Ib (fun x=>x.b.length≤140737488351232):=
 EC (FU (Dh underlying99 (by kernel_rfl) (Ag (by rfl) Ll (Ag (by rfl) Y8 EZ))) (fun x:Gh=>(x.at_,x.b,())) (fun a=>⟨a.1,a.2.1⟩) (fun _=>rfl)) fun x h=>h.2.1.1
theorem ABx:Opens prog 101 Q8 (fun _=>True):=
 EC (FU (Dh underlying101 (by kernel_rfl) (Ag (by rfl) XC (Ag (by rfl) Ll EZ))) (fun x:KU=>(x.n,x.f,())) (fun a=>⟨a.1,a.2.1⟩) (fun _=>rfl)) fun _ _=>trivial
theorem qX:Opens prog 91 Od sS:=
 EC (FU (Dh underlying91 (by kernel_rfl) (Ag (by rfl) Ll (Ag (by rfl) Ll (Ag (by rfl) Pp (Ag (by rfl) Pp EZ))))) (fun x:Jy=>(x.f,x.pc,x.loc,x.st,())) (fun a=>⟨a.1,a.2.1,a.2.2.1,a.2.2.2.1⟩) (fun _=>rfl)) fun x h=>⟨h.2.2.1.1,h.2.2.2.1.1⟩
theorem xS:Opens prog 22 (Py.sl false) (Bd fun _=>True):=M8 underlying22 (by kernel_rfl) ABu (XL:=32) (by kernel_rfl) (by decide) (of_decide_eq_true (by kernel_rfl))
theorem qY:Opens prog 24 (Lm.sl false) (Bd fun _=>True):=M8 underlying24 (by kernel_rfl) xQ (XL:=16) (by kernel_rfl) (by decide) (of_decide_eq_true (by kernel_rfl))
theorem ABy:Opens prog 25 (Qe.sl false) (Bd zi):=M8 underlying25 (by kernel_rfl) AFd (XL:=48) (by kernel_rfl) (by decide) (of_decide_eq_true (by kernel_rfl))
theorem xU:Opens prog 26 (Ib.sl false) (Bd fun x=>x.b.length≤140737488351232):=M8 underlying26 (by kernel_rfl) ABw (XL:=32) (by kernel_rfl) (by decide) (of_decide_eq_true (by kernel_rfl))
theorem xV:Opens prog 27 (Q8.sl false) (Bd fun _=>True):=M8 underlying27 (by kernel_rfl) ABx (XL:=24) (by kernel_rfl) (by decide) (of_decide_eq_true (by kernel_rfl))
theorem jQ:Opens prog 30 (Od.sl false) (Bd sS):=M8 underlying30 (by kernel_rfl) qX (XL:=64) (by kernel_rfl) (by decide) (of_decide_eq_true (by kernel_rfl))
theorem XD:Opens prog 29 DJ bV:=
 EC (FU (Dh underlying29 (by kernel_rfl) (Ag (by rfl) xS (Ag (by rfl) eP (Ag (by rfl) qY (Ag (by rfl) Ll (Ag (by rfl) Ll (Ag (by rfl) ABy (Ag (by rfl) xU (Ag (by rfl) xV EZ))))))))) (fun x:AP=>(x.types,x.hosts,x.globs,x.first,x.most,x.fns,x.dat,x.Au,())) (fun a=>⟨a.1,a.2.1,a.2.2.1,a.2.2.2.1,a.2.2.2.2.1,a.2.2.2.2.2.1,a.2.2.2.2.2.2.1,a.2.2.2.2.2.2.2.1⟩) (fun _=>rfl)) fun x ⟨h1,h2,h3,_,_,h6,h7,h8,_⟩=>⟨h1.1,h2.1,h3.1,h6.1,h6.2,h7.1,h7.2,h8.1⟩
theorem Y9:Opens prog 35 K7 RA:=
 EC (FU (Dh underlying35 (by kernel_rfl) (Ag (by rfl) jQ (Ag (by rfl) Pp (Ag (by rfl) qW (Ag (by rfl) Ll (Ag (by rfl) eO (Ag (by rfl) Pp (Ag (by rfl) eO (Ag (by rfl) Y7 EZ))))))))) (fun x:FH=>(x.frames,x.globs,x.pages,x.Bj,x.end_,x.res,x.trap,x.used,())) (fun a=>⟨a.1,a.2.1,a.2.2.1,a.2.2.2.1,a.2.2.2.2.1,a.2.2.2.2.2.1,a.2.2.2.2.2.2.1,a.2.2.2.2.2.2.2.1⟩) (fun _=>rfl)) fun x ⟨h1,h2,h3,_,_,h6,_,_,_⟩=>⟨h1.1,h1.2,h2.1,h3.1,fun i hi=>(h3.2 i hi).1,h6.1⟩
end Go.Proofs.YtlagonfamllgjaaGreatDoor
