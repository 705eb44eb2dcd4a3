/- Part 51 of the proof: ResE SrA SrB -/
import Derived.Test.YtlagonfamllgjaaGreatDoorK49
import Derived.Test.YtlagonfamllgjaaGreatDoorK50
namespace Go.Proofs.YtlagonfamllgjaaGreatDoor
set_option linter.unusedVariables false
set_option linter.unusedSimpArgs false
set_option maxRecDepth 100000
set_option maxHeartbeats 4000000
open Go.RowKit Tryz
theorem Ey.rows {w:World} {base:Nat} {A:Option Addr} {n c:Nat} {l:List UInt8} (h:Ey w base 5 (.slice A n c) n (l.map bv)) (hn:n=l.length):Row w w.heap.size A (l.map bv)∧n≤c:=by
 rcases h with h | ⟨g,fz,he,hb,hg,hl⟩
 ·exact⟨Row.own h,(bK h).2⟩
 ·injection he with h1 h2 h3
  subst h1
  refine⟨fun _=>⟨g,0,rfl,(Array.getElem?_eq_some_iff.1 hg).1,fun j u hu=> ?_⟩,by omega⟩
  simp only [World.cell?,hg]
  simpa using hu
theorem ABm:fV Bf:=by
 refine⟨⟨by decide,fun x hx=> ?_⟩,by decide,⟨by decide,fun x hx=> ?_⟩,by decide⟩
 ·have hx:x∈ [(⟨0,0,[],[]⟩:Jy)]:=hx
  rw [List.mem_singleton] at hx
  subst hx
  exact⟨by decide,by decide⟩
 ·have hx:x∈ [CB]:=hx
  rw [List.mem_singleton] at hx
  subst hx
  show CB.length≤2147483647
  rw [show CB.length=4096 from List.length_replicate ..]
  decide
theorem jL: ∃t,F7 M0= .inr t:=by
 have h:=QZ
 cases hv:F7 M0 with
 | inr t=>exact⟨t,rfl⟩
 | inl q=>
  unfold DW at h
  rw [hv] at h
  exact absurd (congrArg Prod.fst h) (MR hv)
theorem jM (w:World) (htab: ∀w',Below w.heap.size w w'→Lib.TabIs prog w' "strings.asciiSpace" .u8 Lib.asciiSpaceTab):
 Calls prog 6 #[] w fun e w'=>Below w.heap.size w w'∧e= .returned (.bool true):=by
 have HT:=AA htab
 clear htab
 go_enter func6,ntmps6
 go_wp2_with fail
 refine(VU w).mono ?_
 rintro e w1 ⟨hb1,cs1,rfl,hm1⟩
 have HB1:=AA hb1;have Px:=AA hm1
 clear hb1 hm1
 go_wp2_with fail
 refine(VW w1).mono ?_
 rintro e w2 ⟨hb2,cs2,rfl,hs2⟩
 have HB2:Hid (Below w.heap.size w w2):=AA (HB1.out.trans (hb2.mono HB1.out.size))
 have ZH:=AA (DJ.more (Nat.zero_le _) hb2.size (Rd.below Px.out hb2 (Nat.le_refl _)))
 have HS2:=AA (K7.more (Nat.zero_le _) (Nat.le_refl _) hs2)
 clear hb2 hs2
 go_wp2_with fail
 refine(Yp cs1 cs2 w2.heap.size M0 Bf w2 ZH.out HS2.out (Nat.le_refl _) szn VX Yv (fun w' hw'=>HT.out w' (HB2.out.trans (hw'.mono HB2.out.size)))).mono ?_
 rintro e w3 ⟨hb3,hp3⟩
 rw [if_pos (by rw [QZ]),av] at hp3
 obtain⟨A,c,rfl,ho⟩:=hp3
 have HB3:Hid (Below w.heap.size w w3):=AA (HB2.out.trans (hb3.mono HB2.out.size))
 obtain⟨hrow,hcap⟩:=ho.rows rfl
 have HR:=AA hrow
 clear hb3 ho hrow
 go_wp2_with fail
 refine(VU w3).mono ?_
 rintro e w4 ⟨hb4,cs4,rfl,UK⟩
 have C9:Hid (Below w.heap.size w w4):=AA (HB3.out.trans (hb4.mono HB3.out.size))
 have iL:=AA (DJ.more (Nat.zero_le _) (Nat.le_refl _) UK)
 have HR4:=AA (HR.out.below' hb4 (Nat.le_refl _))
 have hz4:=hb4.size
 clear hb4 UK
 go_wp2_with fail
 refine(wX cs4 w4.heap.size M0 A c w3.heap.size GH w4 iL.out (Nat.le_refl _) szn VX HR4.out hz4 hcap (by decide) (fun w' hw'=>HT.out w' (C9.out.trans (hw'.mono C9.out.size))) (fun x hx=>by rw [Ob] at hx;cases hx) (fun s hs=>by rw [Ob] at hs;injection hs with hs;subst hs;exact Yv)
  (fun g W hrd hrw hBg=>by
   have e6:posR (bR GH)= .inr 11:=by rw [Na];rfl
   have e7:T9 GH=Iq GH 11:=by show FL (bR GH) (Iq GH)=_;rw [Na];rfl
   rw [e6] at hrd
   rw [e7]
   exact jA g w3.heap.size A c GH 11 1 12 13 Nb.1 Nb.2 W hrd hrw hBg (by decide))).mono ?_
 rintro e w5 ⟨hb5,uy⟩
 obtain⟨t,ht⟩:=jL
 rw [ht] at uy
 dsimp only at uy
 rw [Ob] at uy
 dsimp only at uy
 rw [if_pos (by rw [QZ])] at uy
 obtain⟨ds,rfl,hst⟩:=uy
 have D8:Hid (Below w.heap.size w w5):=AA (C9.out.trans (hb5.mono C9.out.size))
 have HST:=AA hst
 obtain⟨u0,u1,u2,u5,rfl,s0,s1,s2,_,_,s5,_,_⟩:=CU.1 hst
 obtain⟨B0,d0,rfl⟩:=AB s0
 obtain⟨B1,d1,rfl⟩:=AB s1
 obtain⟨B2,d2,rfl⟩:=AB s2
 obtain⟨B5,d5,rfl⟩:=AB s5
 clear hb5 hst s0 s1 s2 s5 ht
 have hlen:(0:Int)<GH.length:=by decide
 go_upto_region 3 with(refine Fh rfl _ _ _ rfl _ _ rfl rfl ?_ ?_ ?_ ?_;(try focus kernel_rfl);(try focus rfl);(try focus kernel_rfl))
 generalize YJ:w5.alloc _=w6
 obtain⟨hb6,hx6⟩:=ES YJ
 obtain⟨sb,hsb⟩: ∃sb,sb=w5.heap.size:=⟨_,rfl⟩
 rw [←hsb] at hx6⊢
 have HX6:=AA hx6
 have FQ:Hid (Below w.heap.size w w6):=AA (D8.out.trans (hb6.mono D8.out.size))
 have AFW:=AA (K7.more (Nat.zero_le _) (Nat.le_refl _) (Rd.below HST.out hb6 (Nat.le_refl _)))
 have yg:=hb6.size
 have HS:Hid (∀W,Below w6.heap.size w6 W→(W.cell? ⟨sb,0,none⟩=some (.slice B0 Bf.frames.length d0)∧W.cell? ⟨sb,1,none⟩=some (.slice B1 Bf.globs.length d1)∧W.cell? ⟨sb,2,none⟩=some (.slice B2 Bf.pages.length d2)∧W.cell? ⟨sb,3,none⟩=some (.int .i64 Bf.Bj)∧W.cell? ⟨sb,4,none⟩=some (.int .i8 Bf.end_)∧W.cell? ⟨sb,5,none⟩=some (.slice B5 Bf.res.length d5)∧W.cell? ⟨sb,6,none⟩=some (.int .i8 Bf.trap)∧W.cell? ⟨sb,7,none⟩=some (.int .i64 Bf.used))):=AA (fun W hW=>wU (HX6.out.below hW HX6.out.lt))
 have jh:Hid (∀(cs':List Value) (W:World),Below w6.heap.size w6 W→K7.R W 0 W.heap.size cs' Bf→Calls prog 12 #[.agg #[.slice B0 Bf.frames.length d0,.slice B1 Bf.globs.length d1,.slice B2 Bf.pages.length d2,.int .i64 Bf.Bj,.int .i8 Bf.end_,.slice B5 Bf.res.length d5,.int .i8 Bf.trap,.int .i64 Bf.used],.agg cs'.toArray] W fun e w'=>Below W.heap.size W w'∧e= .returned (.bool true)):=AA (fun cs' W hW hc=>by
  refine(Y3 [.slice B0 Bf.frames.length d0,.slice B1 Bf.globs.length d1,.slice B2 Bf.pages.length d2,.int .i64 Bf.Bj,.int .i8 Bf.end_,.slice B5 Bf.res.length d5,.int .i8 Bf.trap,.int .i64 Bf.used] cs' w5.heap.size W.heap.size Bf Bf W (Rd.below AFW.out hW yg) hc (Nat.le_trans yg hW.size) (Nat.le_refl _) ABm).mono ?_
  rintro e w' ⟨h1,b,rfl,h2⟩
  refine⟨h1,?_⟩
  rw [h2.2 rfl])
 clear YJ hb6 hx6 hsb HST HX6
 have hlen0:((GH.length:Nat):Int)=18:=rfl
 generalize Bf.frames.length=m0 at*
 generalize Bf.globs.length=m1 at*
 generalize Bf.pages.length=m2 at*
 generalize Bf.res.length=m5 at*
 generalize Bf.Bj=i3 at*
 generalize Bf.end_=i4 at*
 generalize Bf.trap=i6 at*
 generalize Bf.used=i7 at*
 clear HB1 HB2 HB3 C9 D8 Px ZH HS2 HR iL HR4 hz4 hcap HT AFW
 go_region_held3 (fun W=>W.cell? ⟨sb,0,none⟩=some (.slice B0 m0 d0)∧W.cell? ⟨sb,1,none⟩=some (.slice B1 m1 d1)∧W.cell? ⟨sb,2,none⟩=some (.slice B2 m2 d2)∧W.cell? ⟨sb,3,none⟩=some (.int .i64 i3)∧W.cell? ⟨sb,4,none⟩=some (.int .i8 i4)∧W.cell? ⟨sb,5,none⟩=some (.slice B5 m5 d5)∧W.cell? ⟨sb,6,none⟩=some (.int .i8 i6)∧W.cell? ⟨sb,7,none⟩=some (.int .i64 i7))
  (first | exact HS.out _ (Below.refl _ _) | exact HS.out _ (Below.refl _ _).drew | exact HS.out _ S2 | exact HS.out _ S1)
  (first
  | (go_at_call 24;refine(VW _).mono ?_;rintro e W1 ⟨hb,cs',rfl,hr⟩;have S1:=Ce hb;have HRB:=AA (K7.more (Nat.zero_le _) (Nat.le_refl _) hr);clear hb hr)
  | (go_at_call 12;refine(jh.out _ _ S1 HRB.out).mono ?_;rintro e W2 ⟨hb,rfl⟩;have S2:=S1.trans (hb.mono S1.size);clear hb))
 all_goals
  go_wp2_with fail
  go_ret
  exact⟨FQ.out.trans (S2.mono FQ.out.size),rfl⟩
def OW (W:World) (base:Nat) (l:List UInt8) (A:Option Addr) (c:Nat):Prop:=Ey W base 5 (.slice A l.length c) l.length (l.map bv)
theorem XB {w:World} {ops:Array Oper} {rest:List Oper} {o:Oper} {a:Act} {Q:Exit→Act→World→Prop} (hgd:o.guard=none) (s x:Operand)
 (ho:o.op= .call {callee:= .builtin .append,args:= #[s,x],argTypes:= #[40,40]}) (base:Nat) (l:List UInt8) (A:Option Addr) (c:Nat) (hs:a.eval s= .slice A l.length c) (hown:OW w base l A c)
 (B:Nat) (A2:Option Addr) (m c2:Nat) (news:List UInt8) (hx:a.eval x= .slice A2 m c2) (hm0:0<m) (hm:m=news.length) (hr:Row w B A2 (news.map bv)) (h47:l.length+m≤140000000000000) (hbase:base≤w.heap.size)
 (h: ∀A' c' w',OW w' base (l++news) A' c'→Below base w w'→Wp w w'→wpList prog ops Q rest (a.put o.dst (.slice A' (l++news).length c')) w'):wpList prog ops Q (o::rest) a w:=by
 obtain⟨i0,hi,hz,hs',hb⟩:=info_parts EJ
 refine MV w hgd s x 40 ho base 5 i0 _ 1 underlying40 hi hz hs' hb rfl _ l.length (l.map bv) hs hown B A2 m c2 (news.map bv) hm0 hx (by rw [List.length_map,Nat.mul_one];exact hm.symm) hr (Ew news) (by unfold maxLen;omega) (by omega) hbase ?_
 intro A' c' w' h2 h3 _
 subst hm
 rw [←List.length_append] at h2⊢
 refine h A' c' w' (.inl (by rw [List.map_append];exact h2)) ⟨h3.os,h3.tape,h3.output,h3.size,fun k hk=>h3.block k (by omega) (fun e=> ?_)⟩ ?_
 ·have:=(hown.lt k e.symm).1
  omega
 ·exact fun g t ys ht hb=>Av h3 hb (hown.ne hb ht)
def bD (base:Nat) (l:List UInt8) (w:World) (e:Ending) (w':World):Prop:= ∃A c,e= .returned (.slice A l.length c)∧OW w' base l A c∧Below base w w'∧Wp w w'
theorem GZ (base:Nat) (l:List UInt8) (A:Option Addr) (c v:Nat) (w:World) (hown:OW w base l A c) (hbase:base≤w.heap.size) (hv:v<18446744073709551616) (hn:l.length≤100000000000000):
 Calls prog 47 #[.slice A l.length c,.int .u64 v] w (bD base (l++enc v) w):=by
 have HO:=AA hown
 have hl:=AU v hv
 have hpos:=E9 v
 clear hown
 go_enter func47,ntmps47
 go_wp2_with fail
 refine(Jh v hv w).mono ?_
 rintro e w1 ⟨A1,c1,rfl,ho1,hb1⟩
 have Ui:=AA (Row.own ho1)
 have HB1:=AA hb1
 have hz:=hb1.size
 clear ho1 hb1
 go_wp2_with (at_builtin;refine XB rfl (.tmp 5) (.tmp 7) rfl base l A c rfl (HO.out.SG HB1.out) _ A1 (enc v).length c1 (enc v) rfl hpos rfl Ui.out (by omega) (by omega) ?_;intro A2 c2 w2 h2 h3 h4;have H2:=AA h2;have H3:=AA h3;have H4:=AA h4;clear h2 h3 h4)
 go_ret
 exact⟨A2,c2,by rw [List.length_append];rfl,H2.out,(HB1.out.mono hbase).trans H3.out,(Wp.DK HB1.out).trans H4.out⟩
def ABn (vs:List Nat) (base:Nat) (l:List UInt8) (w:World) (b i:Value) (wr:World):Prop:=
 ∃(k:Nat) (A:Option Addr) (c:Nat),k≤vs.length∧i= .int .i64 k∧b= .slice A (l++(enc vs.length++(vs.take k).flatMap enc)).length c∧OW wr base (l++(enc vs.length++(vs.take k).flatMap enc)) A c∧Below base w wr∧Wp w wr
theorem Lj (vs:List Nat) (A0:Option Addr) (c0 lo hi base:Nat) (l:List UInt8) (A:Option Addr) (c:Nat) (w:World) (hr:(Rd.u64.sl false).R w lo hi [.slice A0 vs.length c0] vs) (hhi:hi≤base) (hmm:vs.length≤1000) (hown:OW w base l A c) (hbase:base≤w.heap.size) (hn:l.length≤90000000000000):
 Calls prog 48 #[.slice A l.length c,.slice A0 vs.length c0] w (bD base (l++BS vs) w):=by
 have HO:=AA hown;have HR:=AA hr
 clear hown hr
 have henc:=AU vs.length (by omega)
 go_enter func48,ntmps48
 go_wp2_with fail
 refine(GZ base l A c vs.length w HO.out hbase (by omega) (by omega)).mono ?_
 rintro e w1 ⟨A1,c1,rfl,ho1,hb1,hk1⟩
 have Ui:=AA ho1;have HB1:=AA hb1;have Pt:=AA hk1
 clear ho1 hb1 hk1
 go_wp2_with fail
 go_loopw [0,5] (fun b i wr=>ABn vs base l w b i wr) (fun _ i _=>vs.length-(intOf i).toNat)
 case atStart=>exact⟨0,A1,c1,Nat.zero_le _,rfl,by simp,by simpa using Ui.out,HB1.out,Pt.out⟩
 case round=>
  obtain⟨k,A2,c2,hk,rfl,rfl,ho,hb,hkt⟩:=hrel
  have HO:=AA ho;have HB:=AA hb;have HK:=AA hkt
  have hsz:=Nat.le_trans hbase hb.size
  clear ho hb hkt
  by_cases hlt:k<vs.length
  ·obtain⟨x,hx⟩: ∃x,vs[k]?=some x:=⟨_,List.getElem?_eq_getElem hlt⟩
   have hB:Rd.XK x:=Rd.Hw HR.out x (List.mem_of_getElem? hx)
   obtain⟨b,o,rfl,_,hcell⟩:=(Rd.GV (Rd.below HR.out HB.out hhi)).2.word (j:=k) (by rw [←(Rd.GV HR.out).1];exact hlt)
   rw [hx] at hcell
   have hk0:(0:Int)≤k:=by omega
   have hfl:=Wu (vs:=vs.take k) (fun y hy=>Rd.Hw HR.out y (List.mem_of_mem_take hy))
   have hL:(l++(enc vs.length++(vs.take k).flatMap enc)).length≤100000000000000:=by rw [List.length_append,List.length_append];rw [List.length_take] at hfl;omega
   have HT:Hid ((l++(enc vs.length++(vs.take k).flatMap enc))++enc x=l++(enc vs.length++(vs.take (k+1)).flatMap enc)):=AA (by rw [Kz hx];simp)
   clear hx hfl
   generalize l++(enc vs.length++(vs.take k).flatMap enc)=L at*
   go_wp2_with fail
   refine(GZ base L A2 c2 x wr HO.out hsz hB hL).mono ?_
   rintro e w2 ⟨A3,c3,rfl,ho3,hb3,hk3⟩
   have HO3:=AA ho3;have HB3:=AA hb3;have Lp:=AA hk3
   clear ho3 hb3 hk3
   go_wp2_with fail
   refine⟨⟨k+1,A3,c3,by omega,by go_num,by rw [←HT.out,List.length_append],by rw [←HT.out];exact HO3.out,HB.out.trans HB3.out,HK.out.trans Lp.out⟩,by simp [intOf];omega⟩
  ·obtain rfl:vs.length=k:=by omega
   have HT:Hid (l++(enc vs.length++(vs.take vs.length).flatMap enc)=l++BS vs):=AA (by rw [List.take_length];rfl)
   rw [HT.out] at HO⊢
   go_wp2_with fail
   go_ret
   exact⟨A2,c2,rfl,HO.out,HB.out,HK.out⟩
def AFY (p:List UInt8) (w:World) (i:Value) (wr:World):Prop:= ∃k:Nat,k≤p.length∧i= .int .i64 k∧wr=w∧XW (p.drop k)=XW p
theorem xM {p:List UInt8} {k:Nat} (h:k<p.length):XW (p.drop k)=((p[k]?.getD 0 !=0)||XW (p.drop (k+1))):=by
 rw [List.drop_eq_getElem_cons h,List.getElem?_eq_getElem h];rfl
theorem Q7 (p:List UInt8) (A0:Option Addr) (c0 B:Nat) (w:World) (hr:Row w B A0 (p.map bv)) (hmm:p.length≤1000000):
 Calls prog 49 #[.slice A0 p.length c0] w fun e w'=>w=w'∧e= .returned (.bool (!XW p)):=by
 have HR:=AA hr
 clear hr
 go_enter func49,ntmps49
 go_wp2_with fail
 go_loopw [3] (fun i wr=>AFY p w i wr) (fun i _=>p.length-(intOf i).toNat)
 case atStart=>exact⟨0,Nat.zero_le _,rfl,rfl,rfl⟩
 case round=>
  obtain⟨k,hk,rfl,rfl,hR⟩:=hrel
  by_cases hlt:k<p.length
  ·obtain⟨b,o,rfl,_,hcell⟩:=HR.out.byte (j:=k) hlt
   have hk0:(0:Int)≤k:=by omega
   rw [xM hlt] at hR
   have HRR:=AA hR;clear hR
   have hu:(p[k]?.getD 0).toNat<256:=UInt8.toNat_lt _
   have HU:Hid ((p[k]?.getD 0 !=0)=((p[k]?.getD 0).toNat !=0)):=AA (by rw [Bool.eq_iff_iff,bne_iff_ne,bne_iff_ne,ne_eq,ne_eq,←UInt8.toNat_inj];rfl)
   rw [HU.out] at HRR
   clear HU
   generalize (p[k]?.getD 0).toNat=x at*
   by_cases hx:x=0
   ·subst hx
    go_wp2_with fail
    refine⟨⟨k+1,by omega,by go_num,rfl,by rw [←HRR.out];rfl⟩,by simp [intOf];omega⟩
   ·have hx1:(((x:Nat):Int) !=0)=true:=by rw [bne_iff_ne];omega
    have hx2:(x !=0)=true:=by rw [bne_iff_ne];omega
    rw [hx2] at HRR
    clear hx hx2
    go_wp2_with fail
    go_ret
    exact⟨rfl,by rw [←HRR.out];rfl⟩
  ·obtain rfl:p.length=k:=by omega
   have HRR:Hid (XW p=false):=AA (by rw [←hR,List.drop_length];rfl)
   clear hR
   go_wp2_with fail
   go_ret
   exact⟨rfl,by rw [HRR.out];rfl⟩
theorem xO (ds:List Value) (hi:Nat) (s:FH) (w:World) (hs:K7.R w 0 hi ds s) (hhi:hi≤w.heap.size) (hok:R7 s):Calls prog 46 #[.agg ds.toArray] w fun e w'=>Below w.heap.size w w'∧e= .returned (.bool true):=by
 obtain⟨u0,u1,u2,u5,rfl,s0,s1,s2,sr,_,s5,_,su⟩:=CU.1 hs
 obtain⟨B0,d0,rfl⟩:=AB s0
 obtain⟨B1,d1,rfl⟩:=AB s1
 obtain⟨B2,d2,rfl⟩:=AB s2
 obtain⟨B5,d5,rfl⟩:=AB s5
 have Me:=AA (dV s0 hok)
 have EX:=AA hok
 have Bw:=AA hhi
 have S0:=AA s0;have S1:=AA s1;have S2:=AA s2;have S5:=AA s5
 have e0:=hok.e0;have e1:=hok.e1;have t0:=hok.t0;have t1:=hok.t1
 have n1: ¬s.end_<1:=by omega
 have n2: ¬3<s.end_:=by omega
 have n3: ¬s.trap<0:=by omega
 have n4: ¬6<s.trap:=by omega
 have n5: ¬s.used<0:=by have:=hok.u0;omega
 have n6: ¬4611686018427387904<s.used:=by have:=hok.u1;omega
 have n7: ¬s.Bj<0:=by have:=hok.r0;omega
 have n8:=hok.res;have n9:=hok.globs;have n10:=hok.pages;have n11:=hok.frames
 clear hs s0 s1 s2 s5 hok hhi sr su e0 e1 t0 t1
 go_enter func46,ntmps46
 go_upto_region 1 with fail
 generalize hw1:w.alloc (.cells #[.slice B0 s.frames.length d0,.slice B1 s.globs.length d1,.slice B2 s.pages.length d2,.int .i64 s.Bj,.int .i8 s.end_,.slice B5 s.res.length d5,.int .i8 s.trap,.int .i64 s.used] 35)=w1
 obtain⟨hb1,hx1⟩:=ES hw1
 have HB1:=AA hb1;have HX:=AA hx1
 have S0:=AA (Rd.below S0.out hb1 Bw.out);have S2:=AA (Rd.below S2.out hb1 Bw.out)
 have NY:hi≤w1.heap.size:=Nat.le_trans Bw.out hb1.size
 clear hw1 hb1 hx1
 have q0:=HX.out.q 0 rfl
 have q1:=HX.out.q 1 rfl
 have q2:=HX.out.q 2 rfl
 have q3:=HX.out.q 3 rfl
 have q4:=HX.out.q 4 rfl
 have q5:=HX.out.q 5 rfl
 have q6:=HX.out.q 6 rfl
 have q7:=HX.out.q 7 rfl
 go_wp2_with fail
 clear n1 n2 n3 n4 n5 n6 n7 n8 n9
 go_loopw [3] (fun i wr=> ∃k:Nat,k≤s.pages.length∧i= .int .i64 k∧w1=wr) (fun i _=>s.pages.length-(intOf i).toNat)
 case atStart=>exact⟨0,Nat.zero_le _,rfl,rfl⟩
 case round=>
  obtain⟨k,hk,rfl,rfl⟩:=hrel
  by_cases hlt:k<s.pages.length
  ·obtain⟨p,hpk⟩: ∃p,s.pages[k]?=some p:=⟨_,List.getElem?_eq_getElem hlt⟩
   have hpl:=EX.out.page p (List.mem_of_getElem? hpk)
   obtain⟨bb,ob,eA,_,_,cs',hc',hr'⟩:=DC S2.out hpk
   subst eA
   obtain⟨v',rfl,hr'⟩:=Co hr'
   obtain⟨A',c',rfl⟩:=AB hr'
   have f0:w1.cell? ⟨bb,ob+k,none⟩=some (.slice A' p.length c'):=by have:=hc' 0 _ rfl;simpa [Rd.sl] using this
   rw [hpl] at f0
   have hk0:(0:Int)≤k:=by omega
   clear hc' hr' hpl hpk
   go_wp2_with fail
   exact⟨⟨k+1,by omega,by go_num,by first | exact True.intro | exact rfl⟩,by simp [intOf];omega⟩
  ·obtain rfl:s.pages.length=k:=by omega
   go_wp2_with fail
   go_loopw [4] (fun i wr=> ∃k:Nat,k≤s.frames.length∧i= .int .i64 k∧Below w1.heap.size w1 wr) (fun i _=>s.frames.length-(intOf i).toNat)
   case atStart=>exact⟨0,Nat.zero_le _,rfl,Below.refl _ _⟩
   case round=>
    obtain⟨k,hk,rfl,hb⟩:=hrel
    have HB:=AA hb
    have HXr:=AA (HX.out.below hb HX.out.lt)
    have q0:=HXr.out.q 0 rfl
    by_cases hlt:k<s.frames.length
    ·obtain⟨f,hf⟩: ∃f,s.frames[k]?=some f:=⟨_,List.getElem?_eq_getElem hlt⟩
     have hmem:=List.mem_of_getElem? hf
     have hf0:=EX.out.f0 f hmem;have hp0:=EX.out.p0 f hmem;have hl0:=EX.out.loc f hmem;have ht0:=EX.out.st f hmem
     obtain⟨bf,TW,E8,ET,I_,Io,eA,_,_,f0,f1,f2,f3,_,_,_,_⟩:=JR (Rd.below S0.out hb NY) hf
     subst eA
     have hk0:(0:Int)≤k:=by omega
     have m1: ¬f.f<0:=by omega
     have m2: ¬128≤f.f:=by omega
     have m3: ¬f.pc<0:=by omega
     have m4: ¬2048≤f.pc:=by omega
     clear hb hf hmem hf0 hp0
     go_upto_region 14 with(refine Fh rfl _ _ _ rfl _ _ rfl rfl ?_ ?_ ?_ ?_;(try focus kernel_rfl);(try focus rfl);(try focus kernel_rfl))
     generalize hwf:wr.alloc _=wf
     obtain⟨hb,hx⟩:=ES hwf
     have jg:=AA hb
     have r0:=hx.q 0 rfl
     have r1:=hx.q 1 rfl
     have r2:=hx.q 2 rfl
     have r3:=hx.q 3 rfl
     clear hwf hb hx f0 f1 f2 f3
     go_wp2_with fail
     exact⟨⟨k+1,by omega,by go_num,HB.out.trans (jg.out.mono HB.out.size)⟩,by simp [intOf];omega⟩
    ·obtain rfl:s.frames.length=k:=by omega
     go_wp2_with fail
     go_ret
     exact⟨HB1.out.trans (HB.out.mono HB1.out.size),rfl⟩
theorem KA (base:Nat) (l:List UInt8) (A:Option Addr) (c:Nat) (v:Int) (w:World) (hown:OW w base l A c) (hbase:base≤w.heap.size) (h0:0≤v) (hv:v<18446744073709551616) (hn:l.length≤100000000000000):
 Calls prog 47 #[.slice A l.length c,.int .u64 v] w (bD base (l++enc v.toNat) w):=by
 obtain⟨n,rfl⟩:=Int.eq_ofNat_of_zero_le h0
 exact GZ base l A c n w hown hbase (by omega) hn
theorem eD:(91:TypeId)≠5:=by decide
theorem wrap64 {n:Int} (h0:0≤n) (h1:n<9223372036854775808):IntKind.u64.wrap n=n:=by rw [IntKind.wrap_u64];omega
end Go.Proofs.YtlagonfamllgjaaGreatDoor
