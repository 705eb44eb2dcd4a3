/- Part 40 of the proof: R10J R10K R10L R10M R10N -/
import Derived.Test.YtlagonfamllgjaaGreatDoorR08
import Derived.Test.YtlagonfamllgjaaGreatDoorR22
import Derived.Test.YtlagonfamllgjaaGreatDoorR31
namespace Go.Proofs.YtlagonfamllgjaaGreatDoor
set_option linter.unusedVariables false
set_option linter.unusedSimpArgs false
set_option maxRecDepth 100000
set_option maxHeartbeats 4000000
open Go.RowKit Tryz
def lJ (a:ByteArray×Int) (n:Nat):ByteArray×ByteArray×Int:=if n=7 then(a.1,a.1,a.2) else(a.1++wS,a.1,a.2)
def lK (a:ByteArray×Int) (n:Nat):ByteArray×ByteArray×Int:=if n=18∨n=21 then(Di,a.1,a.2) else if n=20 then(a.1,a.1,a.2) else(a.1,Di,a.2)
def V7 (a:ByteArray):ByteArray×ByteArray×Int:=if a.size=0 then(wS,Di,0) else(a.extract (a.size-1) a.size,Di,0)
def V8 (a:ByteArray):ByteArray×ByteArray×Int:=if a.size<3 then(⟨#[119,119,119]⟩,wS,0) else(a.extract (a.size-2) (a.size-1)++a.extract (a.size-2) (a.size-1)++wS,a.extract (a.size-2) (a.size-1),0)
section
variable {h1 g:Nat} {y:Fy} {m:AP} {f:Bt} {c:Ai} {vF vS:Value} {fl:List Int} {sh:List ByteArray} {pc:Nat} {st:Cm} {l:List Nat}
theorem Od (x:Ad) (A:Option Addr) (d hi:Nat) (ab:ByteArray) (w:World) (h:D7 w h1 g y m f c vF vS fl sh) (hb:fu m f c fl sh pc st.op l) (hop:x.op.toNat=7∨x.op.toNat=8∨x.op.toNat=9) (hn: -9223372036854775808≤x.a∧x.a<9223372036854775808) (hx:(Rd.i64.sl false).R w 0 hi [.slice A x.l.length d] x.l) (hhi:hi≤w.heap.size) (hne:x.op.toNat=9→1≤x.l.length∧x.l.length≤1000∧ ∀n∈x.l,0≤n∧n≤2147483647) (hm:f.code.length≤1000000) (hsz:(BI st.op x).1.size≤1000):
 Calls prog 115 #[.pointer (some ⟨g,0,none⟩),.int .i64 pc,.agg #[.int .u8 (x.op.toNat:Int),.int .i64 x.a,.slice A x.l.length d],.string ab] w fun e w'=>e= .returned (Jq (BN m f st x))∧Below w.heap.size w w':=by
 have H:=AA h
 have LQ: ∀W,Below w.heap.size w W→Calls prog 147 #[.pointer (some ⟨g,0,none⟩),.int .i64 pc,.agg #[.int .u8 (x.op.toNat:Int),.int .i64 x.a,.slice A x.l.length d]] W fun e w'=>e= .returned (.tuple #[.string (BI st.op x).1,.int .i64 (BI st.op x).2])∧Below W.heap.size W w':=fun W hW=>by
  by_cases h9:x.op.toNat=9
  ·exact Ns x A d hi W (h.below hW) hb h9 (Rd.below hx hW hhi) (Nat.le_trans hhi hW.size) (hne h9).1 (hne h9).2.1 (hne h9).2.2 hm
  ·exact Pw x _ W (h.below hW) hb h9 hn hm
 obtain⟨r,hr,N9⟩: ∃r,Au x.op.toNat=some r∧r.plain=false:=by
  have:((Au x.op.toNat).map (·.plain))=some false:=by rcases hop with e | e | e<;>(rw [e];kernel_rfl)
  obtain⟨r,h1,h2⟩:=Option.map_eq_some_iff.1 this
  exact⟨r,h1,h2⟩
 have HE:Hid (BN m f st x=lJ (BI st.op x) x.op.toNat):=AA (by
  unfold BN lJ
  rw [hr]
  simp only [N9,Bool.false_eq_true,if_false]
  rw [if_neg (by omega),if_neg (by omega)]
  by_cases h7:x.op.toNat=7
  ·rw [if_pos h7,if_pos h7]
  ·rw [if_neg h7,if_neg h7,if_pos (by omega)])
 have Jt:=MH hr N9 x.op.toNat_lt
 clear hr N9
 obtain⟨N,hN⟩: ∃N,x.op.toNat=N:=⟨_,rfl⟩
 have hd2:Hid (N=7∨N=8∨N=9):=AA (hN▸hop)
 rw [hN] at HE Jt LQ⊢
 clear hop hN
 have Jt:=AA Jt
 have LQ:=AA LQ
 have hadd:binOp .add 9 (.string (BI st.op x).1) (.string ⟨#[119]⟩)=pure (.string ((BI st.op x).1++⟨#[119]⟩)):=Fh _ _ _ (by show(BI st.op x).1.size+1≤_;omega)
 clear h hb hn hx hne hm hsz
 rcases hd2.out with rfl | rfl | rfl
 all_goals
  clear hd2
  go_enter func115,ntmps115
  go_upto_region 1 with fail
  generalize hw1:w.alloc (.cells #[_,.int .i64 x.a,_] 122)=w1
  obtain⟨hb1,c0,c1,c2,hx1⟩:=Sb hw1
  have HB1:=AA hb1;have CS:=AA hx1
  clear hw1 hb1 hx1 c1 c2
  go_wp2_with fail
  refine(Jt.out w1).mono ?_
  rintro e w2 ⟨hb2,rfl⟩
  have HB2:Hid (Below w.heap.size w w2):=AA (HB1.out.trans (hb2.mono HB1.out.size))
  have Bq:=AA (CS.out.below hb2 CS.out.lt)
  clear hb2 c0
  have c0:=Bq.out.cell 0
  have c1:=Bq.out.cell 1
  have c2:=Bq.out.cell 2
  have hlt:=Bq.out.lt
  go_wp2_with fail
  generalize hw3:w2.alloc _=w3
  have hb3:Below w2.heap.size w2 w3:=by rw [←hw3];exact(Below.refl _ _).alloc (Nat.le_refl _) _
  have HB3:Hid (Below w.heap.size w w3):=AA (HB2.out.trans (hb3.mono HB2.out.size))
  have Nq:=AA (Bq.out.below hb3 Bq.out.lt)
  clear hw3 hb3 c0 c1 c2 hlt
  refine(LQ.out w3 HB3.out).mono ?_
  rintro e w4 ⟨rfl,hb4⟩
  have Ct:Hid (Below w.heap.size w w4):=AA (HB3.out.trans (hb4.mono HB3.out.size))
  have Ob:=AA (Nq.out.below hb4 Nq.out.lt)
  clear hb4
  have c0:=Ob.out.cell 0
  go_wp2_with fail
  go_ret3
  rw [HE.out]
  exact⟨rfl,Ct.out⟩
theorem Oe (x:Ad) (v:Value) (ab:ByteArray) (p:Int) (w:World) (h:D7 w h1 g y m f c vF vS fl sh) (hop:x.op.toNat=18∨x.op.toNat=19∨x.op.toNat=20∨x.op.toNat=21∨x.op.toNat=22) (hn: -9223372036854775808≤x.a∧x.a<9223372036854775808) (hl:(C8 m f).size≤1000000):
 Calls prog 115 #[.pointer (some ⟨g,0,none⟩),.int .i64 p,.agg #[.int .u8 (x.op.toNat:Int),.int .i64 x.a,v],.string ab] w fun e w'=>e= .returned (Jq (BN m f st x))∧Below w.heap.size w w':=by
 have H:=AA h
 have LQ: ∀W,Below w.heap.size w W→Calls prog 148 #[.pointer (some ⟨g,0,none⟩),.agg #[.int .u8 (x.op.toNat:Int),.int .i64 x.a,v]] W fun e w'=>e= .returned (.tuple #[.string (Bf m f x).1,.int .i64 (Bf m f x).2])∧Below W.heap.size W w':=fun W hW=>by
  by_cases h21:x.op.toNat=21∨x.op.toNat=22
  ·exact Oa x v W (h.below hW) h21 hn
  ·exact Pv x v W (h.below hW) (by omega) hn hl
 obtain⟨r,hr,N9⟩: ∃r,Au x.op.toNat=some r∧r.plain=false:=by
  have:((Au x.op.toNat).map (·.plain))=some false:=by rcases hop with e | e | e | e | e<;>(rw [e];kernel_rfl)
  obtain⟨r,h1,h2⟩:=Option.map_eq_some_iff.1 this
  exact⟨r,h1,h2⟩
 have HE:Hid (BN m f st x=lK (Bf m f x) x.op.toNat):=AA (by
  unfold BN lK
  rw [hr]
  simp only [N9,Bool.false_eq_true,if_false]
  rw [if_neg (by omega),if_neg (by omega),if_neg (by omega),if_neg (by omega),if_neg (by omega),if_neg (by omega),if_neg (by omega)])
 have Jt:=MH hr N9 x.op.toNat_lt
 clear hr N9
 obtain⟨N,hN⟩: ∃N,x.op.toNat=N:=⟨_,rfl⟩
 have hd2:Hid (N=18∨N=19∨N=20∨N=21∨N=22):=AA (hN▸hop)
 rw [hN] at HE Jt LQ⊢
 clear hop hN
 have Jt:=AA Jt
 have LQ:=AA LQ
 clear h hn hl
 rcases hd2.out with rfl | rfl | rfl | rfl | rfl
 all_goals
  clear hd2
  go_enter func115,ntmps115
  go_upto_region 1 with fail
  generalize hw1:w.alloc (.cells #[_,.int .i64 x.a,_] 122)=w1
  obtain⟨hb1,c0,c1,c2,hx1⟩:=Sb hw1
  have HB1:=AA hb1;have CS:=AA hx1
  clear hw1 hb1 hx1 c1 c2
  go_wp2_with fail
  refine(Jt.out w1).mono ?_
  rintro e w2 ⟨hb2,rfl⟩
  have HB2:Hid (Below w.heap.size w w2):=AA (HB1.out.trans (hb2.mono HB1.out.size))
  have Bq:=AA (CS.out.below hb2 CS.out.lt)
  clear hb2 c0
  have c0:=Bq.out.cell 0
  have c1:=Bq.out.cell 1
  have c2:=Bq.out.cell 2
  have hlt:=Bq.out.lt
  go_wp2_with fail
  generalize hw3:w2.alloc _=w3
  have hb3:Below w2.heap.size w2 w3:=by rw [←hw3];exact(Below.refl _ _).alloc (Nat.le_refl _) _
  have HB3:Hid (Below w.heap.size w w3):=AA (HB2.out.trans (hb3.mono HB2.out.size))
  have Nq:=AA (Bq.out.below hb3 Bq.out.lt)
  clear hw3 hb3 c0 c1 c2 hlt
  refine(LQ.out w3 HB3.out).mono ?_
  rintro e w4 ⟨rfl,hb4⟩
  have Ct:Hid (Below w.heap.size w w4):=AA (HB3.out.trans (hb4.mono HB3.out.size))
  have Ob:=AA (Nq.out.below hb4 Nq.out.lt)
  clear hb4
  have c0:=Ob.out.cell 0
  go_wp2_with fail
  go_ret3
  rw [HE.out]
  exact⟨rfl,Ct.out⟩
theorem Qq (x:Ad) (v:Value) (ab:ByteArray) (p:Int) (w:World) (hop:x.op.toNat=0):
 Calls prog 115 #[.pointer (some ⟨g,0,none⟩),.int .i64 p,.agg #[.int .u8 (x.op.toNat:Int),.int .i64 x.a,v],.string ab] w fun e w'=>e= .returned (Jq (BN m f st x))∧Below w.heap.size w w':=by
 obtain⟨r,hr,N9⟩: ∃r,Au x.op.toNat=some r∧r.plain=false:=by
  have:((Au x.op.toNat).map (·.plain))=some false:=by rw [hop];kernel_rfl
  obtain⟨r,h1,h2⟩:=Option.map_eq_some_iff.1 this
  exact⟨r,h1,h2⟩
 have HE:Hid (BN m f st x=(Di,Di,0)):=AA (by
  unfold BN
  rw [hr]
  simp only [N9,Bool.false_eq_true,if_false]
  rw [if_pos hop])
 have Jt:=MH hr N9 x.op.toNat_lt
 clear hr N9
 obtain⟨N,hN⟩: ∃N,x.op.toNat=N:=⟨_,rfl⟩
 have hd2:Hid (N=0):=AA (hN▸hop)
 rw [hN] at Jt⊢
 clear hop hN
 have Jt:=AA Jt
 obtain rfl:=hd2.out
 clear hd2
 go_enter func115,ntmps115
 go_upto_region 1 with fail
 generalize hw1:w.alloc (.cells #[_,.int .i64 x.a,_] 122)=w1
 obtain⟨hb1,c0,c1,c2,hx1⟩:=Sb hw1
 have HB1:=AA hb1;have CS:=AA hx1
 clear hw1 hb1 hx1 c1 c2
 go_wp2_with fail
 refine(Jt.out w1).mono ?_
 rintro e w2 ⟨hb2,rfl⟩
 have HB2:Hid (Below w.heap.size w w2):=AA (HB1.out.trans (hb2.mono HB1.out.size))
 have Bq:=AA (CS.out.below hb2 CS.out.lt)
 clear hb2 c0
 have c0:=Bq.out.cell 0
 have c1:=Bq.out.cell 1
 have c2:=Bq.out.cell 2
 have hlt:=Bq.out.lt
 go_wp2_with fail
 go_ret3
 rw [HE.out]
 exact⟨rfl,HB2.out.alloc HB2.out.size _⟩
theorem Og (x:Ad) (v:Value) (ab:ByteArray) (p:Int) (w:World) (h:D7 w h1 g y m f c vF vS fl sh) (hop:x.op.toNat=10):
 Calls prog 115 #[.pointer (some ⟨g,0,none⟩),.int .i64 p,.agg #[.int .u8 (x.op.toNat:Int),.int .i64 x.a,v],.string ab] w fun e w'=>e= .returned (Jq (BN m f st x))∧Below w.heap.size w w':=by
 have H:=AA h
 have LQ:Hid (∀W,Below w.heap.size w W→Calls prog 114 #[.pointer (some ⟨g,0,none⟩)] W fun e w'=>e= .returned (.string (CG m f.t).r)∧ ∃k,w'=W.drewN k):=AA (fun W hW=>QW W (H.out.below hW).blk (H.out.below hW).md)
 obtain⟨r,hr,N9⟩: ∃r,Au x.op.toNat=some r∧r.plain=false:=by
  have:((Au x.op.toNat).map (·.plain))=some false:=by rw [hop];kernel_rfl
  obtain⟨r,h1,h2⟩:=Option.map_eq_some_iff.1 this
  exact⟨r,h1,h2⟩
 have HE:Hid (BN m f st x=((CG m f.t).r,(CG m f.t).r,0)):=AA (by
  unfold BN
  rw [hr]
  simp only [N9,Bool.false_eq_true,if_false]
  rw [if_neg (by omega),if_neg (by omega),if_neg (by omega),if_neg (by omega),if_pos hop])
 have Jt:=MH hr N9 x.op.toNat_lt
 clear hr N9
 obtain⟨N,hN⟩: ∃N,x.op.toNat=N:=⟨_,rfl⟩
 have hd2:Hid (N=10):=AA (hN▸hop)
 rw [hN] at Jt⊢
 clear hop hN
 have Jt:=AA Jt
 obtain rfl:=hd2.out
 clear h
 clear hd2
 go_enter func115,ntmps115
 go_upto_region 1 with fail
 generalize hw1:w.alloc (.cells #[_,.int .i64 x.a,_] 122)=w1
 obtain⟨hb1,c0,c1,c2,hx1⟩:=Sb hw1
 have HB1:=AA hb1;have CS:=AA hx1
 clear hw1 hb1 hx1 c1 c2
 go_wp2_with fail
 refine(Jt.out w1).mono ?_
 rintro e w2 ⟨hb2,rfl⟩
 have HB2:Hid (Below w.heap.size w w2):=AA (HB1.out.trans (hb2.mono HB1.out.size))
 have Bq:=AA (CS.out.below hb2 CS.out.lt)
 clear hb2 c0
 have c0:=Bq.out.cell 0
 have c1:=Bq.out.cell 1
 have c2:=Bq.out.cell 2
 have hlt:=Bq.out.lt
 go_wp2_with fail
 generalize hw3:w2.alloc _=w3
 have hb3:Below w2.heap.size w2 w3:=by rw [←hw3];exact(Below.refl _ _).alloc (Nat.le_refl _) _
 have HB3:Hid (Below w.heap.size w w3):=AA (HB2.out.trans (hb3.mono HB2.out.size))
 have Nq:=AA (Bq.out.below hb3 Bq.out.lt)
 clear hw3 hb3 c0 c1 c2 hlt
 refine(LQ.out w3 HB3.out).mono ?_
 rintro e w4 ⟨rfl,k,rfl⟩
 go_wp2_with fail
 refine(LQ.out (w3.drewN k) (below_drewN HB3.out k)).mono ?_
 rintro e w5 ⟨rfl,k',rfl⟩
 go_wp2_with fail
 go_ret3
 rw [HE.out]
 exact⟨rfl,below_drewN HB3.out _⟩
theorem Qr (x:Ad) (v:Value) (ab:ByteArray) (p:Int) (w:World) (hop:x.op.toNat=16) (hab:AV st=ab) (hz:ab.size≤1000):
 Calls prog 115 #[.pointer (some ⟨g,0,none⟩),.int .i64 p,.agg #[.int .u8 (x.op.toNat:Int),.int .i64 x.a,v],.string ab] w fun e w'=>e= .returned (Jq (BN m f st x))∧Below w.heap.size w w':=by
 obtain⟨r,hr,N9⟩: ∃r,Au x.op.toNat=some r∧r.plain=false:=by
  have:((Au x.op.toNat).map (·.plain))=some false:=by rw [hop];kernel_rfl
  obtain⟨r,h1,h2⟩:=Option.map_eq_some_iff.1 this
  exact⟨r,h1,h2⟩
 have HE:Hid (BN m f st x=V7 ab):=AA (by
  unfold BN
  rw [hr]
  simp only [N9,Bool.false_eq_true,if_false]
  rw [if_neg (by omega),if_neg (by omega),if_neg (by omega),if_neg (by omega),if_neg (by omega),if_pos hop,hab]
  rfl)
 have Jt:=MH hr N9 x.op.toNat_lt
 clear hr N9
 obtain⟨N,hN⟩: ∃N,x.op.toNat=N:=⟨_,rfl⟩
 have hd2:Hid (N=16):=AA (hN▸hop)
 rw [hN] at Jt⊢
 clear hop hN
 have Jt:=AA Jt
 obtain rfl:=hd2.out
 clear hab
 by_cases h0:ab.size=0
 ·have HE2:Hid (V7 ab=(wS,Di,0)):=AA (if_pos h0)
  have e0:ab.toList= []:=by rw [ByteArray.toList_eq];exact List.length_eq_zero_iff.1 (by rw [Array.length_toList];exact h0)
  clear h0
  clear hd2
  go_enter func115,ntmps115
  go_upto_region 1 with fail
  generalize hw1:w.alloc (.cells #[_,.int .i64 x.a,_] 122)=w1
  obtain⟨hb1,c0,c1,c2,hx1⟩:=Sb hw1
  have HB1:=AA hb1;have CS:=AA hx1
  clear hw1 hb1 hx1 c1 c2
  go_wp2_with fail
  refine(Jt.out w1).mono ?_
  rintro e w2 ⟨hb2,rfl⟩
  have HB2:Hid (Below w.heap.size w w2):=AA (HB1.out.trans (hb2.mono HB1.out.size))
  have Bq:=AA (CS.out.below hb2 CS.out.lt)
  clear hb2 c0
  have c0:=Bq.out.cell 0
  have c1:=Bq.out.cell 1
  have c2:=Bq.out.cell 2
  have hlt:=Bq.out.lt
  go_wp2_with fail
  go_ret3
  rw [HE.out,HE2.out]
  exact⟨rfl,HB2.out.alloc HB2.out.size _⟩
 ·have HE2:Hid (V7 ab=(ab.extract (ab.size-1) ab.size,Di,0)):=AA (if_neg h0)
  have en: ¬ab.toList= []:=fun e=>h0 (by rw [ByteArray.toList_eq] at e;have:=congrArg List.length e;rw [Array.length_toList] at this;exact this)
  have e0:(!ab.toList.isEmpty)=true:=by cases hh:ab.toList with | nil=>exact absurd hh en | cons _ _=>rfl
  have e1:(ab.toList== [])=false:=by cases hh:ab.toList with | nil=>exact absurd hh en | cons _ _=>rfl
  have hs1:1≤ab.size:=by omega
  have hsl: ∀W,(Instr.slice 9 (.string ab) (some (.int .i64 ((ab.size:Int)-1))) none none).run prog W= .ok (.string (ab.extract (ab.size-1) ab.size)) W:=by
   intro W
   rw [run_slice_string_from_if (P:=prog) W 9 ab .i64 _ underlying9,if_pos (by omega)]
   rw [show((ab.size:Int)-1).toNat=ab.size-1 from by omega]
  clear h0 en
  clear hd2
  go_enter func115,ntmps115
  go_upto_region 1 with fail
  generalize hw1:w.alloc (.cells #[_,.int .i64 x.a,_] 122)=w1
  obtain⟨hb1,c0,c1,c2,hx1⟩:=Sb hw1
  have HB1:=AA hb1;have CS:=AA hx1
  clear hw1 hb1 hx1 c1 c2
  go_wp2_with fail
  refine(Jt.out w1).mono ?_
  rintro e w2 ⟨hb2,rfl⟩
  have HB2:Hid (Below w.heap.size w w2):=AA (HB1.out.trans (hb2.mono HB1.out.size))
  have Bq:=AA (CS.out.below hb2 CS.out.lt)
  clear hb2 c0
  have c0:=Bq.out.cell 0
  have c1:=Bq.out.cell 1
  have c2:=Bq.out.cell 2
  have hlt:=Bq.out.lt
  go_wp2_with fail
  go_ret3
  rw [HE.out,HE2.out]
  exact⟨rfl,HB2.out.alloc HB2.out.size _⟩
theorem Oh (x:Ad) (v:Value) (ab:ByteArray) (p:Int) (w:World) (hop:x.op.toNat=17) (hab:AV st=ab) (hz:ab.size≤1000):
 Calls prog 115 #[.pointer (some ⟨g,0,none⟩),.int .i64 p,.agg #[.int .u8 (x.op.toNat:Int),.int .i64 x.a,v],.string ab] w fun e w'=>e= .returned (Jq (BN m f st x))∧Below w.heap.size w w':=by
 obtain⟨r,hr,N9⟩: ∃r,Au x.op.toNat=some r∧r.plain=false:=by
  have:((Au x.op.toNat).map (·.plain))=some false:=by rw [hop];kernel_rfl
  obtain⟨r,h1,h2⟩:=Option.map_eq_some_iff.1 this
  exact⟨r,h1,h2⟩
 have HE:Hid (BN m f st x=V8 ab):=AA (by
  unfold BN
  rw [hr]
  simp only [N9,Bool.false_eq_true,if_false]
  rw [if_neg (by omega),if_neg (by omega),if_neg (by omega),if_neg (by omega),if_neg (by omega),if_neg (by omega),if_pos hop,hab]
  rfl)
 have Jt:=MH hr N9 x.op.toNat_lt
 clear hr N9
 obtain⟨N,hN⟩: ∃N,x.op.toNat=N:=⟨_,rfl⟩
 have hd2:Hid (N=17):=AA (hN▸hop)
 rw [hN] at Jt⊢
 clear hop hN
 have Jt:=AA Jt
 obtain rfl:=hd2.out
 clear hab
 by_cases h0:ab.size<3
 ·have HE2:Hid (V8 ab=(⟨#[119,119,119]⟩,wS,0)):=AA (if_pos h0)
  have e0:decide ((ab.size:Int)<3)=true:=decide_eq_true (by omega)
  clear h0
  clear hd2
  go_enter func115,ntmps115
  go_upto_region 1 with fail
  generalize hw1:w.alloc (.cells #[_,.int .i64 x.a,_] 122)=w1
  obtain⟨hb1,c0,c1,c2,hx1⟩:=Sb hw1
  have HB1:=AA hb1;have CS:=AA hx1
  clear hw1 hb1 hx1 c1 c2
  go_wp2_with fail
  refine(Jt.out w1).mono ?_
  rintro e w2 ⟨hb2,rfl⟩
  have HB2:Hid (Below w.heap.size w w2):=AA (HB1.out.trans (hb2.mono HB1.out.size))
  have Bq:=AA (CS.out.below hb2 CS.out.lt)
  clear hb2 c0
  have c0:=Bq.out.cell 0
  have c1:=Bq.out.cell 1
  have c2:=Bq.out.cell 2
  have hlt:=Bq.out.lt
  go_wp2_with fail
  go_ret3
  rw [HE.out,HE2.out]
  exact⟨rfl,HB2.out.alloc HB2.out.size _⟩
 ·obtain⟨yy,hyy⟩: ∃yy,ab.extract (ab.size-2) (ab.size-1)=yy:=⟨_,rfl⟩
  have HE2:Hid (V8 ab=(yy++yy++wS,yy,0)):=AA (by unfold V8;rw [if_neg h0,hyy])
  have e0:decide ((ab.size:Int)<3)=false:=decide_eq_false (by omega)
  have hs1:3≤ab.size:=by omega
  have hsl: ∀W,(Instr.slice 9 (.string ab) (some (.int .i64 ((ab.size:Int)-2))) (some (.int .i64 ((ab.size:Int)-1))) none).run prog W= .ok (.string yy) W:=by
   rw [←hyy]
   exact bI ab (ab.size-2) (ab.size-1) _ _ (by omega) (by omega) (by omega) (by omega)
  have hys:yy.size≤1:=by rw [←hyy,ByteArray.size_extract];omega
  clear h0 hyy
  clear hd2
  go_enter func115,ntmps115
  go_upto_region 1 with fail
  generalize hw1:w.alloc (.cells #[_,.int .i64 x.a,_] 122)=w1
  obtain⟨hb1,c0,c1,c2,hx1⟩:=Sb hw1
  have HB1:=AA hb1;have CS:=AA hx1
  clear hw1 hb1 hx1 c1 c2
  go_wp2_with fail
  refine(Jt.out w1).mono ?_
  rintro e w2 ⟨hb2,rfl⟩
  have HB2:Hid (Below w.heap.size w w2):=AA (HB1.out.trans (hb2.mono HB1.out.size))
  have Bq:=AA (CS.out.below hb2 CS.out.lt)
  clear hb2 c0
  have c0:=Bq.out.cell 0
  have c1:=Bq.out.cell 1
  have c2:=Bq.out.cell 2
  have hlt:=Bq.out.lt
  go_wp2_with fail
  go_ret3
  rw [HE.out,HE2.out]
  exact⟨rfl,HB2.out.alloc HB2.out.size _⟩
end
structure Zg (w:World) (h1 g:Nat) (y:Fy) (m:AP) (f:Bt) (c:Ai) (vF vS:Value) (pc:Nat) (st:Cm) (x:Ad) (l:List Nat):Prop where
 wk:D7 w h1 g y m f c vF vS (KR f.code.length st) st.shapes
 hx:f.code[pc]?=some x
 cur:st.shapes[pc]?=some st.shape
 f_:fu m f c (KR f.code.length st) st.shapes pc st.op l
 row:wQ m f c.AB pc st x
 low: ∀s∈st.shapes,s.size≤256
 few:f.code.length≤2048
 el:c.AB.length=f.code.length
 ins:Aq x=0
def Zh (h1 g:Nat) (y:Fy) (m:AP) (f:Bt) (c:Ai) (vF vS:Value) (pc:Nat) (st:Cm) (x:Ad) (w:World) (e:Ending) (w':World):Prop:=Below h1 w w'∧match EA m f c.AB pc st x with
 | .inl er=>e= .returned (.tuple #[.string Di,.int .i64 er])
 | .inr st'=>e= .returned (.tuple #[.string st'.shape,.int .i64 0])∧D7 w' h1 g y m f c vF vS (KR f.code.length st') st'.shapes
section
variable {h1 g:Nat} {y:Fy} {m:AP} {f:Bt} {c:Ai} {vF vS:Value} {fl:List Int} {sh:List ByteArray} {pc:Nat} {st:Cm} {x:Ad} {l:List Nat} {w:World}
theorem D7.Sc (h:D7 w h1 g y m f c vF vS fl sh) {p:Nat} {z:Ad} (hz:f.code[p]?=some z): ∃b o A d B e,y.code= .slice (some ⟨b,o,none⟩) f.code.length d∧w.cell? ⟨g,9,none⟩=some (.slice (some ⟨b,o,none⟩) f.code.length d)∧b<g∧
 w.cell? ⟨b,o+p*3,none⟩=some (.int .u8 (z.op.toNat:Int))∧w.cell? ⟨b,o+p*3+1,none⟩=some (.int .i64 z.a)∧w.cell? ⟨b,o+p*3+2,none⟩=some (.slice A z.l.length B)∧Rd.Gd z.a∧(Rd.i64.sl false).R w 0 g [.slice A z.l.length B] z.l∧e=p:=by
 obtain⟨A,d,ec,hcr⟩:=h.cd.cd
 obtain⟨b,o,Gb,GH,rfl,_,hb,h0,h1',h2,h3,h4⟩:=EP hcr hz
 exact⟨b,o,Gb,d,GH,p,ec,(h.blk.cell 9).trans (by rw [←ec];rfl),hb,h0,h1',h2,h3,h4,rfl⟩
theorem D7.BJ (h:D7 w h1 g y m f c vF vS fl sh) {p:Nat} {v:Int} (hp:c.AB[p]?=some v): ∃b o d,w.cell? ⟨g,12,none⟩=some (.slice (some ⟨b,o,none⟩) f.code.length d)∧w.cell? ⟨b,o+p,none⟩=some (.int .i64 v)∧b<h1:=by
 obtain⟨A,d,e,r⟩:=h.el
 obtain⟨b,o,rfl,hb,hc⟩:=Mj r hp
 exact⟨b,o,d,(h.blk.cell 12).trans (by rw [←e];rfl),hc,hb⟩
theorem Zg.top (h:Zg w h1 g y m f c vF vS pc st x l): ∃o r,st.op=o::r∧Bg st=o∧o.pc=EF l∧Nc m f st.shapes (KR f.code.length st) o∧o.base.size≤256∧o.s.p.size≤8∧o.s.r.size≤8∧o.base.size≤st.shape.size:=by
 obtain⟨o,r,e,_⟩:=h.row.ne
 have hl:BK st.op 0=some o:=by rw [e];rfl
 have ht:Bg st=o:=by unfold Bg;rw [e];rfl
 obtain⟨a,b⟩:=h.f_.at_ 0 o hl
 obtain⟨b1,b2,b3⟩:=h.row.ops o (by rw [e];exact List.mem_cons_self ..)
 exact⟨o,r,e,ht,a,b,b1,b2,b3,by have:=h.row.top;rwa [ht] at this⟩
theorem Sd (h:Zg w h1 g y m f c vF vS pc st x l) (hop:x.op.toNat=5∨x.op.toNat=6):
 Calls prog 90 #[.pointer (some ⟨g,0,none⟩),.int .i64 pc] w fun e w'=>Zh h1 g y m f c vF vS pc st x w e w':=by
 obtain⟨o,r,oV,Zi,epc,hok,z1,z2,z3,z4⟩:=h.top
 have H:=AA h;have Iw:=AA hok
 have hcl:Ah x.op=true:=decide_eq_true hop
 have HR:Hid (EA m f c.AB pc st x=if st.shape≠o.base++o.s.r then .inl 33 else
  if x.op.toNat=5 then .inr {st with shape:=o.base++o.s.p,dead:=false} else
  if o.o.toNat=4∧c.AB.getD o.pc.toNat (-1)<0∧o.s.p≠o.s.r then .inl 37 else
  .inr {st with op:=st.op.tail,dead:=false}):=AA (by unfold EA;rw [if_pos hcl,Zi])
 have hh:=h.wk.hh
 have bK:=AA hh
 have hcur:=(List.getElem?_eq_some_iff.1 h.cur).1
 have hpl:=(List.getElem?_eq_some_iff.1 h.hx).1
 have hp0:(0:Int)≤pc:=by omega
 have hp1:(pc:Int)<f.code.length:=by omega
 have hp2:(pc:Int)<st.shapes.length:=by omega
 obtain⟨b,ob,A,d,B,_,_,c9,hbg,x0,x1,x2,_,_,_⟩:=h.wk.Sc h.hx
 have hgl:=h.wk.blk.lt
 have hbl:b<w.heap.size:=by omega
 have hadd:binOp .add 9 (.string o.base) (.string o.s.r)=pure (.string (o.base++o.s.r)):=Fh _ _ _ (by omega)
 have hadp:binOp .add 9 (.string o.base) (.string o.s.p)=pure (.string (o.base++o.s.p)):=Fh _ _ _ (by omega)
 obtain⟨P,hP⟩: ∃P,o.pc=P:=⟨_,rfl⟩
 have Sg:Hid (EF l=P):=AA (by rw [←epc,hP])
 have HBS:Hid (∀W,Below w.heap.size w W→Calls prog 88 #[.pointer (some ⟨g,0,none⟩),.int .i64 P] W fun e w'=>e= .returned (.string o.base)∧ ∃k,w'=W.drewN k):=AA (fun W hW=>hP▸SY o W (H.out.wk.below hW) Iw.out H.out.low)
 have LQ:Hid (∀W,Below w.heap.size w W→Calls prog 89 #[.pointer (some ⟨g,0,none⟩),.int .i64 P] W fun e w'=>e= .returned (.agg #[.string o.s.p,.string o.s.r])∧Below W.heap.size W w'):=AA (fun W hW=>hP▸Kw o W (H.out.wk.below hW) Iw.out)
 have HP:=AA hP
 have HET:=AA Zi;have HEO:=AA oV
 clear h hok hcl oV Zi epc hP hpl hcur
 go_enter func90,ntmps90
 go_upto_region 2 with fail
 generalize hw1:w.alloc (.cells #[.int .u8 (x.op.toNat:Int),.int .i64 x.a,.slice A x.l.length B] 122)=w1
 obtain⟨hb1,c0,c1,c2,hx1⟩:=Sb hw1
 have HB1:=AA hb1;have CS:=AA hx1
 clear hw1 hb1 hx1 c1 c2 c9 x0 x1 x2 hbg hbl
 have HW1:=AA (H.out.wk.below HB1.out)
 obtain⟨b2,d2,e2,_,s2⟩:=HW1.out.cellS H.out.cur
 have q15:w1.cell? ⟨g,15,none⟩=some (.slice (some ⟨b2,0,none⟩) st.shapes.length d2):=by rw [←e2];exact HW1.out.blk.cell 15
 obtain⟨b3,o3,d3,e3,hc3⟩:=HW1.out.OZ H.out.f_.own
 have iW:w1.cell? ⟨g,13,none⟩=some (.slice (some ⟨b3,o3,none⟩) f.code.length d3):=(HW1.out.blk.cell 13).trans (by rw [←e3];rfl)
 have s3:=(hc3 pc _ H.out.f_.own).1
 rw [Sg.out] at s3
 clear e2 e3 hc3
 go_wp2_with fail
 refine(HBS.out w1 HB1.out).mono ?_
 rintro e w2 ⟨rfl,k,rfl⟩
 have HB2:Hid (Below w.heap.size w (w1.drewN k)):=AA (below_drewN HB1.out k)
 have Bq:=AA (CS.out.drewN k)
 clear c0 q15 s2 iW s3
 generalize w1.drewN k=w2 at*
 have c0:=Bq.out.q 0 rfl
 have key:(x.op.toNat=5∧((x.op.toNat:Int)==5)=true∧((x.op.toNat:Int)==6)=false)∨(x.op.toNat=6∧((x.op.toNat:Int)==5)=false∧((x.op.toNat:Int)==6)=true):=by
  rcases hop with e | e
  ·exact .inl ⟨e,by simp;omega,by simp;omega⟩
  ·exact .inr ⟨e,by simp;omega,by simp;omega⟩
 clear hop
 rcases key with⟨h56,q5,q6⟩ | ⟨h56,q5,q6⟩
 all_goals
  have H56:=AA h56
  clear h56
  go_wp2_with fail
  refine(LQ.out w2 HB2.out).mono ?_
  rintro e w3 ⟨rfl,hb3⟩
  have Nq:=AA (Bq.out.below hb3 Bq.out.lt)
  have HB3:Hid (Below w.heap.size w w3):=AA (HB2.out.trans (hb3.mono HB2.out.size))
  clear c0 hb3
  have c0:=Nq.out.q 0 rfl
  have hlt:=Nq.out.lt
  by_cases he:st.shape=o.base++o.s.r
 ·have e1:(st.shape.toList==(o.base++o.s.r).toList)=true:=by rw [he];simp
  have HE:=AA he
  clear he
  go_wp2_with fail
  go_ret2
  have V4:=HB3.out.alloc HB3.out.size (.cells #[.string o.s.p,.string o.s.r] 93)
  refine⟨V4.mono bK.out,?_⟩
  rw [HR.out,if_neg (fun hn=>hn HE.out),if_pos H56.out]
  exact⟨rfl,H.out.wk.below V4⟩
 ·have e1:(st.shape.toList==(o.base++o.s.r).toList)=false:=by
   rw [beq_eq_false_iff_ne]
   intro e
   rw [ByteArray.toList_eq,ByteArray.toList_eq] at e
   exact he (ByteArray.ext (Array.toList_inj.1 e))
  have HE:=AA he
  clear he
  go_wp2_with fail
  go_ret2
  have V4:=HB3.out.alloc HB3.out.size (.cells #[.string o.s.p,.string o.s.r] 93)
  refine⟨V4.mono bK.out,?_⟩
  rw [HR.out,if_pos HE.out]
  rfl
 ·have e1:(st.shape.toList==(o.base++o.s.r).toList)=true:=by rw [he];simp
  have HE:=AA he
  clear he
  rcases Iw.out with eb | ⟨p,n,z,s,a1,a2,a3,a4,a5,a6,a7,a8,a9,Wt,UZ,a12⟩
  ·have hP1:P= -1:=by rw [←HP.out,eb];rfl
   have hO4: ¬o.o.toNat=4:=by rw [eb];show ¬(0:UInt8).toNat=4;decide
   have hd0:decide (0≤P)=false:=by rw [hP1];rfl
   have HO4:=AA hO4
   clear eb hP1 hO4
   go_wp2_with fail
   go_ret2
   have V4:=HB3.out.alloc HB3.out.size (.cells #[.string o.s.p,.string o.s.r] 93)
   refine⟨V4.mono bK.out,?_⟩
   rw [HR.out,if_neg (fun hn=>hn HE.out),if_neg (by rw [H56.out];decide),if_neg (fun hn=>HO4.out hn.1)]
   exact⟨rfl,H.out.wk.below V4⟩
  ·have hP1:P=(p:Int):=by rw [←HP.out,a1]
   have V4:=HB3.out.alloc HB3.out.size (.cells #[.string o.s.p,.string o.s.r] 93)
   have oW:=AA V4
   have hWF:=H.out.wk.below HB3.out
   obtain⟨b4,o4,A4,d4,B4,_,_,k9,hb4,k0,_⟩:=hWF.Sc a3
   obtain⟨ev,hev⟩: ∃ev,c.AB[p]?=some ev:=⟨_,List.getElem?_eq_getElem (by rw [H.out.el];exact(List.getElem?_eq_some_iff.1 a3).1)⟩
   obtain⟨b5,o5,d5,k12,k5,hb5⟩:=hWF.BJ hev
   have lg:g<w3.heap.size:=by have:=hWF.gh;have:=hWF.hh;omega
   have lb4:b4<w3.heap.size:=by omega
   have lb5:b5<w3.heap.size:=by have:=hWF.hh;omega
   have HEV:Hid (c.AB.getD o.pc.toNat (-1)=ev):=AA (by rw [a1,Int.toNat_natCast,List.getD_eq_getElem?_getD,hev];rfl)
   have HOO:Hid (o.o.toNat=z.op.toNat):=AA (by rw [a5])
   have hp0':(0:Int)≤p:=by omega
   have hp1':(p:Int)<f.code.length:=by have:=(List.getElem?_eq_some_iff.1 a3).1;omega
   subst hP1
   have hd0:decide ((0:Int)≤p)=true:=decide_eq_true hp0'
   clear V4 hWF a1 a2 a3 a4 a5 a6 a7 a8 a9 Wt UZ a12 hev hb4 hb5
   by_cases h4:z.op.toNat=4
   ·have q4:((z.op.toNat:Int)==4)=true:=by simp;omega
    by_cases h0:ev<0
    ·have q0:decide (ev<0)=true:=decide_eq_true h0
     by_cases hpr:o.s.p=o.s.r
     ·have e2:(o.s.p.toList==o.s.r.toList)=true:=by rw [hpr];simp
      have rz:=AA hpr
      clear h4 h0 hpr
      go_wp2_with fail
      go_ret2
      refine⟨oW.out.mono bK.out,?_⟩
      rw [HR.out,if_neg (fun hn=>hn HE.out),if_neg (by rw [H56.out];decide),if_neg (fun hn=>hn.2.2 rz.out)]
      exact⟨rfl,H.out.wk.below oW.out⟩
     ·have e2:(o.s.p.toList==o.s.r.toList)=false:=by
       rw [beq_eq_false_iff_ne]
       intro e
       rw [ByteArray.toList_eq,ByteArray.toList_eq] at e
       exact hpr (ByteArray.ext (Array.toList_inj.1 e))
      have rz:=AA hpr;have H4:=AA h4;have H0:=AA h0
      clear h4 h0 hpr
      go_wp2_with fail
      go_ret2
      refine⟨oW.out.mono bK.out,?_⟩
      rw [HR.out,if_neg (fun hn=>hn HE.out),if_neg (by rw [H56.out];decide),if_pos ⟨HOO.out.trans H4.out,by rw [HEV.out];exact H0.out,rz.out⟩]
      rfl
    ·have q0:decide (ev<0)=false:=decide_eq_false h0
     have H0:=AA h0
     clear h4 h0
     go_wp2_with fail
     go_ret2
     refine⟨oW.out.mono bK.out,?_⟩
     rw [HR.out,if_neg (fun hn=>hn HE.out),if_neg (by rw [H56.out];decide),if_neg (fun hn=>by have h3:=hn.2.1;rw [HEV.out] at h3;have:=H0.out;omega)]
     exact⟨rfl,H.out.wk.below oW.out⟩
   ·have q4:((z.op.toNat:Int)==4)=false:=by simp;omega
    have H4:=AA h4
    clear h4
    go_wp2_with fail
    go_ret2
    refine⟨oW.out.mono bK.out,?_⟩
    rw [HR.out,if_neg (fun hn=>hn HE.out),if_neg (by rw [H56.out];decide),if_neg (fun hn=>H4.out (HOO.out▸hn.1))]
    exact⟨rfl,H.out.wk.below oW.out⟩
 ·have e1:(st.shape.toList==(o.base++o.s.r).toList)=false:=by
   rw [beq_eq_false_iff_ne]
   intro e
   rw [ByteArray.toList_eq,ByteArray.toList_eq] at e
   exact he (ByteArray.ext (Array.toList_inj.1 e))
  have HE:=AA he
  clear he
  go_wp2_with fail
  go_ret2
  have V4:=HB3.out.alloc HB3.out.size (.cells #[.string o.s.p,.string o.s.r] 93)
  refine⟨V4.mono bK.out,?_⟩
  rw [HR.out,if_pos HE.out]
  rfl
end
theorem Zk: ∀r∈Dk,r.pops.size≤8∧r.pushes.size≤8:=by
 have h:Dk.all (fun r=>decide (r.pops.size≤8∧r.pushes.size≤8))=true:=by kernel_rfl
 exact fun r hr=>of_decide_eq_true (List.all_eq_true.1 h r hr)
theorem Uz {ops:List Bo} (h: ∀o∈ops,o.s.p.size≤8∧o.s.r.size≤8) (n:Int):(GA ops n).size≤8:=by
 unfold GA BK
 split
 ·simp [Di]
 ·rename_i o ho
  split at ho
  ·have:=h o (List.mem_of_getElem? ho)
   unfold BZ;split
   ·exact this.1
   ·exact this.2
  ·cases ho
theorem Oj {ops:List Bo} (h: ∀o∈ops,o.s.p.size≤8∧o.s.r.size≤8) (x:Ad):(BI ops x).1.size≤8:=by
 unfold BI
 split
 ·split
  ·exact Uz h _
  ·simp [Di]
 split
 ·split
  ·exact Uz h _
  ·simp [Di]
 ·simp [Di]
theorem V9 {m:AP} {f:Bt} (x:Ad):(Bf m f x).1.size≤1:=by
 unfold Bf
 split
 ·split
  ·simp only [ByteArray.size_extract];omega
  ·simp [Di]
 split
 ·simp [Di]
 ·split
  ·simp [Di]
  ·show 1≤1;omega
theorem gB {m:AP} {f:Bt} {st:Cm} {x:Ad} (hm:J7 m) (ho: ∀o∈st.op,o.s.p.size≤8∧o.s.r.size≤8) (hs:st.shape.size≤256):(BN m f st x).1.size≤1000∧(BN m f st x).2.1.size≤1000:=by
 have hl:=Oj ho x
 have hle:=V9 (m:=m) (f:=f) x
 have ht:=Gs hm f.t
 have ha:(AV st).size≤256:=by rw [C_];omega
 unfold BN
 split
 ·exact⟨by simp [Di],by simp [Di]⟩
 rename_i r hr
 have hrr:=Zk r (JC hr).1
 split
 ·exact⟨by simp only [];omega,by simp only [];omega⟩
 split
 ·exact⟨by simp [Di],by simp [Di]⟩
 split
 ·split
  ·exact⟨by simp [Di],by simp [Di]⟩
  ·rename_i t hty
   have:=QX hm hty
   split
   ·refine⟨?_,by simp only [];omega⟩
    simp only [ByteArray.size_append]
    have:wS.size=1:=rfl
    omega
   split
   ·exact⟨by simp only [];omega,by simp only [];omega⟩
   ·exact⟨by simp only [];omega,by simp only [];omega⟩
 split
 ·exact⟨by simp only [];omega,by simp only [];omega⟩
 split
 ·refine⟨?_,by simp only [];omega⟩
  simp only [ByteArray.size_append]
  have:wS.size=1:=rfl
  omega
 split
 ·exact⟨by simp only [];omega,by simp only [];omega⟩
 split
 ·split
  ·exact⟨by show 1≤1000;omega,by simp [Di]⟩
  ·exact⟨by simp only [ByteArray.size_extract];omega,by simp [Di]⟩
 split
 ·split
  ·exact⟨by show 3≤1000;omega,by show 1≤1000;omega⟩
  ·have:wS.size=1:=rfl
   exact⟨by simp only [ByteArray.size_append,ByteArray.size_extract];omega,by simp only [ByteArray.size_extract];omega⟩
 split
 ·exact⟨by simp [Di],by simp only [];omega⟩
 split
 ·exact⟨by simp only [];omega,by simp only [];omega⟩
 ·exact⟨by simp only [];omega,by simp [Di]⟩
theorem r_ {n pc:Nat} {st:Cm} {k:Int} (h:pc<st.floors.length):KR n {st with floors:=st.floors.set pc k}=(KR n st).set pc k:=by
 unfold KR
 simp only [List.length_set]
 rw [List.set_append_left _ _ h]
section
variable {h1 g:Nat} {y:Fy} {m:AP} {f:Bt} {c:Ai} {vF vS:Value} {pc:Nat} {st:Cm} {x:Ad} {l:List Nat} {w:World}
theorem Zl (h:Zg w h1 g y m f c vF vS pc st x l) (hcl:Ah x.op=false) (A:Option Addr) (B:Nat) (hx:(Rd.i64.sl false).R w 0 g [.slice A x.l.length B] x.l) (hn: -9223372036854775808≤x.a∧x.a<9223372036854775808) (W:World) (hW:Below w.heap.size w W):
 Calls prog 115 #[.pointer (some ⟨g,0,none⟩),.int .i64 pc,.agg #[.int .u8 (x.op.toNat:Int),.int .i64 x.a,.slice A x.l.length B],.string (AV st)] W fun e w'=>e= .returned (Jq (BN m f st x))∧Below W.heap.size W w':=by
 have hwk:=h.wk.below hW
 have hcl': ¬(x.op.toNat=5∨x.op.toNat=6):=of_decide_eq_false hcl
 have hg:g≤w.heap.size:=Nat.le_of_lt (Nat.lt_of_lt_of_le h.wk.gh h.wk.hh)
 have J_:=h.few
 have hfo:=h.wk.md.ok.fns f (List.mem_of_getElem? h.wk.md.fn)
 have hlz:(C8 m f).size≤1000000:=by
  have:=hfo.loc
  unfold C8;rw [ByteArray.size_append];omega
 have hab:(AV st).size≤1000:=by rw [C_];have:=h.row.size;omega
 have hi:=h.ins
 unfold Aq at hi
 cases hr:Au x.op.toNat with
 | none=>rw [hr] at hi;cases hi
 | some r=>
  rw [hr] at hi
  dsimp only at hi
  have hmm:=JC hr
  cases hp:r.plain with
  | true=>exact Px x _ r _ _ W hr hp
  | false=>
   have hown:=Qz r hmm.1
   rw [hp,hmm.2] at hown
   have hown:ownB x.op.toNat=true:=by cases hh:ownB x.op.toNat with | true=>rfl | false=>rw [hh] at hown;cases hown
   have hown:=of_decide_eq_true hown
   by_cases c0:x.op.toNat=0
   ·exact Qq x _ _ _ W c0
   by_cases c1:x.op.toNat=2∨x.op.toNat=3∨x.op.toNat=4∨x.op.toNat=11∨x.op.toNat=12
   ·exact Py x _ _ _ W hwk c1 hn
   by_cases c2:x.op.toNat=7∨x.op.toNat=8∨x.op.toNat=9
   ·refine Od x A B g _ W hwk h.f_ c2 hn (Rd.below hx hW hg) (Nat.le_trans hg hW.size) (fun h9=> ?_) (by omega) (by have:=Oj (fun o ho=>(h.row.ops o ho).2) x;omega)
    have ht:(Au 9).map (·.takes)=some 3:=by kernel_rfl
    rw [←h9,hr] at ht
    have ht:r.takes=3:=by injection ht
    split at hi
    ·cases hi
    rw [if_neg (fun hn=>hn ht)] at hi
    split at hi
    ·cases hi
    rename_i hl
    split at hi
    ·rename_i hall
     exact⟨by omega,by omega,fun n hn=>of_decide_eq_true (List.all_eq_true.1 hall n hn)⟩
    ·cases hi
   by_cases c3:x.op.toNat=10
   ·exact Og x _ _ _ W hwk c3
   by_cases c4:x.op.toNat=16
   ·exact Qr x _ _ _ W c4 rfl hab
   by_cases c5:x.op.toNat=17
   ·exact Oh x _ _ _ W c5 rfl hab
   ·exact Oe x _ _ _ W hwk (by omega) hn hlz
theorem V_ (h:Zg w h1 g y m f c vF vS pc st x l) (hcl:Ah x.op=false):
 Calls prog 90 #[.pointer (some ⟨g,0,none⟩),.int .i64 pc] w fun e w'=>Zh h1 g y m f c vF vS pc st x w e w':=by
 obtain⟨o,r,oV,Zi,epc,hok,z1,z2,z3,z4⟩:=h.top
 have H:=AA h;have Iw:=AA hok
 obtain⟨po,pu,ee,hE⟩: ∃po pu ee,BN m f st x=(po,pu,ee):=⟨_,_,_,rfl⟩
 have HR:Hid (EA m f c.AB pc st x=if ee≠0 then .inl ee else if ends (AV st) po=false then .inl 33 else if 256<(st.shape.size-po.size)+pu.size then .inl 34 else
  .inr {st with shape:=st.shape.extract 0 (st.shape.size-po.size)++pu,dead:=DV x.op,op:=if BD x.op then⟨CG m x.a,pc,x.op,st.shape.extract 0 (st.shape.size-po.size)⟩::st.op else st.op,floors:=if BD x.op then st.floors.set pc ((st.shape.size-po.size:Nat):Int) else st.floors}):=AA (by
  unfold EA;rw [if_neg (by rw [hcl];decide),hE])
 obtain⟨p1,p2⟩:=gB (x:=x) h.wk.md.ok (fun o ho=>(h.row.ops o ho).2) h.row.size
 rw [hE] at p1 p2
 dsimp only at p1 p2
 have hsz:=h.row.size
 have ACk:AV st=st.shape.extract o.base.size st.shape.size:=by unfold AV;rw [Zi]
 have HAB:Hid ((AV st).size=st.shape.size-o.base.size):=AA (by rw [C_,Zi])
 have hh:=h.wk.hh
 have bK:=AA hh
 have hcur:=(List.getElem?_eq_some_iff.1 h.cur).1
 have hpl:=(List.getElem?_eq_some_iff.1 h.hx).1
 have hp0:(0:Int)≤pc:=by omega
 have hp1:(pc:Int)<f.code.length:=by omega
 have hp2:(pc:Int)<st.shapes.length:=by omega
 obtain⟨b,ob,A,d,B,_,_,c9,hbg,x0,x1,x2,x3,x4,_⟩:=h.wk.Sc h.hx
 have HEF:=AA (Zl h hcl A B x4 x3)
 have iX:=AA hE
 have hgl:=h.wk.blk.lt
 have hbl:b<w.heap.size:=by omega
 have hsl: ∀W,(Instr.slice 9 (.string st.shape) (some (.int .i64 (o.base.size:Int))) none none).run prog W= .ok (.string (AV st)) W:=fun W=>by
  rw [run_slice_string_from_if (P:=prog) W 9 st.shape .i64 _ underlying9,if_pos (by omega),Int.toNat_natCast,ACk]
 obtain⟨ab,hab⟩: ∃ab,AV st=ab:=⟨_,rfl⟩
 obtain⟨P,hP⟩: ∃P,o.pc=P:=⟨_,rfl⟩
 have Sg:Hid (EF l=P):=AA (by rw [←epc,hP])
 have HBS:Hid (∀W,Below w.heap.size w W→Calls prog 88 #[.pointer (some ⟨g,0,none⟩),.int .i64 P] W fun e w'=>e= .returned (.string o.base)∧ ∃k,w'=W.drewN k):=AA (fun W hW=>hP▸SY o W (H.out.wk.below hW) Iw.out H.out.low)
 have q56:((x.op.toNat:Int)==5)=false∧((x.op.toNat:Int)==6)=false:=by
  have:=of_decide_eq_false hcl
  exact⟨by simp;omega,by simp;omega⟩
 obtain⟨q5,q6⟩:=q56
 rw [hab] at HEF HR HAB hsl
 rw [hE] at HEF
 have hls:ab.size≤256:=by rw [HAB.out];omega
 clear h hok hcl oV Zi epc hP hpl hcur hab ACk hE x3 x4
 go_enter func90,ntmps90
 go_upto_region 2 with fail
 generalize hw1:w.alloc (.cells #[.int .u8 (x.op.toNat:Int),.int .i64 x.a,.slice A x.l.length B] 122)=w1
 obtain⟨hb1,c0,c1,c2,hx1⟩:=Sb hw1
 have HB1:=AA hb1;have CS:=AA hx1
 clear hw1 hb1 hx1 c1 c2 c9 x0 x1 x2 hbg hbl
 have HW1:=AA (H.out.wk.below HB1.out)
 obtain⟨b2,d2,e2,_,s2⟩:=HW1.out.cellS H.out.cur
 have q15:w1.cell? ⟨g,15,none⟩=some (.slice (some ⟨b2,0,none⟩) st.shapes.length d2):=by rw [←e2];exact HW1.out.blk.cell 15
 obtain⟨b3,o3,d3,e3,hc3⟩:=HW1.out.OZ H.out.f_.own
 have iW:w1.cell? ⟨g,13,none⟩=some (.slice (some ⟨b3,o3,none⟩) f.code.length d3):=(HW1.out.blk.cell 13).trans (by rw [←e3];rfl)
 have s3:=(hc3 pc _ H.out.f_.own).1
 rw [Sg.out] at s3
 clear e2 e3 hc3
 go_wp2_with fail
 refine(HBS.out w1 HB1.out).mono ?_
 rintro e w2 ⟨rfl,k,rfl⟩
 have HB2:Hid (Below w.heap.size w (w1.drewN k)):=AA (below_drewN HB1.out k)
 have Bq:=AA (CS.out.drewN k)
 clear c0 q15 s2 iW s3
 generalize w1.drewN k=w2 at*
 have c0:=Bq.out.q 0 rfl
 have c1:=Bq.out.q 1 rfl
 have c2:=Bq.out.q 2 rfl
 go_wp2_with fail
 refine(HEF.out w2 HB2.out).mono ?_
 rintro e w3 ⟨rfl,hb3⟩
 have Nq:=AA (Bq.out.below hb3 Bq.out.lt)
 have HB3:Hid (Below w.heap.size w w3):=AA (HB2.out.trans (hb3.mono HB2.out.size))
 clear c0 c1 c2 hb3 hsl
 dsimp only [Jq]
 by_cases hee:ee=0
 ·subst hee
  have HR1:=AA (HR.out.trans (if_neg (fun hn=>hn rfl)))
  clear HR
  cases hen:ends ab po with
  | false=>
   have lN:Hid (∀W,Calls prog 116 #[.string ab,.string po] W fun e w'=>W=w'∧e= .returned (.bool false)):=AA (fun W=>by have:=Xz ab po (by omega) (by omega) W;rw [hen] at this;exact this)
   have HR2:=AA (HR1.out.trans (if_pos hen))
   clear hen HR1
   go_wp2_with fail
   refine(lN.out w3).mono ?_
   rintro e w4 ⟨rfl,rfl⟩
   go_wp2_with fail
   go_ret2
   refine⟨HB3.out.mono bK.out,?_⟩
   rw [HR2.out]
   rfl
  | true=>
   have lN:Hid (∀W,Calls prog 116 #[.string ab,.string po] W fun e w'=>W=w'∧e= .returned (.bool true)):=AA (fun W=>by have:=Xz ab po (by omega) (by omega) W;rw [hen] at this;exact this)
   have HR2:=AA (HR1.out.trans (if_neg (by rw [hen];decide)))
   have hpo:po.size≤st.shape.size:=by have:=Kk ab po hen;rw [HAB.out] at this;omega
   clear hen HR1
   obtain⟨lf,hlf⟩: ∃lf,st.shape.extract 0 (st.shape.size-po.size)=lf:=⟨_,rfl⟩
   have hlz:lf.size=st.shape.size-po.size:=by rw [←hlf,ByteArray.size_extract];omega
   rw [hlf,←hlz] at HR2
   have HLF:Hid (∀W,(Instr.slice 9 (.string st.shape) none (some (.int .i64 ((st.shape.size:Int)-po.size))) none).run prog W= .ok (.string lf) W):=AA (fun W=>by
    rw [run_slice_string_to_if (P:=prog) W 9 st.shape .i64 _ underlying9,if_pos (by omega),show((st.shape.size:Int)-po.size).toNat=st.shape.size-po.size from by omega,hlf])
   have hsl:=HLF.out
   have hlfz:lf.size≤256:=by omega
   clear hlf hlz HLF
   have HOP:Hid (∀W,Calls prog 117 #[.int .u8 (x.op.toNat:Int)] W fun e w'=>W=w'∧e= .returned (.bool (BD x.op))):=AA (fun W=>DJ x.op.toNat x.op.toNat_lt W)
   have c0:=Nq.out.q 0 rfl
   cases hop:BD x.op with
   | false=>
    rw [hop] at HOP HR2
    clear hop
    by_cases hbig:256<lf.size+pu.size
    ·have hd:decide ((256:Int)<(lf.size:Int)+pu.size)=true:=decide_eq_true (by omega)
     have HR3:=AA (HR2.out.trans (if_pos hbig))
     clear hbig HR2
     go_wp2_with fail
     refine(lN.out w3).mono ?_
     rintro e w4 ⟨rfl,rfl⟩
     go_wp2_with fail
     refine(HOP.out w3).mono ?_
     rintro e w4 ⟨rfl,rfl⟩
     go_wp2_with fail
     go_ret2
     refine⟨HB3.out.mono bK.out,?_⟩
     rw [HR3.out]
     rfl
    ·have hd:decide ((256:Int)<(lf.size:Int)+pu.size)=false:=decide_eq_false (by omega)
     have hadd:binOp .add 9 (.string lf) (.string pu)=pure (.string (lf++pu)):=Fh _ _ _ (by omega)
     have HR3:=AA (HR2.out.trans (if_neg hbig))
     clear hbig HR2
     go_wp2_with fail
     refine(lN.out w3).mono ?_
     rintro e w4 ⟨rfl,rfl⟩
     go_wp2_with fail
     refine(HOP.out w3).mono ?_
     rintro e w4 ⟨rfl,rfl⟩
     go_wp2_with fail
     go_ret2
     refine⟨HB3.out.mono bK.out,?_⟩
     rw [HR3.out]
     exact⟨rfl,H.out.wk.below HB3.out⟩
   | true=>
    rw [hop] at HOP HR2
    clear hop
    have HW3:=AA (H.out.wk.below HB3.out)
    obtain⟨fv,dY⟩: ∃fv,(KR f.code.length st)[pc]?=some fv:=⟨_,List.getElem?_eq_getElem (by unfold KR;have:=H.out.row.fl;simp;omega)⟩
    have hfl0:pc<(KR f.code.length st).length:=(List.getElem?_eq_some_iff.1 dY).1
    obtain⟨b5,d5,e5,hb5,s5,f5⟩:=HW3.out.wR dY
    have q14:w3.cell? ⟨g,14,none⟩=some (.slice (some ⟨b5,0,none⟩) (KR f.code.length st).length d5):=by rw [←e5];exact HW3.out.blk.cell 14
    have hfl1:(pc:Int)<(KR f.code.length st).length:=by omega
    have HSF:Hid (D7 (w3.setCell ⟨b5,pc,none⟩ (.int .i64 (lf.size:Int))) h1 g y m f c vF vS ((KR f.code.length st).set pc (lf.size:Int)) st.shapes):=AA (HW3.out.setF e5 hb5 pc (lf.size:Int))
    have oW:Hid (Below h1 w (w3.setCell ⟨b5,pc,none⟩ (.int .i64 (lf.size:Int)))):=AA ((HB3.out.mono bK.out).setCell (p:=⟨b5,pc,none⟩) hb5 _)
    clear dY e5
    by_cases hbig:256<lf.size+pu.size
    ·have hd:decide ((256:Int)<(lf.size:Int)+pu.size)=true:=decide_eq_true (by omega)
     have HR3:=AA (HR2.out.trans (if_pos hbig))
     clear hbig HR2
     go_wp2_with fail
     refine(lN.out w3).mono ?_
     rintro e w4 ⟨rfl,rfl⟩
     go_wp2_with fail
     refine(HOP.out w3).mono ?_
     rintro e w4 ⟨rfl,rfl⟩
     go_wp2_with fail
     go_ret2
     refine⟨oW.out,?_⟩
     rw [HR3.out]
     rfl
    ·have hd:decide ((256:Int)<(lf.size:Int)+pu.size)=false:=decide_eq_false (by omega)
     have hadd:binOp .add 9 (.string lf) (.string pu)=pure (.string (lf++pu)):=Fh _ _ _ (by omega)
     have HR3:=AA (HR2.out.trans (if_neg hbig))
     clear hbig HR2
     go_wp2_with fail
     refine(lN.out w3).mono ?_
     rintro e w4 ⟨rfl,rfl⟩
     go_wp2_with fail
     refine(HOP.out w3).mono ?_
     rintro e w4 ⟨rfl,rfl⟩
     go_wp2_with fail
     go_ret2
     refine⟨oW.out,?_⟩
     rw [HR3.out]
     refine⟨rfl,?_⟩
     have:=HSF.out
     rw [←r_ (by have:=H.out.row.fl;omega)] at this
     exact this
 ·have q0:(ee !=0)=true:=by simpa using hee
  have HR1:=AA (HR.out.trans (if_pos hee))
  clear hee HR
  go_wp2_with fail
  go_ret2
  refine⟨HB3.out.mono bK.out,?_⟩
  rw [HR1.out]
  rfl
end
def sD (m:AP) (f:Bt) (w:World) (e:Ending) (w':World):Prop:=Below w.heap.size w w'∧ ∃g:Nat,match ctl f.code with
 | .inl x=>e= .returned (.tuple #[.pointer (some ⟨g,0,none⟩),.int .i64 x.1,.int .i64 x.2])
 | .inr c=>e= .returned (.tuple #[.pointer (some ⟨g,0,none⟩),.int .i64 0,.int .i64 0])∧ ∃h1 y vF,D7 w' h1 g y m f c vF (.slice none 0 0) (KR f.code.length (CO m f)) []∧w.heap.size≤g
def lQ (code:List Ad) (lo hi:Nat) (W:World) (AE AL AO:Option Addr) (nE nL nO cE cL cO:Nat) (e1 e2:Int):Prop:=match ctl code with
 | .inl x=>e1=x.1∧e2=x.2
 | .inr c=>e1=0∧e2=0∧(nE=code.length∧(Rd.i64.sl false).R W lo hi [.slice AE code.length cE] c.ends)∧(nL=code.length∧(Rd.i64.sl false).R W lo hi [.slice AL code.length cL] c.AB)∧(nO=code.length∧(Rd.i64.sl false).R W lo hi [.slice AO code.length cO] c.BF)
theorem zG {code:List Ad} {w w':World} {e:Ending} (h:Jr code w e w'): ∃AE AL AO nE nL nO cE cL cO e1 e2,e= .returned (.tuple #[.slice AE nE cE,.slice AL nL cL,.slice AO nO cO,.int .i64 e1,.int .i64 e2])∧lQ code w.heap.size w'.heap.size w' AE AL AO nE nL nO cE cL cO e1 e2:=by
 unfold Jr at h
 unfold lQ
 cases hc:ctl code with
 | inl x=>rw [hc] at h;exact⟨_,_,_,_,_,_,_,_,_,_,_,h,rfl,rfl⟩
 | inr c=>
  rw [hc] at h
  obtain⟨A1,c1,A2,c2,A3,c3,he,a,b,d⟩:=h
  exact⟨_,_,_,_,_,_,_,_,_,_,_,he,rfl,rfl,⟨rfl,a⟩,⟨rfl,b⟩,⟨rfl,d⟩⟩
structure ACm (w6:World) (g:Nat) (y:Fy) (A:Option Addr) (d j:Nat) (wr:World):Prop where
 blk:AQ wr g 152 (wkC y (.slice A j d) (.slice none 0 0))
 own:wr.ownsRow w6.heap.size 3 1 (.slice A j d) j (List.replicate j (iv (-1)))
 kp:Keep (fun q=>q≠g∧q<w6.heap.size) w6 wr
theorem sF (cs:List Value) (hi:Nat) (m:AP) (k:Nat) (f:Bt) (w:World) (h:Db.R w 0 hi cs m) (hhi:hi≤w.heap.size) (hm:J7 m) (hk:m.fns[k]?=some f):
 Calls prog 86 #[.agg cs.toArray,.int .i64 k] w fun e w'=>sD m f w e w':=by
 have H:=AA h;have HM:=AA hm;have CJ:=AA hhi;have WC:=AA hk
 obtain⟨v1,v2,v3,v4,v5,v6,rfl,h0,h1,h2,_,_,h5,_,_⟩:=Av.1 h
 obtain⟨A5,c5,rfl⟩:=AJ h5
 obtain⟨A0,c0,rfl⟩:=AJ h0
 obtain⟨bf,of,Jm,KP,fU,_,hbf,hf0,hf1,hf2,hfB,yV,iT⟩:=FN h5 hk
 subst fU
 have wN:=AA iT
 have hfo:=hm.fns f (List.mem_of_getElem? hk)
 have hlt:=(List.getElem?_eq_some_iff.1 hk).1
 have hk0:(0:Int)≤k:=by omega
 have hk1:(k:Int)<m.fns.length:=by omega
 obtain⟨t,ht⟩: ∃t:Nat,f.t=(t:Int):=⟨f.t.toNat,by have:=hfo.t0;omega⟩
 have htl:t<m.types.length:=by have:=hfo.t1;omega
 obtain⟨ty,hty⟩: ∃ty,m.types[t]?=some ty:=⟨_,List.getElem?_eq_getElem htl⟩
 obtain⟨bt,ot,X3,_,hbt,ht0,ht1,htp,htr⟩:=DN h0 hty
 subst X3
 have JN:CG m f.t=ty:=by rw [ht];exact FI hty
 have HLV:Hid (C8 m f=ty.p++f.loc):=AA (by unfold C8;rw [JN])
 have hloc:f.loc.size+ty.p.size≤64:=by have:=hfo.loc;rw [JN] at this;exact this
 have hadd:binOp .add 9 (.string ty.p) (.string f.loc)=pure (.string (ty.p++f.loc)):=Fh _ _ _ (by omega)
 have J_:=hfo.few
 have qz:(0:Int)≤t:=by omega
 have rA:(t:Int)<m.types.length:=by omega
 rw [ht] at hf0
 obtain⟨i0,hi0,hz0,hs0,Xx⟩:=info_parts JG
 have HI:=AA hi0;have HZ:=AA hz0;have HS:=AA hs0;have bC:=AA Xx
 have lbt:bt<w.heap.size:=Nat.lt_of_lt_of_le hbt hhi
 have oO:bf<w.heap.size:=Nat.lt_of_lt_of_le hbf hhi
 clear h hm hk h0 h1 h2 h5 iT hfo JN ht hty hi0 hz0 hs0 Xx hfB yV htp htr hbt hbf ht1 hhi htl hlt hloc
 go_enter func86,ntmps86
 go_upto_region 1 with fail
 generalize hw1:w.alloc (.cells #[.slice (some ⟨bt,ot,none⟩) m.types.length c0,v2,v3,.int .i64 m.first,.int .i64 m.most,.slice (some ⟨bf,of,none⟩) m.fns.length c5,v5,v6] 29)=w1
 have hb1:Below w.heap.size w w1:=by rw [←hw1];exact(Below.refl _ _).alloc (Nat.le_refl _) _
 have CS:Hid (AQ w1 w.heap.size 29 [.slice (some ⟨bt,ot,none⟩) m.types.length c0,v2,v3,.int .i64 m.first,.int .i64 m.most,.slice (some ⟨bf,of,none⟩) m.fns.length c5,v5,v6]):=AA (by rw [←hw1];exact AQ.new w 29 _)
 have hz1:w1.heap.size=w.heap.size+1:=by rw [←hw1];simp
 have hf0:=(hb1.cell oO (p:=⟨bf,of+k*3,none⟩)).trans hf0
 have hf1:=(hb1.cell oO (p:=⟨bf,of+k*3+1,none⟩)).trans hf1
 have hf2:=(hb1.cell oO (p:=⟨bf,of+k*3+2,none⟩)).trans hf2
 have ht0:=(hb1.cell lbt (p:=⟨bt,ot+t*2,none⟩)).trans ht0
 have q5:=CS.out.q 5 rfl
 have HB1:=AA hb1
 clear hw1 hb1
 go_upto_region 2 with fail
 generalize hw2:w1.alloc (.cells #[.int .i64 t,.string f.loc,.slice Jm f.code.length KP] 96)=w2
 have hb2:Below w1.heap.size w1 w2:=by rw [←hw2];exact(Below.refl _ _).alloc (Nat.le_refl _) _
 have Bq:=AA (CS.out.below hb2 CS.out.lt)
 have Jo:Hid (AQ w2 (w.heap.size+1) 96 [.int .i64 t,.string f.loc,.slice Jm f.code.length KP]):=AA (by rw [←hw2,←hz1];exact AQ.new w1 96 _)
 have hz2:w2.heap.size=w.heap.size+2:=by rw [←hw2];simp;omega
 have HB2:Hid (Below w.heap.size w w2):=AA (HB1.out.trans (hb2.mono HB1.out.size))
 have ht0:=(hb2.cell (Nat.lt_of_lt_of_le lbt HB1.out.size) (p:=⟨bt,ot+t*2,none⟩)).trans ht0
 clear hw2 hb2 hf0 hf1 hf2 q5
 try rw [hz1]
 have q0:=Bq.out.q 0 rfl
 have q1:=Bq.out.q 1 rfl
 have q2:=Bq.out.q 2 rfl
 have q3:=Bq.out.q 3 rfl
 have q4:=Bq.out.q 4 rfl
 have q5:=Bq.out.q 5 rfl
 have q6:=Bq.out.q 6 rfl
 have q7:=Bq.out.q 7 rfl
 have r0:=Jo.out.q 0 rfl
 have r1:=Jo.out.q 1 rfl
 have r2:=Jo.out.q 2 rfl
 clear hz1
 go_still_tail 15,(by kernel_rfl)
 repeat still_step
 try refine wpStill_nil ?_
 change wpList _ _ _ _ _ w2.drew
 have HB3:Hid (Below w.heap.size w w2.drew):=AA (below_drewN HB2.out 1)
 have TR:Hid (AQ w2.drew (w.heap.size+1) 96 [.int .i64 t,.string f.loc,.slice Jm f.code.length KP]):=AA Jo.out
 have hz3:w2.drew.heap.size=w.heap.size+2:=hz2
 clear q0 q1 q2 q3 q4 q5 q6 q7 r0 r1 r2 ht0 hz2 Bq Jo HB2
 generalize w2.drew=w3 at*
 go_upto_region 3 with fail
 generalize hw4:w3.alloc (.cells #[.slice (some ⟨bt,ot,none⟩) m.types.length c0,v2,v3,.int .i64 m.first,.int .i64 m.most,.slice (some ⟨bf,of,none⟩) m.fns.length c5,v5,v6,.int .i64 k,.slice Jm f.code.length KP,.string (ty.p++f.loc),.slice none 0 0,.slice none 0 0,.slice none 0 0,.slice none 0 0,.slice none 0 0] 152)=w4
 have hb4:Below w3.heap.size w3 w4:=by rw [←hw4];exact(Below.refl _ _).alloc (Nat.le_refl _) _
 have WE:Hid (AQ w4 (w.heap.size+2) 152 [.slice (some ⟨bt,ot,none⟩) m.types.length c0,v2,v3,.int .i64 m.first,.int .i64 m.most,.slice (some ⟨bf,of,none⟩) m.fns.length c5,v5,v6,.int .i64 k,.slice Jm f.code.length KP,.string (ty.p++f.loc),.slice none 0 0,.slice none 0 0,.slice none 0 0,.slice none 0 0,.slice none 0 0]):=AA (by rw [←hw4,←hz3];exact AQ.new w3 152 _)
 have X6:=AA (TR.out.below hb4 TR.out.lt)
 have Ct:Hid (Below w.heap.size w w4):=AA (HB3.out.trans (hb4.mono HB3.out.size))
 clear hw4 hb4 hz3 TR HB3
 have r2:=X6.out.q 2 rfl
 go_wp2_with fail
 refine(lM Jm KP hi f.code w4 (Rd.below wN.out Ct.out CJ.out) (Nat.le_trans CJ.out Ct.out.size) (by omega)).mono ?_
 rintro e w5 ⟨hb5,iY⟩
 obtain⟨AE,AL,AO,nE,nL,nO,cE,cL,cO,e1,e2,rfl,wV⟩:=zG iY
 have HMI:=AA wV
 have PG:=AA (WE.out.below hb5 WE.out.lt)
 have wO:=AA (X6.out.below hb5 X6.out.lt)
 have Dv:Hid (Below w.heap.size w w5):=AA (Ct.out.trans (hb5.mono Ct.out.size))
 have HZ4:=AA WE.out.lt
 clear hb5 iY wV r2
 have g11:=PG.out.q 11 rfl
 have g12:=PG.out.q 12 rfl
 have g13:=PG.out.q 13 rfl
 have f11:=PG.out.frozen 11
 have f12:=PG.out.frozen 12
 have f13:=PG.out.frozen 13
 go_upto_region 7 with fail
 have hg6:=((PG.out.set 11 (.slice AE nE cE)).set 12 (.slice AL nL cL)).set 13 (.slice AO nO cO)
 have L8:Keep (fun q=>q≠w.heap.size+2) w5 (((w5.setCell ⟨w.heap.size+2,11,none⟩ (.slice AE nE cE)).setCell ⟨w.heap.size+2,12,none⟩ (.slice AL nL cL)).setCell ⟨w.heap.size+2,13,none⟩ (.slice AO nO cO)):=
  (((Keep.refl _ _).setCell (p:=⟨w.heap.size+2,11,none⟩) (by simp) _).setCell (p:=⟨w.heap.size+2,12,none⟩) (by simp) _).setCell (p:=⟨w.heap.size+2,13,none⟩) (by simp) _
 have oZ:(((w5.setCell ⟨w.heap.size+2,11,none⟩ (.slice AE nE cE)).setCell ⟨w.heap.size+2,12,none⟩ (.slice AL nL cL)).setCell ⟨w.heap.size+2,13,none⟩ (.slice AO nO cO)).heap.size=w5.heap.size:=by simp
 generalize ((w5.setCell ⟨w.heap.size+2,11,none⟩ (.slice AE nE cE)).setCell ⟨w.heap.size+2,12,none⟩ (.slice AL nL cL)).setCell ⟨w.heap.size+2,13,none⟩ (.slice AO nO cO)=w6 at hg6 L8 oZ⊢
 obtain⟨Y,hY⟩: ∃Y:Fy,Y=⟨.slice (some ⟨bt,ot,none⟩) m.types.length c0,v2,v3,.int .i64 m.first,.int .i64 m.most,.slice (some ⟨bf,of,none⟩) m.fns.length c5,v5,v6,k,ty.p++f.loc,.slice Jm f.code.length KP,.slice AE nE cE,.slice AL nL cL,.slice AO nO cO⟩:=⟨_,rfl⟩
 have HY:=AA hY
 have HG6:Hid (AQ w6 (w.heap.size+2) 152 (wkC Y (.slice none 0 0) (.slice none 0 0))):=AA (by rw [hY];exact hg6)
 have HF6:=AA (wO.out.keep L8 (by omega))
 have Ul:=AA L8
 have HZ6:=AA oZ
 have hl6:w.heap.size+2<w6.heap.size:=HG6.out.lt
 have EL:Hid (Below w.heap.size w w6):=AA (Dv.out.trans (L8.below Dv.out.size (fun q hq=>by omega)))
 clear hg6 L8 oZ hY g11 g12 g13 f11 f12 f13
 go_wp2_with fail
 go_loopw [14] (fun i wr=> ∃(j:Nat) (A:Option Addr) (d:Nat),j≤f.code.length∧i= .int .i64 j∧ACm w6 (w.heap.size+2) Y A d j wr) (fun i _=>f.code.length-(intOf i).toNat)
 case atStart=>exact⟨0,none,0,Nat.zero_le _,rfl,HG6.out,World.ownsRow_nil _ _ _ _,Keep.refl _ _⟩
 case round=>
  obtain⟨j,A,d,hj,rfl,hin⟩:=hrel
  have EU:=AA hin
  have HFr:=AA (HF6.out.keep hin.kp ⟨by omega,HF6.out.lt⟩)
  have r2:=HFr.out.q 2 rfl
  have ACG:=hin.kp.size
  clear hin
  by_cases hlt:j<f.code.length
  ·have g14:=EU.out.blk.q 14 rfl
   have hba:Below wr.heap.size wr (wr.alloc (.cells #[iv (-1)] 3)):=(Below.refl _ _).alloc (Nat.le_refl _) _
   have HO:=AA (row_one wr (iv (-1)) 3)
   have HOA:=AA (EU.out.own.alloc (.cells #[iv (-1)] 3))
   have HGA:=AA (EU.out.blk.below hba EU.out.blk.lt)
   clear hba
   go_wp2_with (at_builtin;refine D_ _ rfl (.tmp 68) (.tmp 69) 23 rfl w6.heap.size 3 i0 _ 8 underlying23 HI.out HZ.out HS.out bC.out rfl (.slice A j d) j (List.replicate j (iv (-1))) rfl HOA.out (wr.heap.size+1) _ 1 1 [iv (-1)] rfl rfl (by exact HO.out) (by intro u hu;simp at hu;subst hu;rfl) (by unfold maxLen;omega) (by omega) (by simp;omega) ?_;intro A2 c2 w7 h2 h3 h4;have H2:=AA h2;have H3:=AA h3;have H4:=AA h4;have HG7:=AA (Ay h3 HGA.out (A_ HOA.out HGA.out (by decide)));have g14:=HG7.out.q 14 rfl;have f14:=HG7.out.frozen 14;clear h2 h3 h4)
   refine⟨⟨j+1,A2,c2,by omega,by go_num,?_,?_,?_⟩,by simp [intOf];omega⟩
   ·exact HG7.out.set 14 (.slice A2 (j+1) c2)
   ·have:=JX H2.out (p:=⟨w.heap.size+2,14,none⟩) hl6 (.slice A2 (j+1) c2)
    rw [Oi] at this
    exact this
   ·refine Keep.setCell (Keep.grown (EU.out.kp.alloc _) H3.out (fun q hq hK=> ?_)) (p:=⟨w.heap.size+2,14,none⟩) (fun hK=>hK.1 rfl) _
    have:=(HOA.out.lt q hq).1
    omega
  ·obtain rfl:f.code.length=j:=by omega
   go_wp2_with fail
   go_ret3
   have V4:Below w.heap.size w wr:=EL.out.trans (EU.out.kp.below EL.out.size (fun q hq=>⟨by omega,by have:=EL.out.size;omega⟩))
   refine⟨V4,w.heap.size+2,?_⟩
   have wV:=HMI.out
   unfold lQ at wV
   cases hc:ctl f.code with
   | inl q=>
    rw [hc] at wV
    obtain⟨rfl,rfl⟩:=wV
    rfl
   | inr c=>
    rw [hc] at wV
    obtain⟨rfl,rfl,⟨rfl,m1⟩,⟨rfl,m2⟩,⟨rfl,m3⟩⟩:=wV
    refine⟨rfl,w6.heap.size,Y,.slice A f.code.length d,?_,by omega⟩
    have hY:=HY.out
    subst hY
    have hz5:w5.heap.size=w6.heap.size:=HZ6.out.symm
    have mv: ∀ {A:Option Addr} {n c:Nat} {xs:List Int},(Rd.i64.sl false).R w5 w4.heap.size w5.heap.size [.slice A n c] xs→(Rd.i64.sl false).R wr (w.heap.size+2+1) w6.heap.size [.slice A n c] xs:=fun {A n c xs} hr=>by
     have h6:=Rd.CB hr Ul.out (Nat.le_refl _) (fun q h1 _=>by have:=HZ4.out;show q≠_;omega)
     have hr':=Rd.CB h6 EU.out.kp (by omega) (fun q h1 h2=>⟨by have:=HZ4.out;omega,by omega⟩)
     exact Rd.more _ HZ4.out (by omega) hr'
    have mw: ∀ {α:Type} {r:Rd α} {cs:List Value} {x:α},r.R w 0 hi cs x→r.R wr 0 (w.heap.size+2) cs x:=fun {α r cs x} hr=>by
     have h6:=Rd.below hr EL.out CJ.out
     have:=CJ.out
     have hr':=Rd.CB h6 EU.out.kp (by omega) (fun q h1 h2=>⟨by omega,by omega⟩)
     exact Rd.more _ (Nat.le_refl _) (by omega) hr'
    refine⟨EU.out.blk,⟨mw H.out,WC.out,HM.out⟩,⟨⟨Jm,KP,rfl,mw wN.out⟩⟩,⟨AE,cE,rfl,mv m1⟩,⟨AL,cL,rfl,mv m2⟩,⟨AO,cO,rfl,mv m3⟩,HLV.out.symm,?_,World.ownsRow_nil _ _ _ _,hl6,EU.out.kp.size⟩
    have hfl:KR f.code.length (CO m f)=List.replicate f.code.length (-1):=by simp [KR,CO]
    rw [hfl,List.length_replicate,List.map_replicate]
    exact EU.out.own
def bV (f:Bt) (j:Nat):Bool:=match j with
 | 0=>false
 | k+1=>match f.code[k]? with
  | none=>false
  | some z=>DV z.op
theorem Zq {m:AP} {f:Bt} {AB:List Int} {j:Nat} {st st':Cm} {x:Ad} (hx:f.code[j]?=some x) (h:ED m f AB j st x= .inr st'):st'.dead=bV f (j+1):=by
 unfold bV
 simp only [hx]
 unfold ED at h
 cases hb:Ch st x with
 | inl e=>rw [hb] at h;cases h
 | inr st1=>
  rw [hb] at h
  dsimp only at h
  unfold EA at h
  split at h
  ·rename_i hc
   have ha:DV x.op=false:=by
    have:=of_decide_eq_true hc
    unfold DV;exact decide_eq_false (by omega)
   split at h
   ·cases h
   split at h
   ·injection h with h;subst h;exact ha.symm
   split at h
   ·cases h
   ·injection h with h;subst h;exact ha.symm
  ·split at h
   ·cases h
   split at h
   ·cases h
   split at h
   ·cases h
   ·injection h with h;subst h;rfl
theorem gT {n:Nat} {st:Cm} (h:st.floors.length<n):KR n (Co st)=KR n st:=by
 unfold KR Co
 simp only [List.length_append,List.length_cons,List.length_nil,List.append_assoc]
 congr 1
 obtain⟨d,hd⟩: ∃d,n-st.floors.length=d+1:=⟨n-st.floors.length-1,by omega⟩
 rw [hd,List.replicate_succ,show n-(st.floors.length+(0+1))=d from by omega]
 rfl
theorem mF {n:Nat} {st:Cm} {p:Nat} (h:p<st.floors.length):(KR n st)[p]?=st.floors[p]?:=by
 unfold KR;rw [List.getElem?_append_left h]
theorem mG {n:Nat} {st:Cm} (h:st.floors.length=n):KR n st=st.floors:=by
 unfold KR;rw [h,Nat.sub_self];simp
theorem zX {n:Nat} {st st':Cm} (h:st'.floors=st.floors):KR n st'=KR n st:=by unfold KR;rw [h]
structure YJ (w wr:World) (h1 g:Nat) (y:Fy) (m:AP) (f:Bt) (c:Ai) (j:Nat) (sc:Ai) (st:Cm) (vF vS:Value):Prop where
 lock:Lock m f c j sc st
 go:PV m f c.AB (f.code.length-j) st=PV m f c.AB f.code.length (CO m f)
 wk:D7 wr h1 g y m f c vF vS (KR f.code.length st) st.shapes
 dead:st.dead=bV f j
 Ep:Below w.heap.size w wr
 res:AQ wr (w.heap.size+1) 107 [.slice none 0 0,.slice none 0 0,.slice none 0 0,.slice none 0 0,.int .i64 0]
 gg:w.heap.size+1<g
section
variable {w wr w':World} {h1 g:Nat} {y:Fy} {m:AP} {f:Bt} {c:Ai} {j:Nat} {sc:Ai} {st st1:Cm} {vF vS:Value} {x:Ad}
theorem sZ (hm:J7 m) (hf:XI m f) (hc:ctl f.code= .inr c) (h:Lock m f c j sc st) (hx:f.code[j]?=some x) (hb:Ch st x= .inr st1) (hw:D7 wr h1 g y m f c vF vS (KR f.code.length st) (st.shapes++ [st1.shape])):
 Zg wr h1 g y m f c vF vS j (Co st1) x sc.op:=by
 obtain⟨n1,n2,n3,n4,n5,n6,n7,n8,n9,n10⟩:=Rk h.val hb
 obtain⟨b1,b2,b3,b4,b5,b6⟩:=PW h.val hb
 have hlt:=(List.getElem?_eq_some_iff.1 hx).1
 have hfl:st1.floors.length<f.code.length:=by rw [b3,h.val.floors];exact hlt
 have e1:KR f.code.length (Co st1)=KR f.code.length st:=(gT hfl).trans (zX b3)
 have e2:(Co st1).shapes=st.shapes++ [st1.shape]:=by show st1.shapes++ [st1.shape]=_;rw [b2]
 refine⟨by rw [e1,e2];exact hw,hx,n4,⟨h.owner hx,h.xQ,by have:=h.ok.few;omega,fun n=>by rw [n1];exact h.rY hx n,fun n q hq=> ?_⟩,h.row hm hc hx hb,n8,hf.few,(Pt hc).AB,hf.ins x (List.mem_of_getElem? hx)⟩
 rw [n1] at hq
 obtain⟨a1,a2⟩:=h.rZ hx hq
 exact⟨a2,(n7 q a1).keep (Nat.le_refl _) (fun p hp=>rfl) (fun p hp=>mF (by rw [n3];rw [n2] at hp;exact hp))⟩
theorem mH {l:List Nat} {pc:Nat} (h:Zg w h1 g y m f c vF vS pc st x l):
 Calls prog 90 #[.pointer (some ⟨g,0,none⟩),.int .i64 pc] w fun e w'=>Zh h1 g y m f c vF vS pc st x w e w':=by
 cases hc:Ah x.op with
 | true=>exact Sd h (of_decide_eq_true hc)
 | false=>exact V_ h hc
theorem YJ.next (hm:J7 m) (hf:XI m f) (h:YJ w wr h1 g y m f c j sc st vF vS) (hx:f.code[j]?=some x) {st':Cm} {vS':Value} (hs:ED m f c.AB j st x= .inr st') (hb:Below w.heap.size w w') (hr:AQ w' (w.heap.size+1) 107 [.slice none 0 0,.slice none 0 0,.slice none 0 0,.slice none 0 0,.int .i64 0])
 (hw:D7 w' h1 g y m f c vF vS' (KR f.code.length st') st'.shapes): ∃sc',YJ w w' h1 g y m f c (j+1) sc' st' vF vS':=by
 obtain⟨sc',_,hk⟩:=h.lock.step hx
 exact⟨sc',hk hm (hf.ins x (List.mem_of_getElem? hx)) c.AB st' hs,by rw [←X_ hx hs];exact h.go,hw,Zq hx hs,hb,hr,h.gg⟩
theorem YJ.stop (hc:ctl f.code= .inr c) (h:YJ w wr h1 g y m f c j sc st vF vS) (hx:f.code[j]?=some x) {e:Int} (hs:ED m f c.AB j st x= .inl e):Fv m f= .inl (e,(j:Int)):=by
 unfold Fv
 rw [hc]
 simp only []
 rw [←h.go,RF hx hs]
theorem YJ.done (hc:ctl f.code= .inr c) (h:YJ w wr h1 g y m f c f.code.length sc st vF vS):Fv m f= .inr ⟨st.shapes,c.ends,c.AB,st.floors,st.high⟩:=by
 unfold Fv
 rw [hc]
 simp only []
 rw [←h.go,Nat.sub_self]
 rfl
end
end Go.Proofs.YtlagonfamllgjaaGreatDoor
