/- Part 27 of the proof: R10I R10J R10K -/
import Derived.Test.YtlagonfamllgjaaGreatDoorK26
namespace Go.Proofs.YtlagonfamllgjaaGreatDoor
set_option linter.unusedVariables false
set_option linter.unusedSimpArgs false
set_option maxRecDepth 100000
set_option maxHeartbeats 4000000
open Go.RowKit Tryz
def yZ (o:Option Cg) (n:Nat):ByteArray×ByteArray×Int:=match o with
 | none=>(Dm,Dm,30)
 | some t=>if n=4 then(t.p++wS,t.p,0) else if n<4 then(t.p,t.p,0) else(t.p,t.r,0)
def KO (a:ByteArray×ByteArray×Int):Value:= .tuple #[.string a.1,.string a.2.1,.int .i64 a.2.2]
theorem Mr {op:Nat} {r:ZL} {b:Bool} (hr:Aq op=some r) (hp:r.plain=b) (hop:op<256) (W:World):
 Calls prog 145 #[.int .u8 (op:Int)] W fun e w'=>Below W.heap.size W w'∧e= .returned (.tuple #[.agg #[.int .u8 (r.op:Nat),.string r.word,.int .i8 r.takes,.string r.pops,.string r.pushes,.bool b],.bool true]):=by
 have h:=WC op W hop
 unfold En at h
 rw [hr] at h
 subst hp
 exact h
theorem Qy {m:AP} (hm:Kc m) {x:Ad} {t:Cg} (h:CO m x=some t):t.p.size≤8∧t.r.size≤8:=by
 unfold CO at h
 split at h
 ·split at h
  ·injection h with h;rw [←h];exact IL hm _
  ·cases h
 split at h
 ·split at h
  ·injection h with h;rw [←h];exact IL hm _
  ·cases h
 ·split at h
  ·injection h with h;rw [←h];exact IL hm _
  ·cases h
theorem uj {m:AP} {f:Bv} {st:Cn} {x:Ad} {r:ZL} (hr:Aq x.op.toNat=some r) (hp:r.plain=true):BI m f st x=(r.pops,r.pushes,0):=by
 unfold BI;rw [hr];simp only [hp,if_true]
theorem TL {w w1:World} {t:TypeId} {a b v:Value} (h:w.alloc (.cells #[a,b,v] t)=w1):Below w.heap.size w w1∧w1.cell? ⟨w.heap.size,0,none⟩=some a∧w1.cell? ⟨w.heap.size,1,none⟩=some b∧w1.cell? ⟨w.heap.size,2,none⟩=some v∧AQ w1 w.heap.size t [a,b,v]:=by
 have hb:=AQ.new w t [a,b,v]
 change AQ (w.alloc (.cells #[a,b,v] t)) _ _ _ at hb
 rw [h] at hb
 exact⟨by rw [←h];exact(Below.refl _ _).alloc (Nat.le_refl _) _,hb.cell 0,hb.cell 1,hb.cell 2,hb⟩
section
variable {h1 g:Nat} {y:Fy} {m:AP} {f:Bv} {c:Ai} {vF vS:Value} {fl:List Int} {sh:List ByteArray} {pc:Nat} {st:Cn} {l:List Nat}
theorem QT (x:Ad) (v:Value) (r:ZL) (ab:ByteArray) (p:Int) (w:World) (hr:Aq x.op.toNat=some r) (hp:r.plain=true):
 Calls prog 115 #[.pointer (some ⟨g,0,none⟩),.int .i64 p,.agg #[.int .u8 (x.op.toNat:Int),.int .i64 x.a,v],.string ab] w fun e w'=>e= .returned (KO (BI m f st x))∧Below w.heap.size w w':=by
 have HE:=AA (uj (m:=m) (f:=f) (st:=st) hr hp)
 have KR:=AA (Mr hr hp x.op.toNat_lt)
 clear hr hp
 go_enter func115,ntmps115
 go_upto_region 1 with fail
 generalize hw1:w.alloc (.cells #[.int .u8 (x.op.toNat:Int),.int .i64 x.a,v] 122)=w1
 have HB1:Hid (Below w.heap.size w w1):=AA (by rw [←hw1];exact(Below.refl _ _).alloc (Nat.le_refl _) _)
 have c0:w1.cell? ⟨w.heap.size,0,none⟩=some (.int .u8 (x.op.toNat:Int)):=by rw [←hw1];exact(AQ.new w 122 _).cell 0
 clear hw1
 go_wp2_with fail
 refine(KR.out w1).mono ?_
 rintro e w2 ⟨hb2,rfl⟩
 have HB2:Hid (Below w.heap.size w w2):=AA (HB1.out.trans (hb2.mono HB1.out.size))
 clear hb2 c0
 go_wp2_with fail
 go_quiet (fail)
 go_wp2_with fail
 go_ret3
 rw [HE.out]
 exact⟨rfl,below_drewN (HB2.out.alloc HB2.out.size _) _⟩
theorem QU (x:Ad) (v:Value) (ab:ByteArray) (p:Int) (w:World) (h:Dt w h1 g y m f c vF vS fl sh) (hop:x.op.toNat=2∨x.op.toNat=3∨x.op.toNat=4∨x.op.toNat=11∨x.op.toNat=12) (hn: -9223372036854775808≤x.a∧x.a<9223372036854775808):
 Calls prog 115 #[.pointer (some ⟨g,0,none⟩),.int .i64 p,.agg #[.int .u8 (x.op.toNat:Int),.int .i64 x.a,v],.string ab] w fun e w'=>e= .returned (KO (BI m f st x))∧Below w.heap.size w w':=by
 have H:=AA h
 have L8: ∀W,Dt W h1 g y m f c vF vS fl sh→Calls prog 146 #[.pointer (some ⟨g,0,none⟩),.agg #[.int .u8 (x.op.toNat:Int),.int .i64 x.a,v]] W fun e w'=>e= .returned (VI (CO m x))∧Below W.heap.size W w':=fun W hW=>by
  exact AAE x v W hW (by omega) hn
 obtain⟨r,hr,Og⟩: ∃r,Aq x.op.toNat=some r∧r.plain=false:=by
  have:((Aq x.op.toNat).map (·.plain))=some false:=by rcases hop with e | e | e | e | e<;>(rw [e];kernel_rfl)
  obtain⟨r,h1,h2⟩:=Option.map_eq_some_iff.1 this
  exact⟨r,h1,h2⟩
 have HE:Hid (BI m f st x=yZ (CO m x) x.op.toNat):=AA (by
  unfold BI yZ
  rw [hr]
  simp only [Og,Bool.false_eq_true,if_false]
  rw [if_neg (by omega),if_pos (by omega)]
  cases CO m x<;>rfl)
 have KR:=Mr hr Og x.op.toNat_lt
 clear h hn hr Og
 obtain⟨N,hN⟩: ∃N,x.op.toNat=N:=⟨_,rfl⟩
 have hd2:Hid (N=2∨N=3∨N=4∨N=11∨N=12):=AA (hN▸hop)
 rw [hN] at HE L8 KR⊢
 clear hop hN
 have L8:=AA L8;have KR:=AA KR
 rcases hd2.out with rfl | rfl | rfl | rfl | rfl
 all_goals
  clear hd2
  go_enter func115,ntmps115
  go_upto_region 1 with fail
  generalize hw1:w.alloc (.cells #[_,.int .i64 x.a,v] 122)=w1
  obtain⟨hb1,c0,c1,c2,hx1⟩:=TL hw1
  have HB1:=AA hb1;have CX:=AA hx1
  clear hw1 hb1 hx1 c1 c2
  go_wp2_with fail
  refine(KR.out w1).mono ?_
  rintro e w2 ⟨hb2,rfl⟩
  have HB2:Hid (Below w.heap.size w w2):=AA (HB1.out.trans (hb2.mono HB1.out.size))
  have CV:=AA (CX.out.below hb2 CX.out.lt)
  clear hb2 c0
  have c0:=CV.out.cell 0
  have c1:=CV.out.cell 1
  have c2:=CV.out.cell 2
  have hlt:=CV.out.lt
  go_wp2_with fail
  generalize hw3:w2.alloc _=w3
  have hb3:Below w2.heap.size w2 w3:=by rw [←hw3];exact(Below.refl _ _).alloc (Nat.le_refl _) _
  have HB3:Hid (Below w.heap.size w w3):=AA (HB2.out.trans (hb3.mono HB2.out.size))
  have OT:=AA (CV.out.below hb3 CV.out.lt)
  clear hw3 hb3 c0 c1 c2 hlt
  refine(L8.out w3 (H.out.below HB3.out)).mono ?_
  rintro e w4 ⟨rfl,hb4⟩
  have C9:Hid (Below w.heap.size w w4):=AA (HB3.out.trans (hb4.mono HB3.out.size))
  have PK:=AA (OT.out.below hb4 OT.out.lt)
  clear hb4
  have c0:=PK.out.cell 0
  have hlt:=PK.out.lt
  cases hty:CO m x with
  | none=>
   rw [hty] at HE
   clear hty
   dsimp only [VI]
   go_wp2_with fail
   go_ret3
   rw [HE.out]
   exact⟨rfl,C9.out.alloc C9.out.size _⟩
  | some t=>
   rw [hty] at HE
   have ht8:=(Qy H.out.md.ok hty).1
   have hadd:binOp .add 9 (.string t.p) (.string ⟨#[119]⟩)=pure (.string (t.p++⟨#[119]⟩)):=GR _ _ _ (by show t.p.size+1≤_;omega)
   clear hty ht8
   dsimp only [VI]
   go_wp2_with fail
   go_quiet (fail)
   go_wp2_with fail
   go_ret3
   rw [HE.out]
   exact⟨rfl,below_drewN (C9.out.alloc C9.out.size _) _⟩
end
def nM (a:ByteArray×Int) (n:Nat):ByteArray×ByteArray×Int:=if n=7 then(a.1,a.1,a.2) else(a.1++wS,a.1,a.2)
def nN (a:ByteArray×Int) (n:Nat):ByteArray×ByteArray×Int:=if n=18∨n=21 then(Dm,a.1,a.2) else if n=20 then(a.1,a.1,a.2) else(a.1,Dm,a.2)
def WM (a:ByteArray):ByteArray×ByteArray×Int:=if a.size=0 then(wS,Dm,0) else(a.extract (a.size-1) a.size,Dm,0)
def WO (a:ByteArray):ByteArray×ByteArray×Int:=if a.size<3 then(⟨#[119,119,119]⟩,wS,0) else(a.extract (a.size-2) (a.size-1)++a.extract (a.size-2) (a.size-1)++wS,a.extract (a.size-2) (a.size-1),0)
section
variable {h1 g:Nat} {y:Fy} {m:AP} {f:Bv} {c:Ai} {vF vS:Value} {fl:List Int} {sh:List ByteArray} {pc:Nat} {st:Cn} {l:List Nat}
theorem PN (x:Ad) (A:Option Addr) (d hi:Nat) (ab:ByteArray) (w:World) (h:Dt w h1 g y m f c vF vS fl sh) (hb:g_ m f c fl sh pc st.op l) (hop:x.op.toNat=7∨x.op.toNat=8∨x.op.toNat=9) (hn: -9223372036854775808≤x.a∧x.a<9223372036854775808) (hx:(Rd.i64.sl false).R w 0 hi [.slice A x.l.length d] x.l) (hhi:hi≤w.heap.size) (hne:x.op.toNat=9→1≤x.l.length∧x.l.length≤1000∧ ∀n∈x.l,0≤n∧n≤2147483647) (hm:f.code.length≤1000000) (hsz:(BH st.op x).1.size≤1000):
 Calls prog 115 #[.pointer (some ⟨g,0,none⟩),.int .i64 pc,.agg #[.int .u8 (x.op.toNat:Int),.int .i64 x.a,.slice A x.l.length d],.string ab] w fun e w'=>e= .returned (KO (BI m f st x))∧Below w.heap.size w w':=by
 have H:=AA h
 have L8: ∀W,Below w.heap.size w W→Calls prog 147 #[.pointer (some ⟨g,0,none⟩),.int .i64 pc,.agg #[.int .u8 (x.op.toNat:Int),.int .i64 x.a,.slice A x.l.length d]] W fun e w'=>e= .returned (.tuple #[.string (BH st.op x).1,.int .i64 (BH st.op x).2])∧Below W.heap.size W w':=fun W hW=>by
  by_cases h9:x.op.toNat=9
  ·exact OU x A d hi W (h.below hW) hb h9 (Rd.below hx hW hhi) (Nat.le_trans hhi hW.size) (hne h9).1 (hne h9).2.1 (hne h9).2.2 hm
  ·exact QS x _ W (h.below hW) hb h9 hn hm
 obtain⟨r,hr,Og⟩: ∃r,Aq x.op.toNat=some r∧r.plain=false:=by
  have:((Aq x.op.toNat).map (·.plain))=some false:=by rcases hop with e | e | e<;>(rw [e];kernel_rfl)
  obtain⟨r,h1,h2⟩:=Option.map_eq_some_iff.1 this
  exact⟨r,h1,h2⟩
 have HE:Hid (BI m f st x=nM (BH st.op x) x.op.toNat):=AA (by
  unfold BI nM
  rw [hr]
  simp only [Og,Bool.false_eq_true,if_false]
  rw [if_neg (by omega),if_neg (by omega)]
  by_cases h7:x.op.toNat=7
  ·rw [if_pos h7,if_pos h7]
  ·rw [if_neg h7,if_neg h7,if_pos (by omega)])
 have KR:=Mr hr Og x.op.toNat_lt
 clear hr Og
 obtain⟨N,hN⟩: ∃N,x.op.toNat=N:=⟨_,rfl⟩
 have hd2:Hid (N=7∨N=8∨N=9):=AA (hN▸hop)
 rw [hN] at HE KR L8⊢
 clear hop hN
 have KR:=AA KR
 have L8:=AA L8
 have hadd:binOp .add 9 (.string (BH st.op x).1) (.string ⟨#[119]⟩)=pure (.string ((BH st.op x).1++⟨#[119]⟩)):=GR _ _ _ (by show(BH st.op x).1.size+1≤_;omega)
 clear h hb hn hx hne hm hsz
 rcases hd2.out with rfl | rfl | rfl
 all_goals
  clear hd2
  go_enter func115,ntmps115
  go_upto_region 1 with fail
  generalize hw1:w.alloc (.cells #[_,.int .i64 x.a,_] 122)=w1
  obtain⟨hb1,c0,c1,c2,hx1⟩:=TL hw1
  have HB1:=AA hb1;have CX:=AA hx1
  clear hw1 hb1 hx1 c1 c2
  go_wp2_with fail
  refine(KR.out w1).mono ?_
  rintro e w2 ⟨hb2,rfl⟩
  have HB2:Hid (Below w.heap.size w w2):=AA (HB1.out.trans (hb2.mono HB1.out.size))
  have CV:=AA (CX.out.below hb2 CX.out.lt)
  clear hb2 c0
  have c0:=CV.out.cell 0
  have c1:=CV.out.cell 1
  have c2:=CV.out.cell 2
  have hlt:=CV.out.lt
  go_wp2_with fail
  generalize hw3:w2.alloc _=w3
  have hb3:Below w2.heap.size w2 w3:=by rw [←hw3];exact(Below.refl _ _).alloc (Nat.le_refl _) _
  have HB3:Hid (Below w.heap.size w w3):=AA (HB2.out.trans (hb3.mono HB2.out.size))
  have OT:=AA (CV.out.below hb3 CV.out.lt)
  clear hw3 hb3 c0 c1 c2 hlt
  refine(L8.out w3 HB3.out).mono ?_
  rintro e w4 ⟨rfl,hb4⟩
  have C9:Hid (Below w.heap.size w w4):=AA (HB3.out.trans (hb4.mono HB3.out.size))
  have PK:=AA (OT.out.below hb4 OT.out.lt)
  clear hb4
  have c0:=PK.out.cell 0
  go_wp2_with fail
  go_ret3
  rw [HE.out]
  exact⟨rfl,C9.out⟩
theorem PO (x:Ad) (v:Value) (ab:ByteArray) (p:Int) (w:World) (h:Dt w h1 g y m f c vF vS fl sh) (hop:x.op.toNat=18∨x.op.toNat=19∨x.op.toNat=20∨x.op.toNat=21∨x.op.toNat=22) (hn: -9223372036854775808≤x.a∧x.a<9223372036854775808) (hl:(CS m f).size≤1000000):
 Calls prog 115 #[.pointer (some ⟨g,0,none⟩),.int .i64 p,.agg #[.int .u8 (x.op.toNat:Int),.int .i64 x.a,v],.string ab] w fun e w'=>e= .returned (KO (BI m f st x))∧Below w.heap.size w w':=by
 have H:=AA h
 have L8: ∀W,Below w.heap.size w W→Calls prog 148 #[.pointer (some ⟨g,0,none⟩),.agg #[.int .u8 (x.op.toNat:Int),.int .i64 x.a,v]] W fun e w'=>e= .returned (.tuple #[.string (BR m f x).1,.int .i64 (BR m f x).2])∧Below W.heap.size W w':=fun W hW=>by
  by_cases h21:x.op.toNat=21∨x.op.toNat=22
  ·exact PI x v W (h.below hW) h21 hn
  ·exact QN x v W (h.below hW) (by omega) hn hl
 obtain⟨r,hr,Og⟩: ∃r,Aq x.op.toNat=some r∧r.plain=false:=by
  have:((Aq x.op.toNat).map (·.plain))=some false:=by rcases hop with e | e | e | e | e<;>(rw [e];kernel_rfl)
  obtain⟨r,h1,h2⟩:=Option.map_eq_some_iff.1 this
  exact⟨r,h1,h2⟩
 have HE:Hid (BI m f st x=nN (BR m f x) x.op.toNat):=AA (by
  unfold BI nN
  rw [hr]
  simp only [Og,Bool.false_eq_true,if_false]
  rw [if_neg (by omega),if_neg (by omega),if_neg (by omega),if_neg (by omega),if_neg (by omega),if_neg (by omega),if_neg (by omega)])
 have KR:=Mr hr Og x.op.toNat_lt
 clear hr Og
 obtain⟨N,hN⟩: ∃N,x.op.toNat=N:=⟨_,rfl⟩
 have hd2:Hid (N=18∨N=19∨N=20∨N=21∨N=22):=AA (hN▸hop)
 rw [hN] at HE KR L8⊢
 clear hop hN
 have KR:=AA KR
 have L8:=AA L8
 clear h hn hl
 rcases hd2.out with rfl | rfl | rfl | rfl | rfl
 all_goals
  clear hd2
  go_enter func115,ntmps115
  go_upto_region 1 with fail
  generalize hw1:w.alloc (.cells #[_,.int .i64 x.a,_] 122)=w1
  obtain⟨hb1,c0,c1,c2,hx1⟩:=TL hw1
  have HB1:=AA hb1;have CX:=AA hx1
  clear hw1 hb1 hx1 c1 c2
  go_wp2_with fail
  refine(KR.out w1).mono ?_
  rintro e w2 ⟨hb2,rfl⟩
  have HB2:Hid (Below w.heap.size w w2):=AA (HB1.out.trans (hb2.mono HB1.out.size))
  have CV:=AA (CX.out.below hb2 CX.out.lt)
  clear hb2 c0
  have c0:=CV.out.cell 0
  have c1:=CV.out.cell 1
  have c2:=CV.out.cell 2
  have hlt:=CV.out.lt
  go_wp2_with fail
  generalize hw3:w2.alloc _=w3
  have hb3:Below w2.heap.size w2 w3:=by rw [←hw3];exact(Below.refl _ _).alloc (Nat.le_refl _) _
  have HB3:Hid (Below w.heap.size w w3):=AA (HB2.out.trans (hb3.mono HB2.out.size))
  have OT:=AA (CV.out.below hb3 CV.out.lt)
  clear hw3 hb3 c0 c1 c2 hlt
  refine(L8.out w3 HB3.out).mono ?_
  rintro e w4 ⟨rfl,hb4⟩
  have C9:Hid (Below w.heap.size w w4):=AA (HB3.out.trans (hb4.mono HB3.out.size))
  have PK:=AA (OT.out.below hb4 OT.out.lt)
  clear hb4
  have c0:=PK.out.cell 0
  go_wp2_with fail
  go_ret3
  rw [HE.out]
  exact⟨rfl,C9.out⟩
theorem RH (x:Ad) (v:Value) (ab:ByteArray) (p:Int) (w:World) (hop:x.op.toNat=0):
 Calls prog 115 #[.pointer (some ⟨g,0,none⟩),.int .i64 p,.agg #[.int .u8 (x.op.toNat:Int),.int .i64 x.a,v],.string ab] w fun e w'=>e= .returned (KO (BI m f st x))∧Below w.heap.size w w':=by
 obtain⟨r,hr,Og⟩: ∃r,Aq x.op.toNat=some r∧r.plain=false:=by
  have:((Aq x.op.toNat).map (·.plain))=some false:=by rw [hop];kernel_rfl
  obtain⟨r,h1,h2⟩:=Option.map_eq_some_iff.1 this
  exact⟨r,h1,h2⟩
 have HE:Hid (BI m f st x=(Dm,Dm,0)):=AA (by
  unfold BI
  rw [hr]
  simp only [Og,Bool.false_eq_true,if_false]
  rw [if_pos hop])
 have KR:=Mr hr Og x.op.toNat_lt
 clear hr Og
 obtain⟨N,hN⟩: ∃N,x.op.toNat=N:=⟨_,rfl⟩
 have hd2:Hid (N=0):=AA (hN▸hop)
 rw [hN] at KR⊢
 clear hop hN
 have KR:=AA KR
 obtain rfl:=hd2.out
 clear hd2
 go_enter func115,ntmps115
 go_upto_region 1 with fail
 generalize hw1:w.alloc (.cells #[_,.int .i64 x.a,_] 122)=w1
 obtain⟨hb1,c0,c1,c2,hx1⟩:=TL hw1
 have HB1:=AA hb1;have CX:=AA hx1
 clear hw1 hb1 hx1 c1 c2
 go_wp2_with fail
 refine(KR.out w1).mono ?_
 rintro e w2 ⟨hb2,rfl⟩
 have HB2:Hid (Below w.heap.size w w2):=AA (HB1.out.trans (hb2.mono HB1.out.size))
 have CV:=AA (CX.out.below hb2 CX.out.lt)
 clear hb2 c0
 have c0:=CV.out.cell 0
 have c1:=CV.out.cell 1
 have c2:=CV.out.cell 2
 have hlt:=CV.out.lt
 go_wp2_with fail
 go_ret3
 rw [HE.out]
 exact⟨rfl,HB2.out.alloc HB2.out.size _⟩
theorem PS (x:Ad) (v:Value) (ab:ByteArray) (p:Int) (w:World) (h:Dt w h1 g y m f c vF vS fl sh) (hop:x.op.toNat=10):
 Calls prog 115 #[.pointer (some ⟨g,0,none⟩),.int .i64 p,.agg #[.int .u8 (x.op.toNat:Int),.int .i64 x.a,v],.string ab] w fun e w'=>e= .returned (KO (BI m f st x))∧Below w.heap.size w w':=by
 have H:=AA h
 have L8:Hid (∀W,Below w.heap.size w W→Calls prog 114 #[.pointer (some ⟨g,0,none⟩)] W fun e w'=>e= .returned (.string (B_ m f.t).r)∧ ∃k,w'=W.drewN k):=AA (fun W hW=>Qx W (H.out.below hW).blk (H.out.below hW).md)
 obtain⟨r,hr,Og⟩: ∃r,Aq x.op.toNat=some r∧r.plain=false:=by
  have:((Aq x.op.toNat).map (·.plain))=some false:=by rw [hop];kernel_rfl
  obtain⟨r,h1,h2⟩:=Option.map_eq_some_iff.1 this
  exact⟨r,h1,h2⟩
 have HE:Hid (BI m f st x=((B_ m f.t).r,(B_ m f.t).r,0)):=AA (by
  unfold BI
  rw [hr]
  simp only [Og,Bool.false_eq_true,if_false]
  rw [if_neg (by omega),if_neg (by omega),if_neg (by omega),if_neg (by omega),if_pos hop])
 have KR:=Mr hr Og x.op.toNat_lt
 clear hr Og
 obtain⟨N,hN⟩: ∃N,x.op.toNat=N:=⟨_,rfl⟩
 have hd2:Hid (N=10):=AA (hN▸hop)
 rw [hN] at KR⊢
 clear hop hN
 have KR:=AA KR
 obtain rfl:=hd2.out
 clear h
 clear hd2
 go_enter func115,ntmps115
 go_upto_region 1 with fail
 generalize hw1:w.alloc (.cells #[_,.int .i64 x.a,_] 122)=w1
 obtain⟨hb1,c0,c1,c2,hx1⟩:=TL hw1
 have HB1:=AA hb1;have CX:=AA hx1
 clear hw1 hb1 hx1 c1 c2
 go_wp2_with fail
 refine(KR.out w1).mono ?_
 rintro e w2 ⟨hb2,rfl⟩
 have HB2:Hid (Below w.heap.size w w2):=AA (HB1.out.trans (hb2.mono HB1.out.size))
 have CV:=AA (CX.out.below hb2 CX.out.lt)
 clear hb2 c0
 have c0:=CV.out.cell 0
 have c1:=CV.out.cell 1
 have c2:=CV.out.cell 2
 have hlt:=CV.out.lt
 go_wp2_with fail
 generalize hw3:w2.alloc _=w3
 have hb3:Below w2.heap.size w2 w3:=by rw [←hw3];exact(Below.refl _ _).alloc (Nat.le_refl _) _
 have HB3:Hid (Below w.heap.size w w3):=AA (HB2.out.trans (hb3.mono HB2.out.size))
 have OT:=AA (CV.out.below hb3 CV.out.lt)
 clear hw3 hb3 c0 c1 c2 hlt
 refine(L8.out w3 HB3.out).mono ?_
 rintro e w4 ⟨rfl,k,rfl⟩
 go_wp2_with fail
 refine(L8.out (w3.drewN k) (below_drewN HB3.out k)).mono ?_
 rintro e w5 ⟨rfl,k',rfl⟩
 go_wp2_with fail
 go_ret3
 rw [HE.out]
 exact⟨rfl,below_drewN HB3.out _⟩
theorem RI (x:Ad) (v:Value) (ab:ByteArray) (p:Int) (w:World) (hop:x.op.toNat=16) (hab:AX st=ab) (hz:ab.size≤1000):
 Calls prog 115 #[.pointer (some ⟨g,0,none⟩),.int .i64 p,.agg #[.int .u8 (x.op.toNat:Int),.int .i64 x.a,v],.string ab] w fun e w'=>e= .returned (KO (BI m f st x))∧Below w.heap.size w w':=by
 obtain⟨r,hr,Og⟩: ∃r,Aq x.op.toNat=some r∧r.plain=false:=by
  have:((Aq x.op.toNat).map (·.plain))=some false:=by rw [hop];kernel_rfl
  obtain⟨r,h1,h2⟩:=Option.map_eq_some_iff.1 this
  exact⟨r,h1,h2⟩
 have HE:Hid (BI m f st x=WM ab):=AA (by
  unfold BI
  rw [hr]
  simp only [Og,Bool.false_eq_true,if_false]
  rw [if_neg (by omega),if_neg (by omega),if_neg (by omega),if_neg (by omega),if_neg (by omega),if_pos hop,hab]
  rfl)
 have KR:=Mr hr Og x.op.toNat_lt
 clear hr Og
 obtain⟨N,hN⟩: ∃N,x.op.toNat=N:=⟨_,rfl⟩
 have hd2:Hid (N=16):=AA (hN▸hop)
 rw [hN] at KR⊢
 clear hop hN
 have KR:=AA KR
 obtain rfl:=hd2.out
 clear hab
 by_cases h0:ab.size=0
 ·have HE2:Hid (WM ab=(wS,Dm,0)):=AA (if_pos h0)
  have e0:ab.toList= []:=by rw [ByteArray.toList_eq];exact List.length_eq_zero_iff.1 (by rw [Array.length_toList];exact h0)
  clear h0
  clear hd2
  go_enter func115,ntmps115
  go_upto_region 1 with fail
  generalize hw1:w.alloc (.cells #[_,.int .i64 x.a,_] 122)=w1
  obtain⟨hb1,c0,c1,c2,hx1⟩:=TL hw1
  have HB1:=AA hb1;have CX:=AA hx1
  clear hw1 hb1 hx1 c1 c2
  go_wp2_with fail
  refine(KR.out w1).mono ?_
  rintro e w2 ⟨hb2,rfl⟩
  have HB2:Hid (Below w.heap.size w w2):=AA (HB1.out.trans (hb2.mono HB1.out.size))
  have CV:=AA (CX.out.below hb2 CX.out.lt)
  clear hb2 c0
  have c0:=CV.out.cell 0
  have c1:=CV.out.cell 1
  have c2:=CV.out.cell 2
  have hlt:=CV.out.lt
  go_wp2_with fail
  go_ret3
  rw [HE.out,HE2.out]
  exact⟨rfl,HB2.out.alloc HB2.out.size _⟩
 ·have HE2:Hid (WM ab=(ab.extract (ab.size-1) ab.size,Dm,0)):=AA (if_neg h0)
  have en: ¬ab.toList= []:=fun e=>h0 (by rw [ByteArray.toList_eq] at e;have:=congrArg List.length e;rw [Array.length_toList] at this;exact this)
  have e0:(!ab.toList.isEmpty)=true:=by cases hh:ab.toList with | nil=>exact absurd hh en | cons _ _=>rfl
  have e1:(ab.toList== [])=false:=by cases hh:ab.toList with | nil=>exact absurd hh en | cons _ _=>rfl
  have hs1:1≤ab.size:=by omega
  have hsl: ∀W,(Instr.slice 9 (.string ab) (some (.int .i64 ((ab.size:Int)-1))) none none).run prog W= .ok (.string (ab.extract (ab.size-1) ab.size)) W:=by
   intro W
   rw [run_slice_string_from_if (P:=prog) W 9 ab .i64 _ underlying9,if_pos (by omega)]
   rw [show((ab.size:Int)-1).toNat=ab.size-1 from by omega]
  clear h0 en
  clear hd2
  go_enter func115,ntmps115
  go_upto_region 1 with fail
  generalize hw1:w.alloc (.cells #[_,.int .i64 x.a,_] 122)=w1
  obtain⟨hb1,c0,c1,c2,hx1⟩:=TL hw1
  have HB1:=AA hb1;have CX:=AA hx1
  clear hw1 hb1 hx1 c1 c2
  go_wp2_with fail
  refine(KR.out w1).mono ?_
  rintro e w2 ⟨hb2,rfl⟩
  have HB2:Hid (Below w.heap.size w w2):=AA (HB1.out.trans (hb2.mono HB1.out.size))
  have CV:=AA (CX.out.below hb2 CX.out.lt)
  clear hb2 c0
  have c0:=CV.out.cell 0
  have c1:=CV.out.cell 1
  have c2:=CV.out.cell 2
  have hlt:=CV.out.lt
  go_wp2_with fail
  go_ret3
  rw [HE.out,HE2.out]
  exact⟨rfl,HB2.out.alloc HB2.out.size _⟩
theorem PU (x:Ad) (v:Value) (ab:ByteArray) (p:Int) (w:World) (hop:x.op.toNat=17) (hab:AX st=ab) (hz:ab.size≤1000):
 Calls prog 115 #[.pointer (some ⟨g,0,none⟩),.int .i64 p,.agg #[.int .u8 (x.op.toNat:Int),.int .i64 x.a,v],.string ab] w fun e w'=>e= .returned (KO (BI m f st x))∧Below w.heap.size w w':=by
 obtain⟨r,hr,Og⟩: ∃r,Aq x.op.toNat=some r∧r.plain=false:=by
  have:((Aq x.op.toNat).map (·.plain))=some false:=by rw [hop];kernel_rfl
  obtain⟨r,h1,h2⟩:=Option.map_eq_some_iff.1 this
  exact⟨r,h1,h2⟩
 have HE:Hid (BI m f st x=WO ab):=AA (by
  unfold BI
  rw [hr]
  simp only [Og,Bool.false_eq_true,if_false]
  rw [if_neg (by omega),if_neg (by omega),if_neg (by omega),if_neg (by omega),if_neg (by omega),if_neg (by omega),if_pos hop,hab]
  rfl)
 have KR:=Mr hr Og x.op.toNat_lt
 clear hr Og
 obtain⟨N,hN⟩: ∃N,x.op.toNat=N:=⟨_,rfl⟩
 have hd2:Hid (N=17):=AA (hN▸hop)
 rw [hN] at KR⊢
 clear hop hN
 have KR:=AA KR
 obtain rfl:=hd2.out
 clear hab
 by_cases h0:ab.size<3
 ·have HE2:Hid (WO ab=(⟨#[119,119,119]⟩,wS,0)):=AA (if_pos h0)
  have e0:decide ((ab.size:Int)<3)=true:=decide_eq_true (by omega)
  clear h0
  clear hd2
  go_enter func115,ntmps115
  go_upto_region 1 with fail
  generalize hw1:w.alloc (.cells #[_,.int .i64 x.a,_] 122)=w1
  obtain⟨hb1,c0,c1,c2,hx1⟩:=TL hw1
  have HB1:=AA hb1;have CX:=AA hx1
  clear hw1 hb1 hx1 c1 c2
  go_wp2_with fail
  refine(KR.out w1).mono ?_
  rintro e w2 ⟨hb2,rfl⟩
  have HB2:Hid (Below w.heap.size w w2):=AA (HB1.out.trans (hb2.mono HB1.out.size))
  have CV:=AA (CX.out.below hb2 CX.out.lt)
  clear hb2 c0
  have c0:=CV.out.cell 0
  have c1:=CV.out.cell 1
  have c2:=CV.out.cell 2
  have hlt:=CV.out.lt
  go_wp2_with fail
  go_ret3
  rw [HE.out,HE2.out]
  exact⟨rfl,HB2.out.alloc HB2.out.size _⟩
 ·obtain⟨yy,hyy⟩: ∃yy,ab.extract (ab.size-2) (ab.size-1)=yy:=⟨_,rfl⟩
  have HE2:Hid (WO ab=(yy++yy++wS,yy,0)):=AA (by unfold WO;rw [if_neg h0,hyy])
  have e0:decide ((ab.size:Int)<3)=false:=decide_eq_false (by omega)
  have hs1:3≤ab.size:=by omega
  have hsl: ∀W,(Instr.slice 9 (.string ab) (some (.int .i64 ((ab.size:Int)-2))) (some (.int .i64 ((ab.size:Int)-1))) none).run prog W= .ok (.string yy) W:=by
   rw [←hyy]
   exact dD ab (ab.size-2) (ab.size-1) _ _ (by omega) (by omega) (by omega) (by omega)
  have hys:yy.size≤1:=by rw [←hyy,ByteArray.size_extract];omega
  clear h0 hyy
  clear hd2
  go_enter func115,ntmps115
  go_upto_region 1 with fail
  generalize hw1:w.alloc (.cells #[_,.int .i64 x.a,_] 122)=w1
  obtain⟨hb1,c0,c1,c2,hx1⟩:=TL hw1
  have HB1:=AA hb1;have CX:=AA hx1
  clear hw1 hb1 hx1 c1 c2
  go_wp2_with fail
  refine(KR.out w1).mono ?_
  rintro e w2 ⟨hb2,rfl⟩
  have HB2:Hid (Below w.heap.size w w2):=AA (HB1.out.trans (hb2.mono HB1.out.size))
  have CV:=AA (CX.out.below hb2 CX.out.lt)
  clear hb2 c0
  have c0:=CV.out.cell 0
  have c1:=CV.out.cell 1
  have c2:=CV.out.cell 2
  have hlt:=CV.out.lt
  go_wp2_with fail
  go_ret3
  rw [HE.out,HE2.out]
  exact⟨rfl,HB2.out.alloc HB2.out.size _⟩
end
structure aB (w:World) (h1 g:Nat) (y:Fy) (m:AP) (f:Bv) (c:Ai) (vF vS:Value) (pc:Nat) (st:Cn) (x:Ad) (l:List Nat):Prop where
 wk:Dt w h1 g y m f c vF vS (Kr f.code.length st) st.shapes
 hx:f.code[pc]?=some x
 cur:st.shapes[pc]?=some st.shape
 iA:g_ m f c (Kr f.code.length st) st.shapes pc st.op l
 row:yX m f c.AJ pc st x
 low: ∀s∈st.shapes,s.size≤256
 few:f.code.length≤2048
 el:c.AJ.length=f.code.length
 ins:Ar x=0
def aC (h1 g:Nat) (y:Fy) (m:AP) (f:Bv) (c:Ai) (vF vS:Value) (pc:Nat) (st:Cn) (x:Ad) (w:World) (e:Ending) (w':World):Prop:=Below h1 w w'∧match D_ m f c.AJ pc st x with
 | .inl er=>e= .returned (.tuple #[.string Dm,.int .i64 er])
 | .inr st'=>e= .returned (.tuple #[.string st'.shape,.int .i64 0])∧Dt w' h1 g y m f c vF vS (Kr f.code.length st') st'.shapes
section
variable {h1 g:Nat} {y:Fy} {m:AP} {f:Bv} {c:Ai} {vF vS:Value} {fl:List Int} {sh:List ByteArray} {pc:Nat} {st:Cn} {x:Ad} {l:List Nat} {w:World}
theorem Dt.TM (h:Dt w h1 g y m f c vF vS fl sh) {p:Nat} {z:Ad} (hz:f.code[p]?=some z): ∃b o A d B e,y.code= .slice (some ⟨b,o,none⟩) f.code.length d∧w.cell? ⟨g,9,none⟩=some (.slice (some ⟨b,o,none⟩) f.code.length d)∧b<g∧
 w.cell? ⟨b,o+p*3,none⟩=some (.int .u8 (z.op.toNat:Int))∧w.cell? ⟨b,o+p*3+1,none⟩=some (.int .i64 z.a)∧w.cell? ⟨b,o+p*3+2,none⟩=some (.slice A z.l.length B)∧Rd.G8 z.a∧(Rd.i64.sl false).R w 0 g [.slice A z.l.length B] z.l∧e=p:=by
 obtain⟨A,d,ec,hcr⟩:=h.cd.cd
 obtain⟨b,o,Ga,GJ,rfl,_,hb,h0,h1',h2,h3,h4⟩:=Dy hcr hz
 exact⟨b,o,Ga,d,GJ,p,ec,(h.blk.cell 9).trans (by rw [←ec];rfl),hb,h0,h1',h2,h3,h4,rfl⟩
theorem Dt.BJ (h:Dt w h1 g y m f c vF vS fl sh) {p:Nat} {v:Int} (hp:c.AJ[p]?=some v): ∃b o d,w.cell? ⟨g,12,none⟩=some (.slice (some ⟨b,o,none⟩) f.code.length d)∧w.cell? ⟨b,o+p,none⟩=some (.int .i64 v)∧b<h1:=by
 obtain⟨A,d,e,r⟩:=h.el
 obtain⟨b,o,rfl,hb,hc⟩:=NU r hp
 exact⟨b,o,d,(h.blk.cell 12).trans (by rw [←e];rfl),hc,hb⟩
theorem aB.top (h:aB w h1 g y m f c vF vS pc st x l): ∃o r,st.op=o::r∧BU st=o∧o.pc=EL l∧OC m f st.shapes (Kr f.code.length st) o∧o.base.size≤256∧o.s.p.size≤8∧o.s.r.size≤8∧o.base.size≤st.shape.size:=by
 obtain⟨o,r,e,_⟩:=h.row.ne
 have hl:BL st.op 0=some o:=by rw [e];rfl
 have ht:BU st=o:=by unfold BU;rw [e];rfl
 obtain⟨a,b⟩:=h.iA.at_ 0 o hl
 obtain⟨b1,b2,b3⟩:=h.row.ops o (by rw [e];exact List.mem_cons_self ..)
 exact⟨o,r,e,ht,a,b,b1,b2,b3,by have:=h.row.top;rwa [ht] at this⟩
theorem TN (h:aB w h1 g y m f c vF vS pc st x l) (hop:x.op.toNat=5∨x.op.toNat=6):
 Calls prog 90 #[.pointer (some ⟨g,0,none⟩),.int .i64 pc] w fun e w'=>aC h1 g y m f c vF vS pc st x w e w':=by
 obtain⟨o,r,rC,aD,epc,hok,z1,z2,z3,z4⟩:=h.top
 have H:=AA h;have EX:=AA hok
 have hcl:AZ x.op=true:=decide_eq_true hop
 have HR:Hid (D_ m f c.AJ pc st x=if st.shape≠o.base++o.s.r then .inl 33 else
  if x.op.toNat=5 then .inr {st with shape:=o.base++o.s.p,dead:=false} else
  if o.o.toNat=4∧c.AJ.getD o.pc.toNat (-1)<0∧o.s.p≠o.s.r then .inl 37 else
  .inr {st with op:=st.op.tail,dead:=false}):=AA (by unfold D_;rw [if_pos hcl,aD])
 have hh:=h.wk.hh
 have dF:=AA hh
 have hcur:=(List.getElem?_eq_some_iff.1 h.cur).1
 have hpl:=(List.getElem?_eq_some_iff.1 h.hx).1
 have hp0:(0:Int)≤pc:=by omega
 have hp1:(pc:Int)<f.code.length:=by omega
 have hp2:(pc:Int)<st.shapes.length:=by omega
 obtain⟨b,ob,A,d,B,_,_,c9,hbg,x0,x1,x2,_,_,_⟩:=h.wk.TM h.hx
 have hgl:=h.wk.blk.lt
 have hbl:b<w.heap.size:=by omega
 have hadd:binOp .add 9 (.string o.base) (.string o.s.r)=pure (.string (o.base++o.s.r)):=GR _ _ _ (by omega)
 have hadp:binOp .add 9 (.string o.base) (.string o.s.p)=pure (.string (o.base++o.s.p)):=GR _ _ _ (by omega)
 obtain⟨P,hP⟩: ∃P,o.pc=P:=⟨_,rfl⟩
 have TP:Hid (EL l=P):=AA (by rw [←epc,hP])
 have HBS:Hid (∀W,Below w.heap.size w W→Calls prog 88 #[.pointer (some ⟨g,0,none⟩),.int .i64 P] W fun e w'=>e= .returned (.string o.base)∧ ∃k,w'=W.drewN k):=AA (fun W hW=>hP▸TI o W (H.out.wk.below hW) EX.out H.out.low)
 have L8:Hid (∀W,Below w.heap.size w W→Calls prog 89 #[.pointer (some ⟨g,0,none⟩),.int .i64 P] W fun e w'=>e= .returned (.agg #[.string o.s.p,.string o.s.r])∧Below W.heap.size W w'):=AA (fun W hW=>hP▸Lc o W (H.out.wk.below hW) EX.out)
 have HP:=AA hP
 have HET:=AA aD;have HEO:=AA rC
 clear h hok hcl rC aD epc hP hpl hcur
 go_enter func90,ntmps90
 go_upto_region 2 with fail
 generalize hw1:w.alloc (.cells #[.int .u8 (x.op.toNat:Int),.int .i64 x.a,.slice A x.l.length B] 122)=w1
 obtain⟨hb1,c0,c1,c2,hx1⟩:=TL hw1
 have HB1:=AA hb1;have CX:=AA hx1
 clear hw1 hb1 hx1 c1 c2 c9 x0 x1 x2 hbg hbl
 have HW1:=AA (H.out.wk.below HB1.out)
 obtain⟨b2,d2,e2,_,s2⟩:=HW1.out.cellS H.out.cur
 have q15:w1.cell? ⟨g,15,none⟩=some (.slice (some ⟨b2,0,none⟩) st.shapes.length d2):=by rw [←e2];exact HW1.out.blk.cell 15
 obtain⟨b3,o3,d3,e3,hc3⟩:=HW1.out.PG H.out.iA.own
 have je:w1.cell? ⟨g,13,none⟩=some (.slice (some ⟨b3,o3,none⟩) f.code.length d3):=(HW1.out.blk.cell 13).trans (by rw [←e3];rfl)
 have s3:=(hc3 pc _ H.out.iA.own).1
 rw [TP.out] at s3
 clear e2 e3 hc3
 go_wp2_with fail
 refine(HBS.out w1 HB1.out).mono ?_
 rintro e w2 ⟨rfl,k,rfl⟩
 have HB2:Hid (Below w.heap.size w (w1.drewN k)):=AA (below_drewN HB1.out k)
 have CV:=AA (CX.out.drewN k)
 clear c0 q15 s2 je s3
 generalize w1.drewN k=w2 at*
 have c0:=CV.out.q 0 rfl
 have key:(x.op.toNat=5∧((x.op.toNat:Int)==5)=true∧((x.op.toNat:Int)==6)=false)∨(x.op.toNat=6∧((x.op.toNat:Int)==5)=false∧((x.op.toNat:Int)==6)=true):=by
  rcases hop with e | e
  ·exact .inl ⟨e,by simp;omega,by simp;omega⟩
  ·exact .inr ⟨e,by simp;omega,by simp;omega⟩
 clear hop
 rcases key with⟨h56,q5,q6⟩ | ⟨h56,q5,q6⟩
 all_goals
  have H56:=AA h56
  clear h56
  go_wp2_with fail
  refine(L8.out w2 HB2.out).mono ?_
  rintro e w3 ⟨rfl,hb3⟩
  have OT:=AA (CV.out.below hb3 CV.out.lt)
  have HB3:Hid (Below w.heap.size w w3):=AA (HB2.out.trans (hb3.mono HB2.out.size))
  clear c0 hb3
  have c0:=OT.out.q 0 rfl
  have hlt:=OT.out.lt
  by_cases he:st.shape=o.base++o.s.r
 ·have e1:(st.shape.toList==(o.base++o.s.r).toList)=true:=by rw [he];simp
  have HE:=AA he
  clear he
  go_wp2_with fail
  go_ret2
  have WJ:=HB3.out.alloc HB3.out.size (.cells #[.string o.s.p,.string o.s.r] 93)
  refine⟨WJ.mono dF.out,?_⟩
  rw [HR.out,if_neg (fun hn=>hn HE.out),if_pos H56.out]
  exact⟨rfl,H.out.wk.below WJ⟩
 ·have e1:(st.shape.toList==(o.base++o.s.r).toList)=false:=by
   rw [beq_eq_false_iff_ne]
   intro e
   rw [ByteArray.toList_eq,ByteArray.toList_eq] at e
   exact he (ByteArray.ext (Array.toList_inj.1 e))
  have HE:=AA he
  clear he
  go_wp2_with fail
  go_ret2
  have WJ:=HB3.out.alloc HB3.out.size (.cells #[.string o.s.p,.string o.s.r] 93)
  refine⟨WJ.mono dF.out,?_⟩
  rw [HR.out,if_pos HE.out]
  rfl
 ·have e1:(st.shape.toList==(o.base++o.s.r).toList)=true:=by rw [he];simp
  have HE:=AA he
  clear he
  rcases EX.out with eb | ⟨p,n,z,s,a1,a2,a3,a4,a5,a6,a7,a8,a9,XF,Uw,a12⟩
  ·have hP1:P= -1:=by rw [←HP.out,eb];rfl
   have hO4: ¬o.o.toNat=4:=by rw [eb];show ¬(0:UInt8).toNat=4;decide
   have hd0:decide (0≤P)=false:=by rw [hP1];rfl
   have HO4:=AA hO4
   clear eb hP1 hO4
   go_wp2_with fail
   go_ret2
   have WJ:=HB3.out.alloc HB3.out.size (.cells #[.string o.s.p,.string o.s.r] 93)
   refine⟨WJ.mono dF.out,?_⟩
   rw [HR.out,if_neg (fun hn=>hn HE.out),if_neg (by rw [H56.out];decide),if_neg (fun hn=>HO4.out hn.1)]
   exact⟨rfl,H.out.wk.below WJ⟩
  ·have hP1:P=(p:Int):=by rw [←HP.out,a1]
   have WJ:=HB3.out.alloc HB3.out.size (.cells #[.string o.s.p,.string o.s.r] 93)
   have jg:=AA WJ
   have hWF:=H.out.wk.below HB3.out
   obtain⟨b4,o4,A4,d4,B4,_,_,k9,hb4,k0,_⟩:=hWF.TM a3
   obtain⟨ev,hev⟩: ∃ev,c.AJ[p]?=some ev:=⟨_,List.getElem?_eq_getElem (by rw [H.out.el];exact(List.getElem?_eq_some_iff.1 a3).1)⟩
   obtain⟨b5,o5,d5,k12,k5,hb5⟩:=hWF.BJ hev
   have lg:g<w3.heap.size:=by have:=hWF.gh;have:=hWF.hh;omega
   have lb4:b4<w3.heap.size:=by omega
   have lb5:b5<w3.heap.size:=by have:=hWF.hh;omega
   have HEV:Hid (c.AJ.getD o.pc.toNat (-1)=ev):=AA (by rw [a1,Int.toNat_natCast,List.getD_eq_getElem?_getD,hev];rfl)
   have HOO:Hid (o.o.toNat=z.op.toNat):=AA (by rw [a5])
   have hp0':(0:Int)≤p:=by omega
   have hp1':(p:Int)<f.code.length:=by have:=(List.getElem?_eq_some_iff.1 a3).1;omega
   subst hP1
   have hd0:decide ((0:Int)≤p)=true:=decide_eq_true hp0'
   clear WJ hWF a1 a2 a3 a4 a5 a6 a7 a8 a9 XF Uw a12 hev hb4 hb5
   by_cases h4:z.op.toNat=4
   ·have q4:((z.op.toNat:Int)==4)=true:=by simp;omega
    by_cases h0:ev<0
    ·have q0:decide (ev<0)=true:=decide_eq_true h0
     by_cases hpr:o.s.p=o.s.r
     ·have e2:(o.s.p.toList==o.s.r.toList)=true:=by rw [hpr];simp
      have iB:=AA hpr
      clear h4 h0 hpr
      go_wp2_with fail
      go_ret2
      refine⟨jg.out.mono dF.out,?_⟩
      rw [HR.out,if_neg (fun hn=>hn HE.out),if_neg (by rw [H56.out];decide),if_neg (fun hn=>hn.2.2 iB.out)]
      exact⟨rfl,H.out.wk.below jg.out⟩
     ·have e2:(o.s.p.toList==o.s.r.toList)=false:=by
       rw [beq_eq_false_iff_ne]
       intro e
       rw [ByteArray.toList_eq,ByteArray.toList_eq] at e
       exact hpr (ByteArray.ext (Array.toList_inj.1 e))
      have iB:=AA hpr;have H4:=AA h4;have H0:=AA h0
      clear h4 h0 hpr
      go_wp2_with fail
      go_ret2
      refine⟨jg.out.mono dF.out,?_⟩
      rw [HR.out,if_neg (fun hn=>hn HE.out),if_neg (by rw [H56.out];decide),if_pos ⟨HOO.out.trans H4.out,by rw [HEV.out];exact H0.out,iB.out⟩]
      rfl
    ·have q0:decide (ev<0)=false:=decide_eq_false h0
     have H0:=AA h0
     clear h4 h0
     go_wp2_with fail
     go_ret2
     refine⟨jg.out.mono dF.out,?_⟩
     rw [HR.out,if_neg (fun hn=>hn HE.out),if_neg (by rw [H56.out];decide),if_neg (fun hn=>by have h3:=hn.2.1;rw [HEV.out] at h3;have:=H0.out;omega)]
     exact⟨rfl,H.out.wk.below jg.out⟩
   ·have q4:((z.op.toNat:Int)==4)=false:=by simp;omega
    have H4:=AA h4
    clear h4
    go_wp2_with fail
    go_ret2
    refine⟨jg.out.mono dF.out,?_⟩
    rw [HR.out,if_neg (fun hn=>hn HE.out),if_neg (by rw [H56.out];decide),if_neg (fun hn=>H4.out (HOO.out▸hn.1))]
    exact⟨rfl,H.out.wk.below jg.out⟩
 ·have e1:(st.shape.toList==(o.base++o.s.r).toList)=false:=by
   rw [beq_eq_false_iff_ne]
   intro e
   rw [ByteArray.toList_eq,ByteArray.toList_eq] at e
   exact he (ByteArray.ext (Array.toList_inj.1 e))
  have HE:=AA he
  clear he
  go_wp2_with fail
  go_ret2
  have WJ:=HB3.out.alloc HB3.out.size (.cells #[.string o.s.p,.string o.s.r] 93)
  refine⟨WJ.mono dF.out,?_⟩
  rw [HR.out,if_pos HE.out]
  rfl
end
end Go.Proofs.YtlagonfamllgjaaGreatDoor
