/- Part 29 of the proof: R10L R10M -/
import Derived.Test.YtlagonfamllgjaaGreatDoorK27
import Derived.Test.YtlagonfamllgjaaGreatDoorK28
namespace Go.Proofs.YtlagonfamllgjaaGreatDoor
set_option linter.unusedVariables false
set_option linter.unusedSimpArgs false
set_option maxRecDepth 100000
set_option maxHeartbeats 4000000
open Go.RowKit Tryz
theorem aG: ∀r∈Dn,r.pops.size≤8∧r.pushes.size≤8:=by
 have h:Dn.all (fun r=>decide (r.pops.size≤8∧r.pushes.size≤8))=true:=by kernel_rfl
 exact fun r hr=>of_decide_eq_true (List.all_eq_true.1 h r hr)
theorem VK {ops:List Bt} (h: ∀o∈ops,o.s.p.size≤8∧o.s.r.size≤8) (n:Int):(Gl ops n).size≤8:=by
 unfold Gl BL
 split
 ·simp [Dm]
 ·rename_i o ho
  split at ho
  ·have:=h o (List.mem_of_getElem? ho)
   unfold Bo;split
   ·exact this.1
   ·exact this.2
  ·cases ho
theorem PW {ops:List Bt} (h: ∀o∈ops,o.s.p.size≤8∧o.s.r.size≤8) (x:Ad):(BH ops x).1.size≤8:=by
 unfold BH
 split
 ·split
  ·exact VK h _
  ·simp [Dm]
 split
 ·split
  ·exact VK h _
  ·simp [Dm]
 ·simp [Dm]
theorem WQ {m:AP} {f:Bv} (x:Ad):(BR m f x).1.size≤1:=by
 unfold BR
 split
 ·split
  ·simp only [ByteArray.size_extract];omega
  ·simp [Dm]
 split
 ·simp [Dm]
 ·split
  ·simp [Dm]
  ·show 1≤1;omega
theorem iC {m:AP} {f:Bv} {st:Cn} {x:Ad} (hm:Kc m) (ho: ∀o∈st.op,o.s.p.size≤8∧o.s.r.size≤8) (hs:st.shape.size≤256):(BI m f st x).1.size≤1000∧(BI m f st x).2.1.size≤1000:=by
 have hl:=PW ho x
 have hle:=WQ (m:=m) (f:=f) x
 have ht:=IL hm f.t
 have ha:(AX st).size≤256:=by rw [DR];omega
 unfold BI
 split
 ·exact⟨by simp [Dm],by simp [Dm]⟩
 rename_i r hr
 have hrr:=aG r (Jf hr).1
 split
 ·exact⟨by simp only [];omega,by simp only [];omega⟩
 split
 ·exact⟨by simp [Dm],by simp [Dm]⟩
 split
 ·split
  ·exact⟨by simp [Dm],by simp [Dm]⟩
  ·rename_i t hty
   have:=Qy hm hty
   split
   ·refine⟨?_,by simp only [];omega⟩
    simp only [ByteArray.size_append]
    have:wS.size=1:=rfl
    omega
   split
   ·exact⟨by simp only [];omega,by simp only [];omega⟩
   ·exact⟨by simp only [];omega,by simp only [];omega⟩
 split
 ·exact⟨by simp only [];omega,by simp only [];omega⟩
 split
 ·refine⟨?_,by simp only [];omega⟩
  simp only [ByteArray.size_append]
  have:wS.size=1:=rfl
  omega
 split
 ·exact⟨by simp only [];omega,by simp only [];omega⟩
 split
 ·split
  ·exact⟨by show 1≤1000;omega,by simp [Dm]⟩
  ·exact⟨by simp only [ByteArray.size_extract];omega,by simp [Dm]⟩
 split
 ·split
  ·exact⟨by show 3≤1000;omega,by show 1≤1000;omega⟩
  ·have:wS.size=1:=rfl
   exact⟨by simp only [ByteArray.size_append,ByteArray.size_extract];omega,by simp only [ByteArray.size_extract];omega⟩
 split
 ·exact⟨by simp [Dm],by simp only [];omega⟩
 split
 ·exact⟨by simp only [];omega,by simp only [];omega⟩
 ·exact⟨by simp only [];omega,by simp [Dm]⟩
theorem uo {n pc:Nat} {st:Cn} {k:Int} (h:pc<st.floors.length):Kr n {st with floors:=st.floors.set pc k}=(Kr n st).set pc k:=by
 unfold Kr
 simp only [List.length_set]
 rw [List.set_append_left _ _ h]
section
variable {h1 g:Nat} {y:Fy} {m:AP} {f:Bv} {c:Ai} {vF vS:Value} {pc:Nat} {st:Cn} {x:Ad} {l:List Nat} {w:World}
theorem aH (h:aB w h1 g y m f c vF vS pc st x l) (hcl:AZ x.op=false) (A:Option Addr) (B:Nat) (hx:(Rd.i64.sl false).R w 0 g [.slice A x.l.length B] x.l) (hn: -9223372036854775808≤x.a∧x.a<9223372036854775808) (W:World) (hW:Below w.heap.size w W):
 Calls prog 115 #[.pointer (some ⟨g,0,none⟩),.int .i64 pc,.agg #[.int .u8 (x.op.toNat:Int),.int .i64 x.a,.slice A x.l.length B],.string (AX st)] W fun e w'=>e= .returned (KO (BI m f st x))∧Below W.heap.size W w':=by
 have hwk:=h.wk.below hW
 have hcl': ¬(x.op.toNat=5∨x.op.toNat=6):=of_decide_eq_false hcl
 have hg:g≤w.heap.size:=Nat.le_of_lt (Nat.lt_of_lt_of_le h.wk.gh h.wk.hh)
 have Kg:=h.few
 have hfo:=h.wk.md.ok.fns f (List.mem_of_getElem? h.wk.md.fn)
 have hlz:(CS m f).size≤1000000:=by
  have:=hfo.loc
  unfold CS;rw [ByteArray.size_append];omega
 have hab:(AX st).size≤1000:=by rw [DR];have:=h.row.size;omega
 have hi:=h.ins
 unfold Ar at hi
 cases hr:Aq x.op.toNat with
 | none=>rw [hr] at hi;cases hi
 | some r=>
  rw [hr] at hi
  dsimp only at hi
  have hmm:=Jf hr
  cases hp:r.plain with
  | true=>exact QT x _ r _ _ W hr hp
  | false=>
   have hown:=RV r hmm.1
   rw [hp,hmm.2] at hown
   have hown:ownB x.op.toNat=true:=by cases hh:ownB x.op.toNat with | true=>rfl | false=>rw [hh] at hown;cases hown
   have hown:=of_decide_eq_true hown
   by_cases c0:x.op.toNat=0
   ·exact RH x _ _ _ W c0
   by_cases c1:x.op.toNat=2∨x.op.toNat=3∨x.op.toNat=4∨x.op.toNat=11∨x.op.toNat=12
   ·exact QU x _ _ _ W hwk c1 hn
   by_cases c2:x.op.toNat=7∨x.op.toNat=8∨x.op.toNat=9
   ·refine PN x A B g _ W hwk h.iA c2 hn (Rd.below hx hW hg) (Nat.le_trans hg hW.size) (fun h9=> ?_) (by omega) (by have:=PW (fun o ho=>(h.row.ops o ho).2) x;omega)
    have ht:(Aq 9).map (·.takes)=some 3:=by kernel_rfl
    rw [←h9,hr] at ht
    have ht:r.takes=3:=by injection ht
    split at hi
    ·cases hi
    rw [if_neg (fun hn=>hn ht)] at hi
    split at hi
    ·cases hi
    rename_i hl
    split at hi
    ·rename_i hall
     exact⟨by omega,by omega,fun n hn=>of_decide_eq_true (List.all_eq_true.1 hall n hn)⟩
    ·cases hi
   by_cases c3:x.op.toNat=10
   ·exact PS x _ _ _ W hwk c3
   by_cases c4:x.op.toNat=16
   ·exact RI x _ _ _ W c4 rfl hab
   by_cases c5:x.op.toNat=17
   ·exact PU x _ _ _ W c5 rfl hab
   ·exact PO x _ _ _ W hwk (by omega) hn hlz
theorem WR (h:aB w h1 g y m f c vF vS pc st x l) (hcl:AZ x.op=false):
 Calls prog 90 #[.pointer (some ⟨g,0,none⟩),.int .i64 pc] w fun e w'=>aC h1 g y m f c vF vS pc st x w e w':=by
 obtain⟨o,r,rC,aD,epc,hok,z1,z2,z3,z4⟩:=h.top
 have H:=AA h;have EX:=AA hok
 obtain⟨po,pu,ee,hE⟩: ∃po pu ee,BI m f st x=(po,pu,ee):=⟨_,_,_,rfl⟩
 have HR:Hid (D_ m f c.AJ pc st x=if ee≠0 then .inl ee else if ends (AX st) po=false then .inl 33 else if 256<(st.shape.size-po.size)+pu.size then .inl 34 else
  .inr {st with shape:=st.shape.extract 0 (st.shape.size-po.size)++pu,dead:=DF x.op,op:=if Aw x.op then⟨B_ m x.a,pc,x.op,st.shape.extract 0 (st.shape.size-po.size)⟩::st.op else st.op,floors:=if Aw x.op then st.floors.set pc ((st.shape.size-po.size:Nat):Int) else st.floors}):=AA (by
  unfold D_;rw [if_neg (by rw [hcl];decide),hE])
 obtain⟨p1,p2⟩:=iC (x:=x) h.wk.md.ok (fun o ho=>(h.row.ops o ho).2) h.row.size
 rw [hE] at p1 p2
 dsimp only at p1 p2
 have hsz:=h.row.size
 have ADm:AX st=st.shape.extract o.base.size st.shape.size:=by unfold AX;rw [aD]
 have HAB:Hid ((AX st).size=st.shape.size-o.base.size):=AA (by rw [DR,aD])
 have hh:=h.wk.hh
 have dF:=AA hh
 have hcur:=(List.getElem?_eq_some_iff.1 h.cur).1
 have hpl:=(List.getElem?_eq_some_iff.1 h.hx).1
 have hp0:(0:Int)≤pc:=by omega
 have hp1:(pc:Int)<f.code.length:=by omega
 have hp2:(pc:Int)<st.shapes.length:=by omega
 obtain⟨b,ob,A,d,B,_,_,c9,hbg,x0,x1,x2,x3,x4,_⟩:=h.wk.TM h.hx
 have HEF:=AA (aH h hcl A B x4 x3)
 have jh:=AA hE
 have hgl:=h.wk.blk.lt
 have hbl:b<w.heap.size:=by omega
 have hsl: ∀W,(Instr.slice 9 (.string st.shape) (some (.int .i64 (o.base.size:Int))) none none).run prog W= .ok (.string (AX st)) W:=fun W=>by
  rw [run_slice_string_from_if (P:=prog) W 9 st.shape .i64 _ underlying9,if_pos (by omega),Int.toNat_natCast,ADm]
 obtain⟨ab,hab⟩: ∃ab,AX st=ab:=⟨_,rfl⟩
 obtain⟨P,hP⟩: ∃P,o.pc=P:=⟨_,rfl⟩
 have TP:Hid (EL l=P):=AA (by rw [←epc,hP])
 have HBS:Hid (∀W,Below w.heap.size w W→Calls prog 88 #[.pointer (some ⟨g,0,none⟩),.int .i64 P] W fun e w'=>e= .returned (.string o.base)∧ ∃k,w'=W.drewN k):=AA (fun W hW=>hP▸TI o W (H.out.wk.below hW) EX.out H.out.low)
 have q56:((x.op.toNat:Int)==5)=false∧((x.op.toNat:Int)==6)=false:=by
  have:=of_decide_eq_false hcl
  exact⟨by simp;omega,by simp;omega⟩
 obtain⟨q5,q6⟩:=q56
 rw [hab] at HEF HR HAB hsl
 rw [hE] at HEF
 have hls:ab.size≤256:=by rw [HAB.out];omega
 clear h hok hcl rC aD epc hP hpl hcur hab ADm hE x3 x4
 go_enter func90,ntmps90
 go_upto_region 2 with fail
 generalize hw1:w.alloc (.cells #[.int .u8 (x.op.toNat:Int),.int .i64 x.a,.slice A x.l.length B] 122)=w1
 obtain⟨hb1,c0,c1,c2,hx1⟩:=TL hw1
 have HB1:=AA hb1;have CX:=AA hx1
 clear hw1 hb1 hx1 c1 c2 c9 x0 x1 x2 hbg hbl
 have HW1:=AA (H.out.wk.below HB1.out)
 obtain⟨b2,d2,e2,_,s2⟩:=HW1.out.cellS H.out.cur
 have q15:w1.cell? ⟨g,15,none⟩=some (.slice (some ⟨b2,0,none⟩) st.shapes.length d2):=by rw [←e2];exact HW1.out.blk.cell 15
 obtain⟨b3,o3,d3,e3,hc3⟩:=HW1.out.PG H.out.iA.own
 have je:w1.cell? ⟨g,13,none⟩=some (.slice (some ⟨b3,o3,none⟩) f.code.length d3):=(HW1.out.blk.cell 13).trans (by rw [←e3];rfl)
 have s3:=(hc3 pc _ H.out.iA.own).1
 rw [TP.out] at s3
 clear e2 e3 hc3
 go_wp2_with fail
 refine(HBS.out w1 HB1.out).mono ?_
 rintro e w2 ⟨rfl,k,rfl⟩
 have HB2:Hid (Below w.heap.size w (w1.drewN k)):=AA (below_drewN HB1.out k)
 have CV:=AA (CX.out.drewN k)
 clear c0 q15 s2 je s3
 generalize w1.drewN k=w2 at*
 have c0:=CV.out.q 0 rfl
 have c1:=CV.out.q 1 rfl
 have c2:=CV.out.q 2 rfl
 go_wp2_with fail
 refine(HEF.out w2 HB2.out).mono ?_
 rintro e w3 ⟨rfl,hb3⟩
 have OT:=AA (CV.out.below hb3 CV.out.lt)
 have HB3:Hid (Below w.heap.size w w3):=AA (HB2.out.trans (hb3.mono HB2.out.size))
 clear c0 c1 c2 hb3 hsl
 dsimp only [KO]
 by_cases hee:ee=0
 ·subst hee
  have HR1:=AA (HR.out.trans (if_neg (fun hn=>hn rfl)))
  clear HR
  cases hen:ends ab po with
  | false=>
   have nQ:Hid (∀W,Calls prog 116 #[.string ab,.string po] W fun e w'=>W=w'∧e= .returned (.bool false)):=AA (fun W=>by have:=YM ab po (by omega) (by omega) W;rw [hen] at this;exact this)
   have HR2:=AA (HR1.out.trans (if_pos hen))
   clear hen HR1
   go_wp2_with fail
   refine(nQ.out w3).mono ?_
   rintro e w4 ⟨rfl,rfl⟩
   go_wp2_with fail
   go_ret2
   refine⟨HB3.out.mono dF.out,?_⟩
   rw [HR2.out]
   rfl
  | true=>
   have nQ:Hid (∀W,Calls prog 116 #[.string ab,.string po] W fun e w'=>W=w'∧e= .returned (.bool true)):=AA (fun W=>by have:=YM ab po (by omega) (by omega) W;rw [hen] at this;exact this)
   have HR2:=AA (HR1.out.trans (if_neg (by rw [hen];decide)))
   have hpo:po.size≤st.shape.size:=by have:=LP ab po hen;rw [HAB.out] at this;omega
   clear hen HR1
   obtain⟨lf,hlf⟩: ∃lf,st.shape.extract 0 (st.shape.size-po.size)=lf:=⟨_,rfl⟩
   have hlz:lf.size=st.shape.size-po.size:=by rw [←hlf,ByteArray.size_extract];omega
   rw [hlf,←hlz] at HR2
   have HLF:Hid (∀W,(Instr.slice 9 (.string st.shape) none (some (.int .i64 ((st.shape.size:Int)-po.size))) none).run prog W= .ok (.string lf) W):=AA (fun W=>by
    rw [run_slice_string_to_if (P:=prog) W 9 st.shape .i64 _ underlying9,if_pos (by omega),show((st.shape.size:Int)-po.size).toNat=st.shape.size-po.size from by omega,hlf])
   have hsl:=HLF.out
   have hlfz:lf.size≤256:=by omega
   clear hlf hlz HLF
   have HOP:Hid (∀W,Calls prog 117 #[.int .u8 (x.op.toNat:Int)] W fun e w'=>W=w'∧e= .returned (.bool (Aw x.op))):=AA (fun W=>DV x.op.toNat x.op.toNat_lt W)
   have c0:=OT.out.q 0 rfl
   cases hop:Aw x.op with
   | false=>
    rw [hop] at HOP HR2
    clear hop
    by_cases hbig:256<lf.size+pu.size
    ·have hd:decide ((256:Int)<(lf.size:Int)+pu.size)=true:=decide_eq_true (by omega)
     have HR3:=AA (HR2.out.trans (if_pos hbig))
     clear hbig HR2
     go_wp2_with fail
     refine(nQ.out w3).mono ?_
     rintro e w4 ⟨rfl,rfl⟩
     go_wp2_with fail
     refine(HOP.out w3).mono ?_
     rintro e w4 ⟨rfl,rfl⟩
     go_wp2_with fail
     go_ret2
     refine⟨HB3.out.mono dF.out,?_⟩
     rw [HR3.out]
     rfl
    ·have hd:decide ((256:Int)<(lf.size:Int)+pu.size)=false:=decide_eq_false (by omega)
     have hadd:binOp .add 9 (.string lf) (.string pu)=pure (.string (lf++pu)):=GR _ _ _ (by omega)
     have HR3:=AA (HR2.out.trans (if_neg hbig))
     clear hbig HR2
     go_wp2_with fail
     refine(nQ.out w3).mono ?_
     rintro e w4 ⟨rfl,rfl⟩
     go_wp2_with fail
     refine(HOP.out w3).mono ?_
     rintro e w4 ⟨rfl,rfl⟩
     go_wp2_with fail
     go_ret2
     refine⟨HB3.out.mono dF.out,?_⟩
     rw [HR3.out]
     exact⟨rfl,H.out.wk.below HB3.out⟩
   | true=>
    rw [hop] at HOP HR2
    clear hop
    have HW3:=AA (H.out.wk.below HB3.out)
    obtain⟨fv,fH⟩: ∃fv,(Kr f.code.length st)[pc]?=some fv:=⟨_,List.getElem?_eq_getElem (by unfold Kr;have:=H.out.row.fl;simp;omega)⟩
    have hfl0:pc<(Kr f.code.length st).length:=(List.getElem?_eq_some_iff.1 fH).1
    obtain⟨b5,d5,e5,hb5,s5,f5⟩:=HW3.out.yY fH
    have q14:w3.cell? ⟨g,14,none⟩=some (.slice (some ⟨b5,0,none⟩) (Kr f.code.length st).length d5):=by rw [←e5];exact HW3.out.blk.cell 14
    have hfl1:(pc:Int)<(Kr f.code.length st).length:=by omega
    have HSF:Hid (Dt (w3.setCell ⟨b5,pc,none⟩ (.int .i64 (lf.size:Int))) h1 g y m f c vF vS ((Kr f.code.length st).set pc (lf.size:Int)) st.shapes):=AA (HW3.out.setF e5 hb5 pc (lf.size:Int))
    have jg:Hid (Below h1 w (w3.setCell ⟨b5,pc,none⟩ (.int .i64 (lf.size:Int)))):=AA ((HB3.out.mono dF.out).setCell (p:=⟨b5,pc,none⟩) hb5 _)
    clear fH e5
    by_cases hbig:256<lf.size+pu.size
    ·have hd:decide ((256:Int)<(lf.size:Int)+pu.size)=true:=decide_eq_true (by omega)
     have HR3:=AA (HR2.out.trans (if_pos hbig))
     clear hbig HR2
     go_wp2_with fail
     refine(nQ.out w3).mono ?_
     rintro e w4 ⟨rfl,rfl⟩
     go_wp2_with fail
     refine(HOP.out w3).mono ?_
     rintro e w4 ⟨rfl,rfl⟩
     go_wp2_with fail
     go_ret2
     refine⟨jg.out,?_⟩
     rw [HR3.out]
     rfl
    ·have hd:decide ((256:Int)<(lf.size:Int)+pu.size)=false:=decide_eq_false (by omega)
     have hadd:binOp .add 9 (.string lf) (.string pu)=pure (.string (lf++pu)):=GR _ _ _ (by omega)
     have HR3:=AA (HR2.out.trans (if_neg hbig))
     clear hbig HR2
     go_wp2_with fail
     refine(nQ.out w3).mono ?_
     rintro e w4 ⟨rfl,rfl⟩
     go_wp2_with fail
     refine(HOP.out w3).mono ?_
     rintro e w4 ⟨rfl,rfl⟩
     go_wp2_with fail
     go_ret2
     refine⟨jg.out,?_⟩
     rw [HR3.out]
     refine⟨rfl,?_⟩
     have:=HSF.out
     rw [←uo (by have:=H.out.row.fl;omega)] at this
     exact this
 ·have q0:(ee !=0)=true:=by simpa using hee
  have HR1:=AA (HR.out.trans (if_pos hee))
  clear hee HR
  go_wp2_with fail
  go_ret2
  refine⟨HB3.out.mono dF.out,?_⟩
  rw [HR1.out]
  rfl
end
def uq (m:AP) (f:Bv) (w:World) (e:Ending) (w':World):Prop:=Below w.heap.size w w'∧ ∃g:Nat,match ctl f.code with
 | .inl x=>e= .returned (.tuple #[.pointer (some ⟨g,0,none⟩),.int .i64 x.1,.int .i64 x.2])
 | .inr c=>e= .returned (.tuple #[.pointer (some ⟨g,0,none⟩),.int .i64 0,.int .i64 0])∧ ∃h1 y vF,Dt w' h1 g y m f c vF (.slice none 0 0) (Kr f.code.length (CY m f)) []∧w.heap.size≤g
def nR (code:List Ad) (lo hi:Nat) (W:World) (AE AL AO:Option Addr) (nE nL nO cE cL cO:Nat) (e1 e2:Int):Prop:=match ctl code with
 | .inl x=>e1=x.1∧e2=x.2
 | .inr c=>e1=0∧e2=0∧(nE=code.length∧(Rd.i64.sl false).R W lo hi [.slice AE code.length cE] c.ends)∧(nL=code.length∧(Rd.i64.sl false).R W lo hi [.slice AL code.length cL] c.AJ)∧(nO=code.length∧(Rd.i64.sl false).R W lo hi [.slice AO code.length cO] c.A_)
theorem AAY {code:List Ad} {w w':World} {e:Ending} (h:KP code w e w'): ∃AE AL AO nE nL nO cE cL cO e1 e2,e= .returned (.tuple #[.slice AE nE cE,.slice AL nL cL,.slice AO nO cO,.int .i64 e1,.int .i64 e2])∧nR code w.heap.size w'.heap.size w' AE AL AO nE nL nO cE cL cO e1 e2:=by
 unfold KP at h
 unfold nR
 cases hc:ctl code with
 | inl x=>rw [hc] at h;exact⟨_,_,_,_,_,_,_,_,_,_,_,h,rfl,rfl⟩
 | inr c=>
  rw [hc] at h
  obtain⟨A1,c1,A2,c2,A3,c3,he,a,b,d⟩:=h
  exact⟨_,_,_,_,_,_,_,_,_,_,_,he,rfl,rfl,⟨rfl,a⟩,⟨rfl,b⟩,⟨rfl,d⟩⟩
structure ADo (w6:World) (g:Nat) (y:Fy) (A:Option Addr) (d j:Nat) (wr:World):Prop where
 blk:AQ wr g 152 (wkC y (.slice A j d) (.slice none 0 0))
 own:wr.ownsRow w6.heap.size 3 1 (.slice A j d) j (List.replicate j (iv (-1)))
 kp:Keep (fun q=>q≠g∧q<w6.heap.size) w6 wr
theorem uw (cs:List Value) (hi:Nat) (m:AP) (k:Nat) (f:Bv) (w:World) (h:DJ.R w 0 hi cs m) (hhi:hi≤w.heap.size) (hm:Kc m) (hk:m.fns[k]?=some f):
 Calls prog 86 #[.agg cs.toArray,.int .i64 k] w fun e w'=>uq m f w e w':=by
 have H:=AA h;have HM:=AA hm;have Bw:=AA hhi;have WS:=AA hk
 obtain⟨v1,v2,v3,v4,v5,v6,rfl,h0,h1,h2,_,_,h5,_,_⟩:=Am.1 h
 obtain⟨A5,c5,rfl⟩:=AB h5
 obtain⟨A0,c0,rfl⟩:=AB h0
 obtain⟨bf,of,TJ,Ko,gZ,_,hbf,hf0,hf1,hf2,hfB,X0,jX⟩:=Eu h5 hk
 subst gZ
 have yT:=AA jX
 have hfo:=hm.fns f (List.mem_of_getElem? hk)
 have hlt:=(List.getElem?_eq_some_iff.1 hk).1
 have hk0:(0:Int)≤k:=by omega
 have hk1:(k:Int)<m.fns.length:=by omega
 obtain⟨t,ht⟩: ∃t:Nat,f.t=(t:Int):=⟨f.t.toNat,by have:=hfo.t0;omega⟩
 have htl:t<m.types.length:=by have:=hfo.t1;omega
 obtain⟨ty,hty⟩: ∃ty,m.types[t]?=some ty:=⟨_,List.getElem?_eq_getElem htl⟩
 obtain⟨bt,ot,S_,_,hbt,ht0,ht1,htp,htr⟩:=CZ h0 hty
 subst S_
 have Ho:B_ m f.t=ty:=by rw [ht];exact FC hty
 have HLV:Hid (CS m f=ty.p++f.loc):=AA (by unfold CS;rw [Ho])
 have hloc:f.loc.size+ty.p.size≤64:=by have:=hfo.loc;rw [Ho] at this;exact this
 have hadd:binOp .add 9 (.string ty.p) (.string f.loc)=pure (.string (ty.p++f.loc)):=GR _ _ _ (by omega)
 have Kg:=hfo.few
 have t_:(0:Int)≤t:=by omega
 have uD:(t:Int)<m.types.length:=by omega
 rw [ht] at hf0
 obtain⟨i0,hi0,hz0,hs0,YI⟩:=info_parts Jk
 have HI:=AA hi0;have HZ:=AA hz0;have HS:=AA hs0;have gX:=AA YI
 have lbt:bt<w.heap.size:=Nat.lt_of_lt_of_le hbt hhi
 have qy:bf<w.heap.size:=Nat.lt_of_lt_of_le hbf hhi
 clear h hm hk h0 h1 h2 h5 jX hfo Ho ht hty hi0 hz0 hs0 YI hfB X0 htp htr hbt hbf ht1 hhi htl hlt hloc
 go_enter func86,ntmps86
 go_upto_region 1 with fail
 generalize hw1:w.alloc (.cells #[.slice (some ⟨bt,ot,none⟩) m.types.length c0,v2,v3,.int .i64 m.first,.int .i64 m.most,.slice (some ⟨bf,of,none⟩) m.fns.length c5,v5,v6] 29)=w1
 have hb1:Below w.heap.size w w1:=by rw [←hw1];exact(Below.refl _ _).alloc (Nat.le_refl _) _
 have CX:Hid (AQ w1 w.heap.size 29 [.slice (some ⟨bt,ot,none⟩) m.types.length c0,v2,v3,.int .i64 m.first,.int .i64 m.most,.slice (some ⟨bf,of,none⟩) m.fns.length c5,v5,v6]):=AA (by rw [←hw1];exact AQ.new w 29 _)
 have hz1:w1.heap.size=w.heap.size+1:=by rw [←hw1];simp
 have hf0:=(hb1.cell qy (p:=⟨bf,of+k*3,none⟩)).trans hf0
 have hf1:=(hb1.cell qy (p:=⟨bf,of+k*3+1,none⟩)).trans hf1
 have hf2:=(hb1.cell qy (p:=⟨bf,of+k*3+2,none⟩)).trans hf2
 have ht0:=(hb1.cell lbt (p:=⟨bt,ot+t*2,none⟩)).trans ht0
 have q5:=CX.out.q 5 rfl
 have HB1:=AA hb1
 clear hw1 hb1
 go_upto_region 2 with fail
 generalize hw2:w1.alloc (.cells #[.int .i64 t,.string f.loc,.slice TJ f.code.length Ko] 96)=w2
 have hb2:Below w1.heap.size w1 w2:=by rw [←hw2];exact(Below.refl _ _).alloc (Nat.le_refl _) _
 have CV:=AA (CX.out.below hb2 CX.out.lt)
 have Im:Hid (AQ w2 (w.heap.size+1) 96 [.int .i64 t,.string f.loc,.slice TJ f.code.length Ko]):=AA (by rw [←hw2,←hz1];exact AQ.new w1 96 _)
 have hz2:w2.heap.size=w.heap.size+2:=by rw [←hw2];simp;omega
 have HB2:Hid (Below w.heap.size w w2):=AA (HB1.out.trans (hb2.mono HB1.out.size))
 have ht0:=(hb2.cell (Nat.lt_of_lt_of_le lbt HB1.out.size) (p:=⟨bt,ot+t*2,none⟩)).trans ht0
 clear hw2 hb2 hf0 hf1 hf2 q5
 try rw [hz1]
 have q0:=CV.out.q 0 rfl
 have q1:=CV.out.q 1 rfl
 have q2:=CV.out.q 2 rfl
 have q3:=CV.out.q 3 rfl
 have q4:=CV.out.q 4 rfl
 have q5:=CV.out.q 5 rfl
 have q6:=CV.out.q 6 rfl
 have q7:=CV.out.q 7 rfl
 have r0:=Im.out.q 0 rfl
 have r1:=Im.out.q 1 rfl
 have r2:=Im.out.q 2 rfl
 clear hz1
 go_still_tail 15,(by kernel_rfl)
 repeat still_step
 try refine wpStill_nil ?_
 change wpList _ _ _ _ _ w2.drew
 have HB3:Hid (Below w.heap.size w w2.drew):=AA (below_drewN HB2.out 1)
 have UC:Hid (AQ w2.drew (w.heap.size+1) 96 [.int .i64 t,.string f.loc,.slice TJ f.code.length Ko]):=AA Im.out
 have hz3:w2.drew.heap.size=w.heap.size+2:=hz2
 clear q0 q1 q2 q3 q4 q5 q6 q7 r0 r1 r2 ht0 hz2 CV Im HB2
 generalize w2.drew=w3 at*
 go_upto_region 3 with fail
 generalize hw4:w3.alloc (.cells #[.slice (some ⟨bt,ot,none⟩) m.types.length c0,v2,v3,.int .i64 m.first,.int .i64 m.most,.slice (some ⟨bf,of,none⟩) m.fns.length c5,v5,v6,.int .i64 k,.slice TJ f.code.length Ko,.string (ty.p++f.loc),.slice none 0 0,.slice none 0 0,.slice none 0 0,.slice none 0 0,.slice none 0 0] 152)=w4
 have hb4:Below w3.heap.size w3 w4:=by rw [←hw4];exact(Below.refl _ _).alloc (Nat.le_refl _) _
 have nS:Hid (AQ w4 (w.heap.size+2) 152 [.slice (some ⟨bt,ot,none⟩) m.types.length c0,v2,v3,.int .i64 m.first,.int .i64 m.most,.slice (some ⟨bf,of,none⟩) m.fns.length c5,v5,v6,.int .i64 k,.slice TJ f.code.length Ko,.string (ty.p++f.loc),.slice none 0 0,.slice none 0 0,.slice none 0 0,.slice none 0 0,.slice none 0 0]):=AA (by rw [←hw4,←hz3];exact AQ.new w3 152 _)
 have YQ:=AA (UC.out.below hb4 UC.out.lt)
 have C9:Hid (Below w.heap.size w w4):=AA (HB3.out.trans (hb4.mono HB3.out.size))
 clear hw4 hb4 hz3 UC HB3
 have r2:=YQ.out.q 2 rfl
 go_wp2_with fail
 refine(nP TJ Ko hi f.code w4 (Rd.below yT.out C9.out Bw.out) (Nat.le_trans Bw.out C9.out.size) (by omega)).mono ?_
 rintro e w5 ⟨hb5,uy⟩
 obtain⟨AE,AL,AO,nE,nL,nO,cE,cL,cO,e1,e2,rfl,yc⟩:=AAY uy
 have HMI:=AA yc
 have nT:=AA (nS.out.below hb5 nS.out.lt)
 have yU:=AA (YQ.out.below hb5 YQ.out.lt)
 have D8:Hid (Below w.heap.size w w5):=AA (C9.out.trans (hb5.mono C9.out.size))
 have HZ4:=AA nS.out.lt
 clear hb5 uy yc r2
 have g11:=nT.out.q 11 rfl
 have g12:=nT.out.q 12 rfl
 have g13:=nT.out.q 13 rfl
 have f11:=nT.out.frozen 11
 have f12:=nT.out.frozen 12
 have f13:=nT.out.frozen 13
 go_upto_region 7 with fail
 have hg6:=((nT.out.set 11 (.slice AE nE cE)).set 12 (.slice AL nL cL)).set 13 (.slice AO nO cO)
 have T_:Keep (fun q=>q≠w.heap.size+2) w5 (((w5.setCell ⟨w.heap.size+2,11,none⟩ (.slice AE nE cE)).setCell ⟨w.heap.size+2,12,none⟩ (.slice AL nL cL)).setCell ⟨w.heap.size+2,13,none⟩ (.slice AO nO cO)):=
  (((Keep.refl _ _).setCell (p:=⟨w.heap.size+2,11,none⟩) (by simp) _).setCell (p:=⟨w.heap.size+2,12,none⟩) (by simp) _).setCell (p:=⟨w.heap.size+2,13,none⟩) (by simp) _
 have yg:(((w5.setCell ⟨w.heap.size+2,11,none⟩ (.slice AE nE cE)).setCell ⟨w.heap.size+2,12,none⟩ (.slice AL nL cL)).setCell ⟨w.heap.size+2,13,none⟩ (.slice AO nO cO)).heap.size=w5.heap.size:=by simp
 generalize ((w5.setCell ⟨w.heap.size+2,11,none⟩ (.slice AE nE cE)).setCell ⟨w.heap.size+2,12,none⟩ (.slice AL nL cL)).setCell ⟨w.heap.size+2,13,none⟩ (.slice AO nO cO)=w6 at hg6 T_ yg⊢
 obtain⟨Y,hY⟩: ∃Y:Fy,Y=⟨.slice (some ⟨bt,ot,none⟩) m.types.length c0,v2,v3,.int .i64 m.first,.int .i64 m.most,.slice (some ⟨bf,of,none⟩) m.fns.length c5,v5,v6,k,ty.p++f.loc,.slice TJ f.code.length Ko,.slice AE nE cE,.slice AL nL cL,.slice AO nO cO⟩:=⟨_,rfl⟩
 have HY:=AA hY
 have HG6:Hid (AQ w6 (w.heap.size+2) 152 (wkC Y (.slice none 0 0) (.slice none 0 0))):=AA (by rw [hY];exact hg6)
 have HF6:=AA (yU.out.keep T_ (by omega))
 have bZ:=AA T_
 have HZ6:=AA yg
 have hl6:w.heap.size+2<w6.heap.size:=HG6.out.lt
 have FQ:Hid (Below w.heap.size w w6):=AA (D8.out.trans (T_.below D8.out.size (fun q hq=>by omega)))
 clear hg6 T_ yg hY g11 g12 g13 f11 f12 f13
 go_wp2_with fail
 go_loopw [14] (fun i wr=> ∃(j:Nat) (A:Option Addr) (d:Nat),j≤f.code.length∧i= .int .i64 j∧ADo w6 (w.heap.size+2) Y A d j wr) (fun i _=>f.code.length-(intOf i).toNat)
 case atStart=>exact⟨0,none,0,Nat.zero_le _,rfl,HG6.out,World.ownsRow_nil _ _ _ _,Keep.refl _ _⟩
 case round=>
  obtain⟨j,A,d,hj,rfl,hin⟩:=hrel
  have Es:=AA hin
  have HFr:=AA (HF6.out.keep hin.kp ⟨by omega,HF6.out.lt⟩)
  have r2:=HFr.out.q 2 rfl
  have ADK:=hin.kp.size
  clear hin
  by_cases hlt:j<f.code.length
  ·have g14:=Es.out.blk.q 14 rfl
   have hba:Below wr.heap.size wr (wr.alloc (.cells #[iv (-1)] 3)):=(Below.refl _ _).alloc (Nat.le_refl _) _
   have HO:=AA (row_one wr (iv (-1)) 3)
   have HOA:=AA (Es.out.own.alloc (.cells #[iv (-1)] 3))
   have HGA:=AA (Es.out.blk.below hba Es.out.blk.lt)
   clear hba
   go_wp2_with (at_builtin;refine D9 _ rfl (.tmp 68) (.tmp 69) 23 rfl w6.heap.size 3 i0 _ 8 underlying23 HI.out HZ.out HS.out gX.out rfl (.slice A j d) j (List.replicate j (iv (-1))) rfl HOA.out (wr.heap.size+1) _ 1 1 [iv (-1)] rfl rfl (by exact HO.out) (by intro u hu;simp at hu;subst hu;rfl) (by unfold maxLen;omega) (by omega) (by simp;omega) ?_;intro A2 c2 w7 h2 h3 h4;have H2:=AA h2;have H3:=AA h3;have H4:=AA h4;have HG7:=AA (Av h3 HGA.out (Ay HOA.out HGA.out (by decide)));have g14:=HG7.out.q 14 rfl;have f14:=HG7.out.frozen 14;clear h2 h3 h4)
   refine⟨⟨j+1,A2,c2,by omega,by go_num,?_,?_,?_⟩,by simp [intOf];omega⟩
   ·exact HG7.out.set 14 (.slice A2 (j+1) c2)
   ·have:=J3 H2.out (p:=⟨w.heap.size+2,14,none⟩) hl6 (.slice A2 (j+1) c2)
    rw [PV] at this
    exact this
   ·refine Keep.setCell (Keep.grown (Es.out.kp.alloc _) H3.out (fun q hq hK=> ?_)) (p:=⟨w.heap.size+2,14,none⟩) (fun hK=>hK.1 rfl) _
    have:=(HOA.out.lt q hq).1
    omega
  ·obtain rfl:f.code.length=j:=by omega
   go_wp2_with fail
   go_ret3
   have WJ:Below w.heap.size w wr:=FQ.out.trans (Es.out.kp.below FQ.out.size (fun q hq=>⟨by omega,by have:=FQ.out.size;omega⟩))
   refine⟨WJ,w.heap.size+2,?_⟩
   have yc:=HMI.out
   unfold nR at yc
   cases hc:ctl f.code with
   | inl q=>
    rw [hc] at yc
    obtain⟨rfl,rfl⟩:=yc
    rfl
   | inr c=>
    rw [hc] at yc
    obtain⟨rfl,rfl,⟨rfl,m1⟩,⟨rfl,m2⟩,⟨rfl,m3⟩⟩:=yc
    refine⟨rfl,w6.heap.size,Y,.slice A f.code.length d,?_,by omega⟩
    have hY:=HY.out
    subst hY
    have hz5:w5.heap.size=w6.heap.size:=HZ6.out.symm
    have mv: ∀ {A:Option Addr} {n c:Nat} {xs:List Int},(Rd.i64.sl false).R w5 w4.heap.size w5.heap.size [.slice A n c] xs→(Rd.i64.sl false).R wr (w.heap.size+2+1) w6.heap.size [.slice A n c] xs:=fun {A n c xs} hr=>by
     have h6:=Rd.C8 hr bZ.out (Nat.le_refl _) (fun q h1 _=>by have:=HZ4.out;show q≠_;omega)
     have hr':=Rd.C8 h6 Es.out.kp (by omega) (fun q h1 h2=>⟨by have:=HZ4.out;omega,by omega⟩)
     exact Rd.more _ HZ4.out (by omega) hr'
    have mw: ∀ {α:Type} {r:Rd α} {cs:List Value} {x:α},r.R w 0 hi cs x→r.R wr 0 (w.heap.size+2) cs x:=fun {α r cs x} hr=>by
     have h6:=Rd.below hr FQ.out Bw.out
     have:=Bw.out
     have hr':=Rd.C8 h6 Es.out.kp (by omega) (fun q h1 h2=>⟨by omega,by omega⟩)
     exact Rd.more _ (Nat.le_refl _) (by omega) hr'
    refine⟨Es.out.blk,⟨mw H.out,WS.out,HM.out⟩,⟨⟨TJ,Ko,rfl,mw yT.out⟩⟩,⟨AE,cE,rfl,mv m1⟩,⟨AL,cL,rfl,mv m2⟩,⟨AO,cO,rfl,mv m3⟩,HLV.out.symm,?_,World.ownsRow_nil _ _ _ _,hl6,Es.out.kp.size⟩
    have hfl:Kr f.code.length (CY m f)=List.replicate f.code.length (-1):=by simp [Kr,CY]
    rw [hfl,List.length_replicate,List.map_replicate]
    exact Es.out.own
end Go.Proofs.YtlagonfamllgjaaGreatDoor
