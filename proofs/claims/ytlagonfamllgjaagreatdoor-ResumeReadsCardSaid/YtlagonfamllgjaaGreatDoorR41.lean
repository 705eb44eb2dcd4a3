/- Part 41 of the proof: R10O -/
import Derived.Test.YtlagonfamllgjaaGreatDoorR40
namespace Go.Proofs.YtlagonfamllgjaaGreatDoor
set_option linter.unusedVariables false
set_option linter.unusedSimpArgs false
set_option maxRecDepth 100000
set_option maxHeartbeats 4000000
open Go.RowKit Tryz
theorem gU {m:AP} {f:Bt} {AB:List Int} {j:Nat} {st st':Cm} {x:Ad} (h:EA m f AB j st x= .inr st'):st'.high=st.high:=by
 unfold EA at h
 split at h
 ·split at h
  ·cases h
  split at h
  ·injection h with h;subst h;rfl
  split at h
  ·cases h
  ·injection h with h;subst h;rfl
 ·split at h
  ·cases h
  split at h
  ·cases h
  split at h
  ·cases h
  ·injection h with h;subst h;rfl
theorem YK (W:World) (b:Nat) (a0 a1 a2 a3 a4:Value):Keep (fun q=>q≠b) W (Gx W b a0 a1 a2 a3 a4):=by
 unfold Gx
 exact(((((Keep.refl _ _).setCell (p:=⟨b,0,none⟩) (by simp) _).setCell (p:=⟨b,1,none⟩) (by simp) _).setCell (p:=⟨b,2,none⟩) (by simp) _).setCell (p:=⟨b,3,none⟩) (by simp) _).setCell (p:=⟨b,4,none⟩) (by simp) _
theorem gV (cs:List Value) (hi:Nat) (m:AP) (k:Nat) (f:Bt) (w:World) (h:Db.R w 0 hi cs m) (hhi:hi≤w.heap.size) (hm:J7 m) (hk:m.fns[k]?=some f):
 Calls prog 55 #[.agg cs.toArray,.int .i64 k] w fun e w'=>mD m f w e w':=by
 have H:=AA h;have HM:=AA hm;have CJ:=AA hhi;have WC:=AA hk
 have wZ:=AA (hm.fns f (List.mem_of_getElem? hk))
 obtain⟨v1,v2,v3,v4,v5,v6,rfl,_⟩:=Av.1 h
 obtain⟨i1,l9,WT,WU,YG⟩:=info_parts QZ
 have HI1:=AA l9;have HZ1:=AA WT;have Nr:=AA WU;have zS:=AA YG
 have J_:=wZ.out.few
 clear h hm hhi hk l9 WT WU YG
 go_enter func55,ntmps55
 go_upto_region 1 with fail
 generalize hw0:w.alloc (.cells #[v1,v2,v3,.int .i64 m.first,.int .i64 m.most,v4,v5,v6] 29)=w0
 have hb0:Below w.heap.size w w0:=by rw [←hw0];exact(Below.refl _ _).alloc (Nat.le_refl _) _
 have HX0:Hid (AQ w0 w.heap.size 29 [v1,v2,v3,.int .i64 m.first,.int .i64 m.most,v4,v5,v6]):=AA (by rw [←hw0];exact AQ.new w 29 _)
 have hz0:w0.heap.size=w.heap.size+1:=by rw [←hw0];simp
 clear hw0
 generalize hw1:w0.alloc (.cells #[.slice none 0 0,.slice none 0 0,.slice none 0 0,.slice none 0 0,.int .i64 0] 107)=w1
 have hb1:Below w0.heap.size w0 w1:=by rw [←hw1];exact(Below.refl _ _).alloc (Nat.le_refl _) _
 have CS:=AA (HX0.out.below hb1 HX0.out.lt)
 have HT1:Hid (AQ w1 (w.heap.size+1) 107 [.slice none 0 0,.slice none 0 0,.slice none 0 0,.slice none 0 0,.int .i64 0]):=AA (by rw [←hw1,←hz0];exact AQ.new w0 107 _)
 have HB1:Hid (Below w.heap.size w w1):=AA (hb0.trans (hb1.mono hb0.size))
 clear hw1 hb1 hb0 HX0
 try rw [hz0]
 clear hz0
 have q0:=CS.out.q 0 rfl
 have q1:=CS.out.q 1 rfl
 have q2:=CS.out.q 2 rfl
 have q3:=CS.out.q 3 rfl
 have q4:=CS.out.q 4 rfl
 have q5:=CS.out.q 5 rfl
 have q6:=CS.out.q 6 rfl
 have q7:=CS.out.q 7 rfl
 go_wp2_with fail
 refine(sF _ hi m k f w1 (Rd.below H.out HB1.out CJ.out) (Nat.le_trans CJ.out HB1.out.size) HM.out WC.out).mono ?_
 rintro e w2 ⟨hb2,g,hp⟩
 have HT2:=AA (HT1.out.below hb2 HT1.out.lt)
 have HB2:Hid (Below w.heap.size w w2):=AA (HB1.out.trans (hb2.mono HB1.out.size))
 have HZT:=AA HT1.out.lt
 clear hb2 q0 q1 q2 q3 q4 q5 q6 q7
 cases hc:ctl f.code with
 | inl q=>
  rw [hc] at hp
  dsimp only at hp
  subst hp
  have hne:(q.1 !=0)=true:=by have:=Sv hc;simpa using this
  have SQ:Hid (Fv m f= .inl q):=AA (by unfold Fv;rw [hc])
  clear hc
  have p0:=HT2.out.q 0 rfl
  have p1:=HT2.out.q 1 rfl
  have p2:=HT2.out.q 2 rfl
  have p3:=HT2.out.q 3 rfl
  have p4:=HT2.out.q 4 rfl
  have p5:=HT2.out.frozen 0
  have p6:=HT2.out.frozen 1
  have p7:=HT2.out.frozen 2
  have p8:=HT2.out.frozen 3
  have p9:=HT2.out.frozen 4
  go_wp2_with fail
  obtain⟨hz,hbz⟩:=MK HT2.out HB2.out
  change bodyPost _ _ _ _ _ (Gw w2 (w.heap.size+1))
  clear p0 p1 p2 p3 p4 p5 p6 p7 p8 p9
  generalize Gw w2 (w.heap.size+1)=w8 at hz hbz⊢
  have z0:=hz.q 0 rfl
  have z1:=hz.q 1 rfl
  have z2:=hz.q 2 rfl
  have z3:=hz.q 3 rfl
  have z4:=hz.q 4 rfl
  refine⟨rfl,.tuple #[Nv,.int .i64 q.1,.int .i64 q.2],by simp [Nv,results,results55,go_sem,z0,z1,z2,z3,z4],hbz,?_⟩
  rw [SQ.out]
 | inr c=>
  rw [hc] at hp
  obtain⟨rfl,h1,y,vF0,hwk0,hg0⟩:=hp
  have HC:=AA hc
  have HWK0:=AA hwk0
  have HGG:Hid (w.heap.size+1<g):=AA (by have:=HZT.out;omega)
  clear hc hwk0 hg0
  go_wp2_with fail
  go_loopw [10,11,12,13,14,15,16] (fun s hg pc _ _ _ _ wr=> ∃(j:Nat) (sc:Ai) (st:Cm) (vF vS:Value),j≤f.code.length∧pc= .int .i64 j∧s= .string st.shape∧hg= .int .i64 (st.high:Nat)∧YJ w wr h1 g y m f c j sc st vF vS) (fun _ _ pc _ _ _ _ _=>f.code.length-(intOf pc).toNat)
  case atStart=>exact⟨0,Ck f.code.length,CO m f,vF0,.slice none 0 0,Nat.zero_le _,rfl,rfl,rfl,Kn HC.out,by rw [Nat.sub_zero],HWK0.out,rfl,HB2.out,HT2.out,HGG.out⟩
  case round=>
   obtain⟨j,sc,st,vF,vS,hj,rfl,rfl,rfl,ht⟩:=hrel
   have GD:=AA ht
   clear ht
   obtain⟨AS,cS,rfl⟩:=CZ GD.out.wk.sh
   have YL:=GD.out.lock.val.size
   have hH256:=GD.out.lock.val.high
   by_cases hlt:j<f.code.length
   ·obtain⟨x,hx⟩: ∃x,f.code[j]?=some x:=⟨_,List.getElem?_eq_getElem hlt⟩
    have HX:=AA hx
    obtain⟨b,ob,Al,d,Bl,_,_,c9,hbg,x0,_,_,_,_,_⟩:=GD.out.wk.Sc hx
    have hj0:(0:Int)≤j:=by omega
    have hj1:(j:Int)<f.code.length:=by omega
    obtain⟨o,r,oV⟩:=GD.out.lock.val.ne (GD.out.lock.MZ hx)
    have hnone:Ch st x=if st.dead then(if Ah x.op=false then .inl 36 else if 256<o.base.size+o.s.r.size then .inl 34 else .inr {st with shape:=o.base++o.s.r}) else .inr st:=by
     unfold Ch Bg;rw [oV];rfl
    have ZU:=AA hnone
    have Iw:Hid (Nc m f st.shapes (KR f.code.length st) o):=AA ((GD.out.lock.val.each o (by rw [oV];exact List.mem_cons_self ..)).keep (Nat.le_refl _) (fun p hp=>rfl) (fun p hp=>mF (by rw [GD.out.lock.val.floors,←GD.out.lock.val.shapes];exact hp)))
    obtain⟨z1,z2,z3⟩:=GD.out.lock.op8 HM.out o (by rw [oV];exact List.mem_cons_self ..)
    obtain⟨P,hP⟩: ∃P,o.pc=P:=⟨_,rfl⟩
    have Sg:Hid (EF sc.op=P):=AA (by
     have:=GD.out.lock.lab hx (n:=0) (q:=o) (by rw [oV];rfl)
     rw [←hP];exact this.2.symm)
    have HBS:Hid (∀W,Below wr.heap.size wr W→Calls prog 88 #[.pointer (some ⟨g,0,none⟩),.int .i64 P] W fun e w'=>e= .returned (.string o.base)∧ ∃k,w'=W.drewN k):=AA (fun W hW=>hP▸SY o W (GD.out.wk.below hW) Iw.out GD.out.lock.val.bnd)
    have LQ:Hid (∀W,Below wr.heap.size wr W→Calls prog 89 #[.pointer (some ⟨g,0,none⟩),.int .i64 P] W fun e w'=>e= .returned (.agg #[.string o.s.p,.string o.s.r])∧Below W.heap.size W w'):=AA (fun W hW=>hP▸Kw o W (GD.out.wk.below hW) Iw.out)
    have hadd:binOp .add 9 (.string o.base) (.string o.s.r)=pure (.string (o.base++o.s.r)):=Fh _ _ _ (by omega)
    obtain⟨b3,o3,d3,e3,hc3⟩:=GD.out.wk.OZ (GD.out.lock.owner hx)
    have iW:wr.cell? ⟨g,13,none⟩=some (.slice (some ⟨b3,o3,none⟩) f.code.length d3):=(GD.out.wk.blk.cell 13).trans (by rw [←e3];rfl)
    have s3:=(hc3 j _ (GD.out.lock.owner hx)).1
    rw [Sg.out] at s3
    have hbO:(o.base++o.s.r).size=o.base.size+o.s.r.size:=ByteArray.size_append
    have key:(decide (0<j)=false∧decide ((0:Int)<j)=false∧st.dead=false)∨(∃z,decide (0<j)=true∧decide ((0:Int)<j)=true∧0<j∧f.code[j-1]?=some z∧st.dead=DV z.op):=by
     have hd:=GD.out.dead
     unfold bV at hd
     cases j with
     | zero=>exact .inl ⟨rfl,rfl,hd⟩
     | succ i=>
      have hi:i<f.code.length:=by omega
      refine .inr ⟨f.code[i],decide_eq_true (by omega),decide_eq_true (by omega),by omega,by simp [List.getElem?_eq_getElem hi],?_⟩
      rw [hd];simp only [List.getElem?_eq_getElem hi]
    clear hx oV hP e3 hc3 hnone hbg
    rcases key with⟨d0n,d0,hdd⟩ | ⟨z,d0n,d0,hj2,hz,hdd⟩
    case' inl=>
     have Fb: ∃st1,Ch st x= .inr st1∧st1.shape=st.shape:=⟨st,by rw [ZU.out,hdd];rfl,rfl⟩
     clear hdd
     go_upto_region 17 with fail
     generalize st.shape=S at Fb YL⊢
     have HST:=AA Fb
     obtain⟨w2,hb2,hw2⟩: ∃w2,Below wr.heap.size wr w2∧w2=wr:=⟨wr,Below.refl _ _,rfl⟩
     have YM:=AA hb2
     rw [←hw2]
     clear hw2 hb2 Fb d0 d0n c9 x0 iW s3
    case' inr=>
     obtain⟨b4,ob4,_,d4,_,_,ec4,k9,_,x4,_⟩:=GD.out.wk.Sc hz
     have e9:=k9.symm.trans c9
     injection e9 with e9;injection e9 with e9 _ _;injection e9 with e9;injection e9 with e9a e9b _
     subst e9a e9b
     have zY:Hid (Calls prog 87 #[.int .u8 (z.op.toNat:Int)] wr fun e w'=>e= .returned (.bool (DV z.op))∧wr=w'):=AA ((lG z.op wr).mono fun e w' h=>⟨h.1,h.2.symm⟩)
     have hj3:(0:Int)≤(j:Int)-1:=by omega
     have hj4:(j:Int)-1<f.code.length:=by omega
     clear k9 ec4 hz
     cases haw:DV z.op
     case' false=>
      rw [haw] at zY hdd
      have Fb: ∃st1,Ch st x= .inr st1∧st1.shape=st.shape:=⟨st,by rw [ZU.out,hdd];rfl,rfl⟩
      clear haw hdd
      go_upto_region 17 with(refine zY.out.mono ?_;rintro e w' ⟨rfl,rfl⟩)
      generalize st.shape=S at Fb YL⊢
      have HST:=AA Fb
      obtain⟨w2,hb2,hw2⟩: ∃w2,Below wr.heap.size wr w2∧w2=wr:=⟨wr,Below.refl _ _,rfl⟩
      have YM:=AA hb2
      rw [←hw2]
      clear hw2 hb2 Fb d0 d0n c9 x0 iW s3 x4 hj3 hj4 zY
     case' true=>
      rw [haw] at zY hdd
      have sj:Hid (Ch st x=if Ah x.op=false then .inl 36 else if 256<o.base.size+o.s.r.size then .inl 34 else .inr {st with shape:=o.base++o.s.r}):=AA (by rw [ZU.out,hdd];rfl)
      clear haw hdd ZU
      by_cases hcl:Ah x.op=false
      case pos=>
       have SQ:Hid (Fv m f= .inl (36,(j:Int))):=AA (GD.out.stop HC.out HX.out (by unfold ED;rw [sj.out,if_pos hcl]))
       have hq:=of_decide_eq_false hcl
       have q5:((x.op.toNat:Int) !=5)=true:=by simp;omega
       have q6:((x.op.toNat:Int) !=6)=true:=by simp;omega
       clear hcl hq
       have Sy:=AA GD.out.res;have HBL:=AA GD.out.Ep
       have p0:=Sy.out.q 0 rfl
       have p1:=Sy.out.q 1 rfl
       have p2:=Sy.out.q 2 rfl
       have p3:=Sy.out.q 3 rfl
       have p4:=Sy.out.q 4 rfl
       have p5:=Sy.out.frozen 0
       have p6:=Sy.out.frozen 1
       have p7:=Sy.out.frozen 2
       have p8:=Sy.out.frozen 3
       have p9:=Sy.out.frozen 4
       go_wp2_with (refine zY.out.mono ?_;rintro e w' ⟨rfl,rfl⟩)
       clear c9 x0 iW s3 x4
       obtain⟨hz,hbz⟩:=MK Sy.out HBL.out
       change bodyPost _ _ _ _ _ (Gw wr (w.heap.size+1))
       clear p0 p1 p2 p3 p4 p5 p6 p7 p8 p9
       generalize Gw wr (w.heap.size+1)=w8 at hz hbz⊢
       have z0:=hz.q 0 rfl
       have z1:=hz.q 1 rfl
       have z2:=hz.q 2 rfl
       have z3:=hz.q 3 rfl
       have z4:=hz.q 4 rfl
       refine⟨rfl,.tuple #[Nv,.int .i64 36,.int .i64 (j:Int)],by simp [Nv,results,results55,go_sem,z0,z1,z2,z3,z4],hbz,?_⟩
       rw [SQ.out]
      case' neg=>
       have wM:=AA hcl
       have hq:x.op.toNat=5∨x.op.toNat=6:=by
        cases hh:Ah x.op with
        | true=>exact of_decide_eq_true hh
        | false=>exact absurd hh hcl
       have q56:(((x.op.toNat:Int) !=5)=false)∨(((x.op.toNat:Int) !=5)=true∧((x.op.toNat:Int) !=6)=false):=by
        rcases hq with e | e
        ·exact .inl (by simp;omega)
        ·exact .inr ⟨by simp;omega,by simp;omega⟩
       clear hcl hq
       by_cases hbig:256<o.base.size+o.s.r.size
       case pos=>
        have SQ:Hid (Fv m f= .inl (34,(j:Int))):=AA (GD.out.stop HC.out HX.out (by unfold ED;rw [sj.out,if_neg wM.out,if_pos hbig]))
        have wh:decide ((256:Int)<(o.base.size:Int)+o.s.r.size)=true:=decide_eq_true (by omega)
        clear hbig
        rcases q56 with q5 | ⟨q5,q6⟩
        all_goals
         go_upto_region 14 with(refine zY.out.mono ?_;rintro e w' ⟨rfl,rfl⟩)
         go_wp2_with fail
         refine(HBS.out wr (Below.refl _ _)).mono ?_
         rintro e w' ⟨rfl,kk,rfl⟩
         go_wp2_with fail
         refine(LQ.out (wr.drewN kk) (below_drewN (Below.refl _ _) kk)).mono ?_
         rintro e w2 ⟨rfl,hb2⟩
         have YM:Hid (Below wr.heap.size wr w2):=AA ((below_drewN (Below.refl _ _) kk).trans hb2)
         have Sy:=AA (GD.out.res.below YM.out GD.out.res.lt)
         have HBL:Hid (Below w.heap.size w w2):=AA (GD.out.Ep.trans (YM.out.mono GD.out.Ep.size))
         have f1:=SX o.s.p o.s.r w2
         clear c9 x0 iW s3 x4 hb2
         have p0:=Sy.out.q 0 rfl
         have p1:=Sy.out.q 1 rfl
         have p2:=Sy.out.q 2 rfl
         have p3:=Sy.out.q 3 rfl
         have p4:=Sy.out.q 4 rfl
         have p5:=Sy.out.frozen 0
         have p6:=Sy.out.frozen 1
         have p7:=Sy.out.frozen 2
         have p8:=Sy.out.frozen 3
         have p9:=Sy.out.frozen 4
         go_wp2_with fail
         obtain⟨hz,hbz⟩:=MK Sy.out HBL.out
         change bodyPost _ _ _ _ _ (Gw w2 (w.heap.size+1))
         clear p0 p1 p2 p3 p4 p5 p6 p7 p8 p9
         generalize Gw w2 (w.heap.size+1)=w8 at hz hbz⊢
         have z0:=hz.q 0 rfl
         have z1:=hz.q 1 rfl
         have z2:=hz.q 2 rfl
         have z3:=hz.q 3 rfl
         have z4:=hz.q 4 rfl
         refine⟨rfl,.tuple #[Nv,.int .i64 34,.int .i64 (j:Int)],by simp [Nv,results,results55,go_sem,z0,z1,z2,z3,z4],hbz,?_⟩
         rw [SQ.out]
       case' neg=>
        have Fb: ∃st1,Ch st x= .inr st1∧st1.shape=o.base++o.s.r:=⟨_,by rw [sj.out,if_neg wM.out,if_neg hbig],rfl⟩
        have wh:decide ((256:Int)<(o.base.size:Int)+o.s.r.size)=false:=decide_eq_false (by omega)
        have HBIG:=AA hbig
        clear hbig
        have Ym:=AA Fb
        clear Fb
        rcases q56 with q5 | ⟨q5,q6⟩
        all_goals
         go_upto_region 14 with(refine zY.out.mono ?_;rintro e w' ⟨rfl,rfl⟩)
         go_wp2_with fail
         refine(HBS.out wr (Below.refl _ _)).mono ?_
         rintro e w' ⟨rfl,kk,rfl⟩
         go_wp2_with fail
         refine(LQ.out (wr.drewN kk) (below_drewN (Below.refl _ _) kk)).mono ?_
         rintro e w2 ⟨rfl,hb2⟩
         have YM:Hid (Below wr.heap.size wr w2):=AA ((below_drewN (Below.refl _ _) kk).trans hb2)
         have f1:=SX o.s.p o.s.r w2
         clear c9 x0 iW s3 x4 hb2
         go_upto_region 17 with fail
         clear YL
         have YL:(o.base++o.s.r).size≤256:=by have:=HBIG.out;omega
         have Fb:=Ym.out
         clear hadd hbO wh sj Ym f1
         generalize o.base++o.s.r=S at Fb YL⊢
         have HST:=AA Fb
         clear Fb
    all_goals
     have sw:=GD.out.wk.below YM.out
     obtain⟨st1,hb1,hsh⟩:=HST.out
     have iR:=AA hb1;have HSH:=AA hsh
     have Fa:Hid (Below w.heap.size w w2):=AA (GD.out.Ep.trans (YM.out.mono GD.out.Ep.size))
     have ADS:=AA (GD.out.res.below YM.out GD.out.res.lt)
     have LM:Hid (Below w2.heap.size w2 (w2.alloc (.cells #[.string S] 9))):=AA ((Below.refl _ _).alloc (Nat.le_refl _) _)
     have zZ:=AA (sw.below LM.out)
     have HO:=AA (row_one w2 (.string S) 9)
     have hh1:=sw.hh
     have g15:=sw.blk.q 15 rfl
     have hlen:st.shapes.length≤2048:=by have:=GD.out.lock.val.shapes;omega
     clear sw hb1 hsh
     go_wp2_with (at_builtin;refine D_ _ rfl (.tmp 92) (.tmp 94) 105 rfl h1 9 i1 _ 16 underlying105 HI1.out HZ1.out Nr.out zS.out rfl (.slice AS st.shapes.length cS) st.shapes.length (st.shapes.map Value.string) rfl zZ.out.sh (w2.heap.size+1) _ 1 1 [.string S] rfl rfl (by exact HO.out) (by intro u hu;simp at hu;subst hu;rfl) (by unfold maxLen;omega) (by omega) (by simp;omega) ?_;intro A2 c2 w5 h2 h3 h4;have H2:=AA h2;have H3:=AA h3;have PG:=AA (Ay h3 zZ.out.blk (A_ zZ.out.sh zZ.out.blk (by decide)));have g15:=PG.out.q 15 rfl;have f15:=PG.out.frozen 15;clear h2 h3 h4)
     have hgg:=GD.out.gg
     have hg1:=zZ.out.gh
     have hsa:=zZ.out.V5 rfl H3.out H2.out
     have hb5:Below h1 (w2.alloc (.cells #[.string S] 9)) w5:=BG zZ.out.sh H3.out (by simp;omega)
     have hr6:AQ (w5.setCell ⟨g,15,none⟩ (.slice A2 (st.shapes.length+1) c2)) (w.heap.size+1) 107 [.slice none 0 0,.slice none 0 0,.slice none 0 0,.slice none 0 0,.int .i64 0]:=((ADS.out.below LM.out ADS.out.lt).below hb5 (by omega)).far (p:=⟨g,15,none⟩) (by simp;omega) _
     have hb6:Below w.heap.size w (w5.setCell ⟨g,15,none⟩ (.slice A2 (st.shapes.length+1) c2)):=((Fa.out.trans (LM.out.mono Fa.out.size)).trans (hb5.mono (by omega))).setCell (p:=⟨g,15,none⟩) (by simp;omega) _
     have ADT:=AA (sZ HM.out wZ.out HC.out GD.out.lock HX.out iR.out (by rw [HSH.out];exact hsa))
     have IV:=AA hr6;have EL:=AA hb6
     clear hsa hb5 hr6 hb6 g15 f15 PG H2 H3
     generalize w5.setCell ⟨g,15,none⟩ (.slice A2 (st.shapes.length+1) c2)=w6 at*
     refine(mH ADT.out).mono ?_
     rintro e w7 ⟨Q9,mE⟩
     have TP:Hid (Below w.heap.size w w7):=AA (EL.out.trans (Q9.mono (by omega)))
     have QS:=AA (IV.out.below Q9 (by omega))
     clear Q9
     cases hrow:EA m f c.AB j (Co st1) x with
     | inl er=>
      rw [hrow] at mE
      dsimp only at mE
      subst mE
      have hsv:ED m f c.AB j st x= .inl er:=by unfold ED;rw [iR.out];exact hrow
      have SQ:=AA (GD.out.stop HC.out HX.out hsv)
      have hne:(er !=0)=true:=by have:=Ud hsv;simpa using this
      clear hrow hsv
      have p0:=QS.out.q 0 rfl
      have p1:=QS.out.q 1 rfl
      have p2:=QS.out.q 2 rfl
      have p3:=QS.out.q 3 rfl
      have p4:=QS.out.q 4 rfl
      have p5:=QS.out.frozen 0
      have p6:=QS.out.frozen 1
      have p7:=QS.out.frozen 2
      have p8:=QS.out.frozen 3
      have p9:=QS.out.frozen 4
      go_wp2_with fail
      obtain⟨hz,hbz⟩:=MK QS.out TP.out
      change bodyPost _ _ _ _ _ (Gw w7 (w.heap.size+1))
      clear p0 p1 p2 p3 p4 p5 p6 p7 p8 p9
      generalize Gw w7 (w.heap.size+1)=w8 at hz hbz⊢
      have z0:=hz.q 0 rfl
      have z1:=hz.q 1 rfl
      have z2:=hz.q 2 rfl
      have z3:=hz.q 3 rfl
      have z4:=hz.q 4 rfl
      refine⟨rfl,.tuple #[Nv,.int .i64 er,.int .i64 (j:Int)],by simp [Nv,results,results55,go_sem,z0,z1,z2,z3,z4],hbz,?_⟩
      rw [SQ.out]
     | inr st'=>
      rw [hrow] at mE
      dsimp only at mE
      obtain⟨rfl,ADU⟩:=mE
      have hsv:ED m f c.AB j st x= .inr st':=by unfold ED;rw [iR.out];exact hrow
      have HMX:Hid (max (st.high:Int) (S.size:Int)=((st'.high:Nat):Int)):=AA (by
       rw [gU hrow]
       show _=((max st1.high st1.shape.size:Nat):Int)
       rw [(PW GD.out.lock.val iR.out).2.2.2.1,HSH.out];omega)
      obtain⟨sc',htb⟩:=GD.out.next HM.out wZ.out HX.out hsv TP.out QS.out ADU
      have HTB7:=AA htb
      clear hrow hsv htb ADU
      go_wp2_with fail
      refine⟨⟨j+1,sc',st',vF,_,by omega,by go_num,rfl,by rw [HMX.out],HTB7.out⟩,by simp [intOf];omega⟩
   ·obtain rfl:f.code.length=j:=by omega
    have ADV:=AA (GD.out.done HC.out)
    have NI:Hid (KR f.code.length st=st.floors):=AA (mG GD.out.lock.val.floors)
    obtain⟨Af,cf,rfl⟩:=CZ GD.out.wk.fl
    obtain⟨Ac,dc,ec,_⟩:=GD.out.wk.cd.cd
    obtain⟨AE,dE,eE,rE⟩:=GD.out.wk.en
    obtain⟨AL,dL,eL,rL⟩:=GD.out.wk.el
    have HRE:=AA rE;have HRL:=AA rL
    have g9:wr.cell? ⟨g,9,none⟩=some (.slice Ac f.code.length dc):=(GD.out.wk.blk.cell 9).trans (by rw [←ec];rfl)
    have g11:wr.cell? ⟨g,11,none⟩=some (.slice AE f.code.length dE):=(GD.out.wk.blk.cell 11).trans (by rw [←eE];rfl)
    have g12:wr.cell? ⟨g,12,none⟩=some (.slice AL f.code.length dL):=(GD.out.wk.blk.cell 12).trans (by rw [←eL];rfl)
    have g14:=GD.out.wk.blk.q 14 rfl
    have g15:=GD.out.wk.blk.q 15 rfl
    clear ec eE eL rE rL
    go_wp2_with fail
    go_still_tail 18,(by kernel_rfl)
    repeat still_step
    try refine wpStill_nil ?_
    change wpList _ _ _ _ _ wr.drew
    have QS:Hid (AQ wr.drew (w.heap.size+1) 107 [.slice none 0 0,.slice none 0 0,.slice none 0 0,.slice none 0 0,.int .i64 0]):=AA GD.out.res
    have TP:Hid (Below w.heap.size w wr.drew):=AA (below_drewN GD.out.Ep 1)
    have gW:Hid (D7 wr.drew h1 g y m f c (.slice Af (KR f.code.length st).length cf) (.slice AS st.shapes.length cS) (KR f.code.length st) st.shapes):=AA (GD.out.wk.below (below_drewN (Below.refl _ _) 1))
    have HRE7:Hid ((Rd.i64.sl false).R wr.drew (g+1) h1 [.slice AE f.code.length dE] c.ends):=AA (Rd.below HRE.out (below_drewN (Below.refl _ _) 1) GD.out.wk.hh)
    have HRL7:Hid ((Rd.i64.sl false).R wr.drew (g+1) h1 [.slice AL f.code.length dL] c.AB):=AA (Rd.below HRL.out (below_drewN (Below.refl _ _) 1) GD.out.wk.hh)
    clear g9 g11 g12 g14 g15
    generalize wr.drew=w7 at*
    have p0:=QS.out.q 0 rfl
    have p1:=QS.out.q 1 rfl
    have p2:=QS.out.q 2 rfl
    have p3:=QS.out.q 3 rfl
    have p4:=QS.out.q 4 rfl
    have p5:=QS.out.frozen 0
    have p6:=QS.out.frozen 1
    have p7:=QS.out.frozen 2
    have p8:=QS.out.frozen 3
    have p9:=QS.out.frozen 4
    go_wp2_with fail
    obtain⟨hz,hbz,_,_⟩:=WV (.slice AS st.shapes.length cS) (.slice AE f.code.length dE) (.slice AL f.code.length dL) (.slice Af (KR f.code.length st).length cf) (.int .i64 (st.high:Int)) QS.out TP.out
    have hkz:=YK w7 (w.heap.size+1) (.slice AS st.shapes.length cS) (.slice AE f.code.length dE) (.slice AL f.code.length dL) (.slice Af (KR f.code.length st).length cf) (.int .i64 (st.high:Int))
    change bodyPost _ _ _ _ _ (Gx w7 (w.heap.size+1) (.slice AS st.shapes.length cS) (.slice AE f.code.length dE) (.slice AL f.code.length dL) (.slice Af (KR f.code.length st).length cf) (.int .i64 (st.high:Int)))
    clear p0 p1 p2 p3 p4 p5 p6 p7 p8 p9
    generalize Gx w7 (w.heap.size+1) (.slice AS st.shapes.length cS) (.slice AE f.code.length dE) (.slice AL f.code.length dL) (.slice Af (KR f.code.length st).length cf) (.int .i64 (st.high:Int))=w8 at hz hbz hkz⊢
    have z0:=hz.q 0 rfl
    have z1:=hz.q 1 rfl
    have z2:=hz.q 2 rfl
    have z3:=hz.q 3 rfl
    have z4:=hz.q 4 rfl
    refine⟨rfl,.tuple #[.agg #[.slice AS st.shapes.length cS,.slice AE f.code.length dE,.slice AL f.code.length dL,.slice Af (KR f.code.length st).length cf,.int .i64 (st.high:Int)],.int .i64 0,.int .i64 0],?_,hbz,?_⟩
    ·simp [results,results55,go_sem,z0,z1,z2,z3,z4]
    ·rw [ADV.out]
     have hgg:=GD.out.gg
     have hgh:=gW.out.gh
     have hhh:=gW.out.hh
     have hsz:=hkz.size
     have hct:=Pt HC.out
     have hval:=GD.out.lock.val
     have o1:=Ce gW.out.sh hkz (fun q hq=>by have:=(gW.out.sh.lt q hq).1;show q≠_;omega)
     have o2:=Ce gW.out.fl hkz (fun q hq=>by have:=(gW.out.fl.lt q hq).1;show q≠_;omega)
     have hmp:(KR f.code.length st).map iv=st.floors.map iv:=by rw [NI.out]
     rw [hmp] at o2
     have r1:=Rd.CB HRE7.out hkz hhh (fun q h1 _=>by show q≠_;omega)
     have r2:=Rd.CB HRL7.out hkz hhh (fun q h1 _=>by show q≠_;omega)
     refine⟨_,rfl,Lc.2 ⟨_,_,_,_,rfl,Rd.more _ (by omega) (Nat.le_refl _) (YH o1 fun s hm=> ?_),Rd.more _ (by omega) (by omega) r1,Rd.more _ (by omega) (by omega) r2,Rd.more _ (by omega) (Nat.le_refl _) (MB o2 fun v hm=> ?_),?_⟩⟩
     ·have:=hval.bnd s hm;unfold Rd.PD;omega
     ·have:=hval.fl v hm;unfold Rd.Gd;omega
     ·have:=hval.high
      show Rd.Gd (st.high:Int)
      unfold Rd.Gd;omega
end Go.Proofs.YtlagonfamllgjaaGreatDoor
