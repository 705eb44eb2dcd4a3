/- Part 44 of the proof: FrmF -/
import Derived.Test.YtlagonfamllgjaaGreatDoorK43
namespace Go.Proofs.YtlagonfamllgjaaGreatDoor
set_option linter.unusedVariables false
set_option linter.unusedSimpArgs false
set_option maxRecDepth 100000
set_option maxHeartbeats 4000000
open Go.RowKit Tryz
theorem ask0 (m:AP) (s:FH):(decide (s.end_=1)||(decide (s.end_=2)||decide (s.end_=3)))=Ct m s 0:=by
 show _=decide (s.end_=1∨s.end_=2∨s.end_=3)
 by_cases h1:s.end_=1<;>by_cases h2:s.end_=2<;>by_cases h3:s.end_=3<;>simp [h1,h2,h3]
theorem ask1 (m:AP) (s:FH):(decide (s.end_=1)&&decide (1≤s.frames.length∧s.frames.length≤64)|| !decide (s.end_=1)&&decide (s.frames.length=0))=Ct m s 1:=by
 show _=decide (s.end_=1∧1≤s.frames.length∧s.frames.length≤64∨s.end_≠1∧s.frames.length=0)
 by_cases h1:s.end_=1<;>by_cases h2:s.frames.length=0<;>by_cases h3:1≤s.frames.length<;>by_cases h4:s.frames.length≤64<;>simp [h1,h2,h3,h4]
theorem ask2 (m:AP) (s:FH):(decide (s.res.length=0)||decide (s.end_=2)&&decide (s.res.length≤8))=Ct m s 2:=by
 show _=decide (s.res.length=0∨s.end_=2∧s.res.length≤8)
 by_cases h1:s.res.length=0<;>by_cases h2:s.end_=2<;>by_cases h3:s.res.length≤8<;>simp [h1,h2,h3]
theorem ask3 (m:AP) (s:FH):(decide (s.end_=3)&&decide (1≤s.trap∧s.trap≤6)|| !decide (s.end_=3)&&decide (s.trap=0))=Ct m s 3:=by
 show _=decide (s.end_=3∧1≤s.trap∧s.trap≤6∨s.end_≠3∧s.trap=0)
 by_cases h1:s.end_=3<;>by_cases h2:1≤s.trap<;>by_cases h3:s.trap≤6<;>by_cases h4:s.trap=0<;>simp [h1,h2,h3,h4]
theorem ask4 (m:AP) (s:FH):decide (0≤s.used∧s.used≤4611686018427387904)=Ct m s 4:=rfl
theorem ask5 (m:AP) (s:FH):decide (0≤s.Bj)=Ct m s 5:=rfl
theorem aV {m:AP} {s:FH} (h:Aa 8 (Bz m s)=0):s.frames.length≤64:=by
 have h1:=BQ h 1 (by omega)
 unfold Bz at h1
 cases hb:Ct m s 1 with
 | false=>rw [hb] at h1;simp at h1
 | true=>
  have:=of_decide_eq_true (show decide (s.end_=1∧1≤s.frames.length∧s.frames.length≤64∨s.end_≠1∧s.frames.length=0)=true from hb)
  omega
theorem J_ {m:AP} {t:List Dz} {s:FH} {i:Nat} (hv:F7 m= .inr t) (hi:i<8) (h0:Aa i (Bz m s)=0) (h:Ct m s i=false):DW m s=(44,(i:Int)+1):=by
 unfold DW;rw [hv];dsimp only;rw [kK hi h0 h,if_neg (by omega)]
theorem AA7 {m:AP} {t:List Dz} {s:FH} {k:Nat} (hv:F7 m= .inr t) (h8:Aa 8 (Bz m s)=0) (h0:Aa k (MP m t s)=0) (hk:k<s.frames.length) (h:KZ m t s k=false):DW m s=(44,9+(k:Int)):=by
 unfold DW;rw [hv];dsimp only;rw [RX h8 h0 hk h,if_neg (by omega)]
theorem Yo (cs ds:List Value) (hi:Nat) (m:AP) (s:FH) (w:World) (hm:DJ.R w 0 hi cs m) (hs:K7.R w 0 hi ds s) (hhi:hi≤w.heap.size) (hle:Bg m≤2147483647) (Df:FN m) (hin:RA s)
 (htab: ∀w',Below hi w w'→Lib.TabIs prog w' "strings.asciiSpace" .u8 Lib.asciiSpaceTab):
 Calls prog 34 #[.agg cs.toArray,.agg ds.toArray] w fun e w'=>Below w.heap.size w w'∧e= .returned (.tuple #[.int .i64 (DW m s).1,.int .i64 (DW m s).2]):=by
 have HM:=AA hm;have HST:=AA hs;have Bw:=AA hhi;have I7:=AA hle;have HN:=AA Df;have Es:=AA hin;have HT:=AA htab
 obtain⟨v1,v2,v3,v4,v5,v6,rfl,i1,i2,i3,ff1,ff2,i4,i5,i6⟩:=Am.1 hm
 obtain⟨A1,e1,rfl⟩:=AB i1
 obtain⟨A2,e2,rfl⟩:=AB i2
 obtain⟨A3,e3,rfl⟩:=AB i3
 obtain⟨A4,e4,rfl⟩:=AB i4
 obtain⟨A5,e5,rfl⟩:=AB i5
 obtain⟨A6,e6,rfl⟩:=AB i6
 obtain⟨u0,u1,u2,u5,rfl,s0,s1,s2,_,_,s5,_⟩:=CU.1 hs
 obtain⟨B0,d0,rfl⟩:=AB s0
 obtain⟨B1,d1,rfl⟩:=AB s1
 obtain⟨B2,d2,rfl⟩:=AB s2
 obtain⟨B5,d5,rfl⟩:=AB s5
 clear hm hs hhi hle Df i1 i2 i3 i4 i5 i6 s0 s1 s2 s5 hin htab ff1 ff2
 go_enter func34,ntmps34
 go_upto_region 1 with fail
 generalize hw0:w.alloc (.cells #[.slice A1 m.types.length e1,.slice A2 m.hosts.length e2,.slice A3 m.globs.length e3,.int .i64 m.first,.int .i64 m.most,.slice A4 m.fns.length e4,.slice A5 m.dat.length e5,.slice A6 m.Au.length e6] 29)=w0
 obtain⟨hb0,hx0⟩:=ES hw0
 have hz0:w0.heap.size=w.heap.size+1:=by rw [←hw0];simp
 clear hw0
 generalize hw1:w0.alloc (.cells #[.slice B0 s.frames.length d0,.slice B1 s.globs.length d1,.slice B2 s.pages.length d2,.int .i64 s.Bj,.int .i8 s.end_,.slice B5 s.res.length d5,.int .i8 s.trap,.int .i64 s.used] 35)=w1
 obtain⟨hb1,hx1⟩:=ES hw1
 rw [hz0] at hx1
 try rw [hz0]
 have G9:=AA (hx0.below hb1 hx0.lt)
 have Ef:=AA hx1
 have HB1:Hid (Below w.heap.size w w1):=AA (hb0.trans (hb1.mono hb0.size))
 clear hw1 hb0 hb1 hx0 hx1 hz0
 go_wp2_with (refine rG G9.out rfl _ rfl rfl ?_)
 refine(VO _ hi m w1 (Rd.below HM.out HB1.out Bw.out) (Nat.le_trans Bw.out HB1.out.size) I7.out HN.out (fun w' hw'=>HT.out w' ((HB1.out.mono Bw.out).trans hw'))).mono ?_
 rintro e w2 ⟨hb2,hp⟩
 have F9:Hid (Below w.heap.size w w2):=AA (HB1.out.trans (hb2.mono HB1.out.size))
 have U_:=AA (G9.out.below hb2 G9.out.lt)
 have L9:=AA (Ef.out.below hb2 Ef.out.lt)
 clear hb2 G9 Ef
 cases hv:F7 m with
 | inl q=>
  rw [hv] at hp
  dsimp only at hp
  subst hp
  have hne:(q.1 !=0)=true:=by have:=MR hv;simpa using this
  have HX:Hid (DW m s=(q.1,0)):=AA (by unfold DW;rw [hv])
  clear hv
  go_wp2_with fail
  go_ret2
  exact⟨F9.out,by rw [HX.out];rfl⟩
 | inr t=>
 rw [hv] at hp
 dsimp only at hp
 obtain⟨At,ct,rfl,hta⟩:=hp
 have uG:=AA hta;have HV:=AA hv
 have HH2:Hid (hi≤w2.heap.size):=AA (Nat.le_trans Bw.out F9.out.size)
 have XG:=AA (Ke hv).1
 have ZH:=AA (DJ.more (Nat.le_refl _) HH2.out (Rd.below HM.out F9.out Bw.out))
 have HS2:=AA (K7.more (Nat.le_refl _) HH2.out (Rd.below HST.out F9.out Bw.out))
 have HT2:=AA ((Nw.sl false).more (Nat.zero_le _) (Nat.le_refl _) uG.out)
 clear hta hv
 go_upto_region 5 with(first | refine rG U_.out rfl _ rfl rfl ?_ | refine jo L9.out rfl _ rfl rfl ?_ | refine Fh rfl _ _ _ rfl _ _ rfl rfl ?_ ?_ ?_ ?_;(try focus kernel_rfl);(try focus rfl);(try focus kernel_rfl))
 generalize hw3:w2.alloc (.cells #[.slice A1 m.types.length e1,.slice A2 m.hosts.length e2,.slice A3 m.globs.length e3,.int .i64 m.first,.int .i64 m.most,.slice A4 m.fns.length e4,.slice A5 m.dat.length e5,.slice A6 m.Au.length e6,.slice At t.length ct,.slice B0 s.frames.length d0,.slice B1 s.globs.length d1,.slice B2 s.pages.length d2,.int .i64 s.Bj,.int .i8 s.end_,.slice B5 s.res.length d5,.int .i8 s.trap,.int .i64 s.used] 127)=w3
 obtain⟨hb3,hx3⟩:=ES hw3
 have OT:=AA hx3
 have HB3:Hid (Below w2.heap.size w2 w3):=AA hb3
 have yj:=AA (L9.out.below hb3 L9.out.lt)
 have yR:Hid (Calls prog 65 #[.agg #[.slice A1 m.types.length e1,.slice A2 m.hosts.length e2,.slice A3 m.globs.length e3,.int .i64 m.first,.int .i64 m.most,.slice A4 m.fns.length e4,.slice A5 m.dat.length e5,.slice A6 m.Au.length e6,.slice At t.length ct,.slice B0 s.frames.length d0,.slice B1 s.globs.length d1,.slice B2 s.pages.length d2,.int .i64 s.Bj,.int .i8 s.end_,.slice B5 s.res.length d5,.int .i8 s.trap,.int .i64 s.used]] w3 (TB [.slice B0 s.frames.length d0,.slice B1 s.globs.length d1,.slice B2 s.pages.length d2,.int .i64 s.Bj,.int .i8 s.end_,.slice B5 s.res.length d5,.int .i8 s.trap,.int .i64 s.used] #[.slice A1 m.types.length e1,.slice A2 m.hosts.length e2,.slice A3 m.globs.length e3,.int .i64 m.first,.int .i64 m.most,.slice A4 m.fns.length e4,.slice A5 m.dat.length e5,.slice A6 m.Au.length e6,.slice At t.length ct,.slice B0 s.frames.length d0,.slice B1 s.globs.length d1,.slice B2 s.pages.length d2,.int .i64 s.Bj,.int .i8 s.end_,.slice B5 s.res.length d5,.int .i8 s.trap,.int .i64 s.used] s.end_ w3)):=AA (uY [.slice A1 m.types.length e1,.slice A2 m.hosts.length e2,.slice A3 m.globs.length e3,.int .i64 m.first,.int .i64 m.most,.slice A4 m.fns.length e4,.slice A5 m.dat.length e5,.slice A6 m.Au.length e6] [.slice B0 s.frames.length d0,.slice B1 s.globs.length d1,.slice B2 s.pages.length d2,.int .i64 s.Bj,.int .i8 s.end_,.slice B5 s.res.length d5,.int .i8 s.trap,.int .i64 s.used] (.slice At t.length ct) w2.heap.size m s w3 (Rd.below ZH.out HB3.out (Nat.le_refl _)) (Rd.below HS2.out HB3.out (Nat.le_refl _)) HB3.out.size)
 clear hw3 hb3 hx3
 go_wp2_with (refine ldV OT.out rfl _ rfl rfl ?_)
 refine yR.out.mono ?_
 rintro e w4 ⟨hb4,b,bs,br,bh,bt,rfl,ks,kr,kh,kt,kb⟩
 have HKS:=AA ks;have HKR:=AA kr;have HKH:=AA kh;have HKT:=AA kt;have RL:=AA kb
 have C9:Hid (Below w2.heap.size w2 w4):=AA (HB3.out.trans (hb4.mono HB3.out.size))
 have PK:=AA (OT.out.below hb4 OT.out.lt)
 have HY4:=AA (yj.out.below hb4 yj.out.lt)
 clear hb4 ks kr kh kt kb
 have HNG:=AA XG.out.ng
 have ZG:=AA Es.out.SL
 clear OT yj U_ L9
 go_wp2_with fail
 generalize (Value.agg #[.slice A1 m.types.length e1,.slice A2 m.hosts.length e2,.slice A3 m.globs.length e3,.int .i64 m.first,.int .i64 m.most,.slice A4 m.fns.length e4,.slice A5 m.dat.length e5,.slice A6 m.Au.length e6])=VM
 generalize (Value.agg #[.slice B0 s.frames.length d0,.slice B1 s.globs.length d1,.slice B2 s.pages.length d2,.int .i64 s.Bj,.int .i8 s.end_,.slice B5 s.res.length d5,.int .i8 s.trap,.int .i64 s.used])=VS
 generalize (Value.agg #[.slice A1 m.types.length e1,.slice A2 m.hosts.length e2,.slice A3 m.globs.length e3,.int .i64 m.first,.int .i64 m.most,.slice A4 m.fns.length e4,.slice A5 m.dat.length e5,.slice A6 m.Au.length e6,.slice At t.length ct,.slice B0 s.frames.length d0,.slice B1 s.globs.length d1,.slice B2 s.pages.length d2,.int .i64 s.Bj,.int .i8 s.end_,.slice B5 s.res.length d5,.int .i8 s.trap,.int .i64 s.used])=VV
 go_loopw [30] (fun i wr=> ∃k:Nat,k≤8∧i= .int .i64 k∧Below w4.heap.size w4 wr∧Aa k (Bz m s)=0) (fun i _=>8-(intOf i).toNat)
 case atStart=>exact⟨0,by omega,rfl,Below.refl _ _,rfl⟩
 case round=>
  obtain⟨k,hk,rfl,hbr,h0⟩:=hrel
  have JG:=AA hbr;have H0:=AA h0
  have EP:=AA (C9.out.trans (hbr.mono C9.out.size))
  have Gn:Hid (Below w.heap.size w wr):=AA (F9.out.trans (EP.out.mono F9.out.size))
  clear hbr h0
  by_cases h8:k=8
  ·have H8:Hid (Aa 8 (Bz m s)=0):=AA (h8▸H0.out)
   have HF64:Hid (s.frames.length≤64):=AA (aV H8.out)
   have n8: ¬(k:Int)<8:=by omega
   clear h8 hk H0
   generalize (k:Int)=k8 at*
   have q0:=(HY4.out.below JG.out HY4.out.lt).q 0 rfl
   go_wp2_with fail
   clear q0
   obtain⟨wo,rfl⟩: ∃wo:World,wo=wr:=⟨_,rfl⟩
   go_loopw [44] (fun i wq=> ∃k:Nat,k≤s.frames.length∧i= .int .i64 k∧Below wo.heap.size wo wq∧Aa k (MP m t s)=0) (fun i _=>s.frames.length-(intOf i).toNat)
   case atStart=>exact⟨0,by omega,rfl,Below.refl _ _,rfl⟩
   case round=>
    obtain⟨k,hk,rfl,hbr,h0⟩:=hrel
    have Sm:=AA hbr;have H02:=AA h0
    have dS:=AA (EP.out.trans (hbr.mono EP.out.size))
    have AA8:Hid (Below w.heap.size w wr):=AA (Gn.out.trans (hbr.mono Gn.out.size))
    have HBX4:=AA (JG.out.trans (hbr.mono JG.out.size))
    clear hbr h0
    by_cases hlt:k<s.frames.length
    ·obtain⟨f,hf⟩: ∃f,s.frames[k]?=some f:=⟨_,List.getElem?_eq_getElem hlt⟩
     have HF:=AA hf
     have HX5:=AA (PK.out.below HBX4.out PK.out.lt)
     have hfr:=HF64.out
     obtain⟨bb,hb⟩: ∃bb,KZ m t s k=bb:=⟨_,rfl⟩
     clear hf
     go_wp2_with (refine ldV HX5.out rfl _ rfl rfl ?_)
     refine(m_ [.slice A1 m.types.length e1,.slice A2 m.hosts.length e2,.slice A3 m.globs.length e3,.int .i64 m.first,.int .i64 m.most,.slice A4 m.fns.length e4,.slice A5 m.dat.length e5,.slice A6 m.Au.length e6] [.slice B0 s.frames.length d0,.slice B1 s.globs.length d1,.slice B2 s.pages.length d2,.int .i64 s.Bj,.int .i8 s.end_,.slice B5 s.res.length d5,.int .i8 s.trap,.int .i64 s.used] At ct w2.heap.size m t s k f wr (Rd.below ZH.out dS.out (Nat.le_refl _)) (Rd.below HT2.out dS.out (Nat.le_refl _)) (Rd.below HS2.out dS.out (Nat.le_refl _)) dS.out.size HV.out Es.out HF.out).mono ?_
     rintro e w5 ⟨hb5,rfl⟩
     have D8:=AA hb5
     clear hb5
     rw [hb]
     cases bb with
     | false=>
      have HX:=AA (AA7 HV.out H8.out H02.out hlt hb)
      clear hb
      go_wp2_with fail
      go_ret2
      exact⟨AA8.out.trans (D8.out.mono AA8.out.size),by rw [HX.out];rfl⟩
     | true=>
      have HX:=AA (fE H02.out hb)
      clear hb
      go_wp2_with fail
      exact⟨⟨k+1,by omega,by go_num,Sm.out.trans (D8.out.mono Sm.out.size),HX.out⟩,by simp [intOf];omega⟩
    ·obtain rfl:k=s.frames.length:=by omega
     have HX:Hid (DW m s=(0,0)):=AA (by unfold DW;rw [HV.out];dsimp only;rw [rZ H8.out H02.out];rfl)
     go_wp2_with fail
     go_ret2
     exact⟨AA8.out,by rw [HX.out];rfl⟩
  ·have Ef:=AA (HKS.out.below JG.out HKS.out.lt)
   have Ri:=AA (HKR.out.below JG.out HKR.out.lt)
   have HXH:=AA (HKH.out.below JG.out HKH.out.lt)
   have HXT:=AA (HKT.out.below JG.out HKT.out.lt)
   have HXB:=AA (RL.out.below JG.out RL.out.lt)
   have h8':k<8:=by omega
   clear hk h8
   by_cases e0:k=0
   case pos=>
    subst e0
    have xc:=HXB.out.cell 0
    obtain⟨bb,hb⟩: ∃bb,Ct m s 0=bb:=⟨_,rfl⟩
    clear h8'
    go_wp2_with fail
    refine(uQ _ _ _ br bh bt wr (Ri.out.cell 0) (HXH.out.cell 0) (HXT.out.cell 0)).mono ?_
    rintro e w5 ⟨rfl,rfl⟩
    rw [ask0 m s,hb]
    have D8:=AA (Below.refl wr.heap.size wr)
    cases bb with
    | false=>
     have HX:=AA (J_ HV.out (by omega) H0.out hb)
     clear hb xc
     go_wp2_with fail
     go_ret2
     exact⟨Gn.out.trans (D8.out.mono Gn.out.size),by rw [HX.out];rfl⟩
    | true=>
     have HX:=AA (Gb H0.out hb)
     clear hb xc
     go_wp2_with fail
     exact⟨⟨1,by omega,by go_num,JG.out.trans (D8.out.mono JG.out.size),HX.out⟩,by simp [intOf]⟩
   by_cases e1:k=1
   case pos=>
    subst e1
    have xc:=HXB.out.cell 1
    obtain⟨bb,hb⟩: ∃bb,Ct m s 1=bb:=⟨_,rfl⟩
    clear h8' e0
    go_wp2_with fail
    refine(uR _ br bs _ _ _ wr (Ri.out.cell 0) (Ef.out.cell 0)).mono ?_
    rintro e w5 ⟨rfl,rfl⟩
    rw [ask1 m s,hb]
    have D8:=AA (Below.refl wr.heap.size wr)
    cases bb with
    | false=>
     have HX:=AA (J_ HV.out (by omega) H0.out hb)
     clear hb xc
     go_wp2_with fail
     go_ret2
     exact⟨Gn.out.trans (D8.out.mono Gn.out.size),by rw [HX.out];rfl⟩
    | true=>
     have HX:=AA (Gb H0.out hb)
     clear hb xc
     go_wp2_with fail
     exact⟨⟨2,by omega,by go_num,JG.out.trans (D8.out.mono JG.out.size),HX.out⟩,by simp [intOf]⟩
   by_cases e2:k=2
   case pos=>
    subst e2
    have xc:=HXB.out.cell 2
    obtain⟨bb,hb⟩: ∃bb,Ct m s 2=bb:=⟨_,rfl⟩
    clear h8' e0 e1
    go_wp2_with fail
    refine(uT _ bs bh _ _ _ wr (HXH.out.cell 0) (Ef.out.cell 5)).mono ?_
    rintro e w5 ⟨rfl,rfl⟩
    rw [ask2 m s,hb]
    have D8:=AA (Below.refl wr.heap.size wr)
    cases bb with
    | false=>
     have HX:=AA (J_ HV.out (by omega) H0.out hb)
     clear hb xc
     go_wp2_with fail
     go_ret2
     exact⟨Gn.out.trans (D8.out.mono Gn.out.size),by rw [HX.out];rfl⟩
    | true=>
     have HX:=AA (Gb H0.out hb)
     clear hb xc
     go_wp2_with fail
     exact⟨⟨3,by omega,by go_num,JG.out.trans (D8.out.mono JG.out.size),HX.out⟩,by simp [intOf]⟩
   by_cases e3:k=3
   case pos=>
    subst e3
    have xc:=HXB.out.cell 3
    obtain⟨bb,hb⟩: ∃bb,Ct m s 3=bb:=⟨_,rfl⟩
    clear h8' e0 e1 e2
    go_wp2_with fail
    refine(uU _ bt bs _ wr (HXT.out.cell 0) (Ef.out.cell 6)).mono ?_
    rintro e w5 ⟨rfl,rfl⟩
    rw [ask3 m s,hb]
    have D8:=AA (Below.refl wr.heap.size wr)
    cases bb with
    | false=>
     have HX:=AA (J_ HV.out (by omega) H0.out hb)
     clear hb xc
     go_wp2_with fail
     go_ret2
     exact⟨Gn.out.trans (D8.out.mono Gn.out.size),by rw [HX.out];rfl⟩
    | true=>
     have HX:=AA (Gb H0.out hb)
     clear hb xc
     go_wp2_with fail
     exact⟨⟨4,by omega,by go_num,JG.out.trans (D8.out.mono JG.out.size),HX.out⟩,by simp [intOf]⟩
   by_cases e4:k=4
   case pos=>
    subst e4
    have xc:=HXB.out.cell 4
    obtain⟨bb,hb⟩: ∃bb,Ct m s 4=bb:=⟨_,rfl⟩
    clear h8' e0 e1 e2 e3
    go_wp2_with fail
    refine(uV bs _ wr (Ef.out.cell 7)).mono ?_
    rintro e w5 ⟨rfl,rfl⟩
    rw [ask4 m s,hb]
    have D8:=AA (Below.refl wr.heap.size wr)
    cases bb with
    | false=>
     have HX:=AA (J_ HV.out (by omega) H0.out hb)
     clear hb xc
     go_wp2_with fail
     go_ret2
     exact⟨Gn.out.trans (D8.out.mono Gn.out.size),by rw [HX.out];rfl⟩
    | true=>
     have HX:=AA (Gb H0.out hb)
     clear hb xc
     go_wp2_with fail
     exact⟨⟨5,by omega,by go_num,JG.out.trans (D8.out.mono JG.out.size),HX.out⟩,by simp [intOf]⟩
   by_cases e5:k=5
   case pos=>
    subst e5
    have xc:=HXB.out.cell 5
    obtain⟨bb,hb⟩: ∃bb,Ct m s 5=bb:=⟨_,rfl⟩
    clear h8' e0 e1 e2 e3 e4
    go_wp2_with fail
    refine(uW bs _ wr (Ef.out.cell 3)).mono ?_
    rintro e w5 ⟨rfl,rfl⟩
    rw [ask5 m s,hb]
    have D8:=AA (Below.refl wr.heap.size wr)
    cases bb with
    | false=>
     have HX:=AA (J_ HV.out (by omega) H0.out hb)
     clear hb xc
     go_wp2_with fail
     go_ret2
     exact⟨Gn.out.trans (D8.out.mono Gn.out.size),by rw [HX.out];rfl⟩
    | true=>
     have HX:=AA (Gb H0.out hb)
     clear hb xc
     go_wp2_with fail
     exact⟨⟨6,by omega,by go_num,JG.out.trans (D8.out.mono JG.out.size),HX.out⟩,by simp [intOf]⟩
   by_cases e6:k=6
   case pos=>
    subst e6
    have xc:=HXB.out.cell 6
    obtain⟨bb,hb⟩: ∃bb,Ct m s 6=bb:=⟨_,rfl⟩
    clear h8' e0 e1 e2 e3 e4 e5
    go_wp2_with fail
    refine(Z_ [.slice A1 m.types.length e1,.slice A2 m.hosts.length e2,.slice A3 m.globs.length e3,.int .i64 m.first,.int .i64 m.most,.slice A4 m.fns.length e4,.slice A5 m.dat.length e5,.slice A6 m.Au.length e6] [.slice B0 s.frames.length d0,.slice B1 s.globs.length d1,.slice B2 s.pages.length d2,.int .i64 s.Bj,.int .i8 s.end_,.slice B5 s.res.length d5,.int .i8 s.trap,.int .i64 s.used] (.slice At t.length ct) w2.heap.size m s wr (Rd.below ZH.out EP.out (Nat.le_refl _)) (Rd.below HS2.out EP.out (Nat.le_refl _)) EP.out.size HNG.out).mono ?_
    rintro e w5 ⟨hb5,rfl⟩
    rw [hb]
    have D8:=AA hb5
    clear hb5
    cases bb with
    | false=>
     have HX:=AA (J_ HV.out (by omega) H0.out hb)
     clear hb xc
     go_wp2_with fail
     go_ret2
     exact⟨Gn.out.trans (D8.out.mono Gn.out.size),by rw [HX.out];rfl⟩
    | true=>
     have HX:=AA (Gb H0.out hb)
     clear hb xc
     go_wp2_with fail
     exact⟨⟨7,by omega,by go_num,JG.out.trans (D8.out.mono JG.out.size),HX.out⟩,by simp [intOf]⟩
   by_cases e7:k=7
   case pos=>
    subst e7
    have xc:=HXB.out.cell 7
    obtain⟨bb,hb⟩: ∃bb,Ct m s 7=bb:=⟨_,rfl⟩
    clear h8' e0 e1 e2 e3 e4 e5 e6
    go_wp2_with fail
    refine(nG [.slice A1 m.types.length e1,.slice A2 m.hosts.length e2,.slice A3 m.globs.length e3,.int .i64 m.first,.int .i64 m.most,.slice A4 m.fns.length e4,.slice A5 m.dat.length e5,.slice A6 m.Au.length e6] [.slice B0 s.frames.length d0,.slice B1 s.globs.length d1,.slice B2 s.pages.length d2,.int .i64 s.Bj,.int .i8 s.end_,.slice B5 s.res.length d5,.int .i8 s.trap,.int .i64 s.used] (.slice At t.length ct) w2.heap.size m s wr (Rd.below ZH.out EP.out (Nat.le_refl _)) (Rd.below HS2.out EP.out (Nat.le_refl _)) EP.out.size ZG.out).mono ?_
    rintro e w5 ⟨hb5,rfl⟩
    rw [hb]
    have D8:=AA hb5
    clear hb5
    cases bb with
    | false=>
     have HX:=AA (J_ HV.out (by omega) H0.out hb)
     clear hb xc
     go_wp2_with fail
     go_ret2
     exact⟨Gn.out.trans (D8.out.mono Gn.out.size),by rw [HX.out];rfl⟩
    | true=>
     have HX:=AA (Gb H0.out hb)
     clear hb xc
     go_wp2_with fail
     exact⟨⟨8,by omega,by go_num,JG.out.trans (D8.out.mono JG.out.size),HX.out⟩,by simp [intOf]⟩
   exfalso;omega
end Go.Proofs.YtlagonfamllgjaaGreatDoor
