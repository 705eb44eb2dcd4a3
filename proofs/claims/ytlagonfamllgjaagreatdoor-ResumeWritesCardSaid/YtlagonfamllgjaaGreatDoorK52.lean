/- Part 52 of the proof: SrC -/
import Derived.Test.YtlagonfamllgjaaGreatDoorK51
namespace Go.Proofs.YtlagonfamllgjaaGreatDoor
set_option linter.unusedVariables false
set_option linter.unusedSimpArgs false
set_option maxRecDepth 100000
set_option maxHeartbeats 4000000
open Go.RowKit Tryz
theorem jN (ds:List Value) (hi:Nat) (s:FH) (w:World) (hs:K7.R w 0 hi ds s) (hhi:hi≤w.heap.size) (hok:R7 s):Calls prog 13 #[.agg ds.toArray] w (pG (CP s) w):=by
 obtain⟨u0,u1,u2,u5,rfl,s0,s1,s2,sr,_,s5,_,su⟩:=CU.1 hs
 obtain⟨B0,d0,rfl⟩:=AB s0
 obtain⟨B1,d1,rfl⟩:=AB s1
 obtain⟨B2,d2,rfl⟩:=AB s2
 obtain⟨B5,d5,rfl⟩:=AB s5
 have Me:=AA (dV s0 hok)
 have EX:=AA hok
 have Bw:=AA hhi
 have S0:=AA s0;have S1:=AA s1;have S2:=AA s2;have S5:=AA s5
 have e0:=hok.e0;have e1:=hok.e1;have t0:=hok.t0;have t1:=hok.t1
 have hwe:IntKind.u8.wrap s.end_=s.end_:=by rw [IntKind.wrap_u8];omega
 have hwt:IntKind.u8.wrap s.trap=s.trap:=by rw [IntKind.wrap_u8];omega
 unfold Rd.G8 at sr su
 have hwu:=wrap64 hok.u0 su.2
 have hwr:=wrap64 hok.r0 sr.2
 have SR:=AA sr
 have gX:Hid ([UInt8.ofNat s.end_.toNat].map bv= [.int .u8 s.end_]∧ [UInt8.ofNat s.trap.toNat].map bv= [.int .u8 s.trap]):=AA (by
  obtain⟨a,ha⟩:=Int.eq_ofNat_of_zero_le (show 0≤s.end_ by omega)
  obtain⟨b,hb⟩:=Int.eq_ofNat_of_zero_le t0
  rw [ha,hb]
  simp only [List.map_cons,List.map_nil,Int.toNat_natCast]
  rw [EU a (by omega),EU b (by omega)]
  exact⟨rfl,rfl⟩)
 clear s0 s1 s2 s5 hhi sr su e0 e1 t0 t1
 go_enter func13,ntmps13
 go_upto_region 1 with fail
 generalize hw1:w.alloc (.cells #[.slice B0 s.frames.length d0,.slice B1 s.globs.length d1,.slice B2 s.pages.length d2,.int .i64 s.Bj,.int .i8 s.end_,.slice B5 s.res.length d5,.int .i8 s.trap,.int .i64 s.used] 35)=w1
 obtain⟨hb1,hx1⟩:=ES hw1
 have hz1:w1.heap.size=w.heap.size+1:=by rw [←hw1];simp
 have RG:=AA (Rd.below hs hb1 Bw.out)
 have HB1:=AA hb1;have CX:=AA hx1;have HZ1:=AA hz1
 have NY:hi≤w1.heap.size:=Nat.le_trans Bw.out hb1.size
 clear hw1 hb1 hx1 hz1 hs hok
 go_wp2_with (refine jo CX.out rfl _ rfl rfl ?_)
 refine(xO _ hi s w1 RG.out NY EX.out).mono ?_
 rintro e w2 ⟨hb2,rfl⟩
 have HB2:=AA hb2
 have hz2:=hb2.size
 have AFZ:w.heap.size<w2.heap.size:=by have:=HZ1.out;omega
 have UE:hi≤w2.heap.size:=by omega
 have CV:=AA (CX.out.below hb2 CX.out.lt)
 have EP:Hid (Below w.heap.size w w2):=AA (HB1.out.trans (hb2.mono HB1.out.size))
 have S0:=AA (Rd.below S0.out EP.out Bw.out);have S1:=AA (Rd.below S1.out EP.out Bw.out);have S2:=AA (Rd.below S2.out EP.out Bw.out);have S5:=AA (Rd.below S5.out EP.out Bw.out)
 have kc:=Lib.run_convert_bytes_const (P:=prog) w2 40 5 #[.int .u8 70,.int .u8 83,.int .u8 78,.int .u8 80,.int .u8 1] 5 5 underlying40 underlying5
 clear hb2 hz2 CX NY
 go_upto_region 5 with fail
 generalize hw3:w2.alloc _=y3
 have hb3:Below w2.heap.size w2 y3:=by rw [←hw3];exact(Below.refl _ _).alloc (Nat.le_refl _) _
 obtain⟨base,hbase⟩: ∃x,x=w2.heap.size:=⟨_,rfl⟩
 have HBB:Hid (w2.heap.size=base):=AA hbase.symm
 have hwb:w.heap.size<base:=by rw [hbase];exact AFZ
 have hbs:base≤w2.heap.size:=Nat.le_of_eq hbase
 have UE:hi≤base:=by rw [hbase];exact UE
 have HB:Hid (Below base w2 y3):=AA (by rw [hbase];exact hb3)
 have HO3:Hid (OW y3 base G5 (some ⟨w2.heap.size,0,none⟩) 5):=AA (by rw [hbase,←hw3];exact .inr ⟨w2.heap.size,(5,6),rfl,Nat.le_refl _,heap_alloc_new w2 _,rfl⟩)
 have HX:=AA (CV.out.below hb3 CV.out.lt)
 have HE:Hid (G5++([UInt8.ofNat s.end_.toNat]++([UInt8.ofNat s.trap.toNat]++(enc s.used.toNat++(enc s.Bj.toNat++(BS s.res++(BS s.globs++(enc s.pages.length++(enc (Bu s.pages s.pages.length).length++((Bu s.pages s.pages.length).flatMap (OD s.pages)++(enc s.frames.length++s.frames.flatMap NG))))))))))=CP s):=AA (by unfold CP Oz;simp)
 have qN:base≤y3.heap.size:=Nat.le_trans hbs HB.out.size
 clear hw3 kc hb3 AFZ CV
 have hml:G5.length=5:=rfl
 obtain⟨A,hA⟩: ∃A,A=some (⟨w2.heap.size,0,none⟩:Addr):=⟨_,rfl⟩
 rw [←hA] at HO3⊢
 obtain⟨c,hc,ho3⟩: ∃c:Nat,Value.slice A 5 5=Value.slice A G5.length c∧OW y3 base G5 A c:=⟨5,rfl,HO3.out⟩
 rw [hc]
 have HO:=AA ho3
 clear hc ho3 HO3
 obtain⟨L,hL⟩: ∃L,G5=L:=⟨_,rfl⟩
 rw [hL] at HO HE hml⊢
 have hl:L.length≤5:=by omega
 clear hA hL hml hbase
 have HR1:Hid (Row (y3.alloc (.cells #[.int .u8 s.end_] 5)) (y3.heap.size+1) (some ⟨y3.heap.size,0,none⟩) ([UInt8.ofNat s.end_.toNat].map bv)):=AA (by rw [gX.out.1];exact Gz y3 [.int .u8 s.end_] 5)
 have hba:Below y3.heap.size y3 (y3.alloc (.cells #[.int .u8 s.end_] 5)):=(Below.refl _ _).alloc (Nat.le_refl _) _
 have Nl:=AA hba
 clear hba
 have q4:=HX.out.q 4 rfl
 go_upto_region 6 with(at_builtin;refine XB rfl _ _ rfl base L A c rfl (HO.out.alloc _) _ _ 1 1 [UInt8.ofNat s.end_.toNat] rfl (by omega) rfl HR1.out (by omega) (by simp;omega) ?_;intro A' c' zN h2 h3 h4;have H2:=AA h2;have H3:=AA h3;clear h2 h3 h4)
 have ho:=H2.out
 have hb:=(Nl.out.mono qN).trans H3.out
 have hn:L.length+1=(L++ [UInt8.ofNat s.end_.toNat]).length:=by rw [List.length_append];rfl
 rw [hn]
 clear hn HR1 Nl H2 H3 q4
 obtain⟨L',hL'⟩: ∃L',L++ [UInt8.ofNat s.end_.toNat]=L':=⟨_,rfl⟩
 rw [hL'] at ho⊢
 have EH:Hid (L'++([UInt8.ofNat s.trap.toNat]++(enc s.used.toNat++(enc s.Bj.toNat++(BS s.res++(BS s.globs++(enc s.pages.length++(enc (Bu s.pages s.pages.length).length++((Bu s.pages s.pages.length).flatMap (OD s.pages)++(enc s.frames.length++s.frames.flatMap NG)))))))))=CP s):=AA (by rw [←hL',List.append_assoc];exact HE.out)
 have hl':L'.length≤6:=by rw [←hL',List.length_append];have:=hl;simp;omega
 have K5:=AA ho;have K6:=AA (HB.out.trans hb);have FT:=AA (HX.out.below hb hwb)
 clear ho hb hL' HB HE HO hl HX
 try clear A c
 try clear L
 obtain⟨L,rfl⟩: ∃L,L=L':=⟨_,rfl⟩
 obtain⟨A,rfl⟩: ∃A,A=A':=⟨_,rfl⟩
 obtain⟨c,rfl⟩: ∃c,c=c':=⟨_,rfl⟩
 obtain⟨HB,HE,HO,HX,hl⟩:=And.intro K6 (And.intro EH (And.intro K5 (And.intro FT hl')))
 clear K6 EH K5 FT hl'
 have qN:base≤zN.heap.size:=Nat.le_trans hbs HB.out.size
 have HR1:Hid (Row (zN.alloc (.cells #[.int .u8 s.trap] 5)) (zN.heap.size+1) (some ⟨zN.heap.size,0,none⟩) ([UInt8.ofNat s.trap.toNat].map bv)):=AA (by rw [gX.out.2];exact Gz zN [.int .u8 s.trap] 5)
 have hba:Below zN.heap.size zN (zN.alloc (.cells #[.int .u8 s.trap] 5)):=(Below.refl _ _).alloc (Nat.le_refl _) _
 have Nl:=AA hba
 clear hba
 have q4:=HX.out.q 6 rfl
 go_upto_region 7 with(at_builtin;refine XB rfl _ _ rfl base L A c rfl (HO.out.alloc _) _ _ 1 1 [UInt8.ofNat s.trap.toNat] rfl (by omega) rfl HR1.out (by omega) (by simp;omega) ?_;intro A' c' AFa h2 h3 h4;have H2:=AA h2;have H3:=AA h3;clear h2 h3 h4)
 have ho:=H2.out
 have hb:=(Nl.out.mono qN).trans H3.out
 have hn:L.length+1=(L++ [UInt8.ofNat s.trap.toNat]).length:=by rw [List.length_append];rfl
 rw [hn]
 clear hn HR1 Nl H2 H3 q4
 obtain⟨L',hL'⟩: ∃L',L++ [UInt8.ofNat s.trap.toNat]=L':=⟨_,rfl⟩
 rw [hL'] at ho⊢
 have EH:Hid (L'++(enc s.used.toNat++(enc s.Bj.toNat++(BS s.res++(BS s.globs++(enc s.pages.length++(enc (Bu s.pages s.pages.length).length++((Bu s.pages s.pages.length).flatMap (OD s.pages)++(enc s.frames.length++s.frames.flatMap NG))))))))=CP s):=AA (by rw [←hL',List.append_assoc];exact HE.out)
 have hl':L'.length≤7:=by rw [←hL',List.length_append];have:=hl;simp;omega
 have K5:=AA ho;have K6:=AA (HB.out.trans hb);have FT:=AA (HX.out.below hb hwb)
 clear ho hb hL' HB HE HO hl HX
 try clear A c
 try clear L
 obtain⟨L,rfl⟩: ∃L,L=L':=⟨_,rfl⟩
 obtain⟨A,rfl⟩: ∃A,A=A':=⟨_,rfl⟩
 obtain⟨c,rfl⟩: ∃c,c=c':=⟨_,rfl⟩
 obtain⟨HB,HE,HO,HX,hl⟩:=And.intro K6 (And.intro EH (And.intro K5 (And.intro FT hl')))
 clear K6 EH K5 FT hl'
 have qN:base≤AFa.heap.size:=Nat.le_trans hbs HB.out.size
 obtain⟨y4,rfl⟩: ∃y4,y4=AFa:=⟨_,rfl⟩
 have hpn:=EX.out.pages;have hfn:=EX.out.frames
 clear qN hwe hwt gX
 have q:=HX.out.q 7 rfl
 have hbw:base≤y4.heap.size:=Nat.le_trans hbs HB.out.size
 go_wp2_with fail
 refine(KA base L A c s.used y4 HO.out hbw EX.out.u0 (by have:=EX.out.u1;omega) (by omega)).mono ?_
 rintro e y5 ⟨A',c',rfl,ho,hb,hkt⟩
 clear q hbw hkt
 obtain⟨L',hL'⟩: ∃L',L++enc s.used.toNat=L':=⟨_,rfl⟩
 rw [hL'] at ho⊢
 have EH:Hid (L'++(enc s.Bj.toNat++(BS s.res++(BS s.globs++(enc s.pages.length++(enc (Bu s.pages s.pages.length).length++((Bu s.pages s.pages.length).flatMap (OD s.pages)++(enc s.frames.length++s.frames.flatMap NG)))))))=CP s):=AA (by rw [←hL',List.append_assoc];exact HE.out)
 have hl':L'.length≤17:=by rw [←hL',List.length_append];have:=AU s.used.toNat (by have:=EX.out.u1;omega);omega
 have K5:=AA ho;have K6:=AA (HB.out.trans hb);have FT:=AA (HX.out.below hb hwb)
 clear ho hb hL' HB HE HO hl HX
 try clear A c
 try clear L
 obtain⟨L,rfl⟩: ∃L,L=L':=⟨_,rfl⟩
 obtain⟨A,rfl⟩: ∃A,A=A':=⟨_,rfl⟩
 obtain⟨c,rfl⟩: ∃c,c=c':=⟨_,rfl⟩
 obtain⟨HB,HE,HO,HX,hl⟩:=And.intro K6 (And.intro EH (And.intro K5 (And.intro FT hl')))
 clear K6 EH K5 FT hl'
 have q:=HX.out.q 3 rfl
 have hbw:base≤y5.heap.size:=Nat.le_trans hbs HB.out.size
 go_wp2_with fail
 refine(KA base L A c s.Bj y5 HO.out hbw EX.out.r0 (by have:=SR.out;omega) (by omega)).mono ?_
 rintro e y6 ⟨A',c',rfl,ho,hb,hkt⟩
 clear q hbw hkt
 obtain⟨L',hL'⟩: ∃L',L++enc s.Bj.toNat=L':=⟨_,rfl⟩
 rw [hL'] at ho⊢
 have EH:Hid (L'++(BS s.res++(BS s.globs++(enc s.pages.length++(enc (Bu s.pages s.pages.length).length++((Bu s.pages s.pages.length).flatMap (OD s.pages)++(enc s.frames.length++s.frames.flatMap NG))))))=CP s):=AA (by rw [←hL',List.append_assoc];exact HE.out)
 have hl':L'.length≤27:=by rw [←hL',List.length_append];have:=AU s.Bj.toNat (by have:=SR.out;omega);omega
 have K5:=AA ho;have K6:=AA (HB.out.trans hb);have FT:=AA (HX.out.below hb hwb)
 clear ho hb hL' HB HE HO hl HX
 try clear A c
 try clear L
 obtain⟨L,rfl⟩: ∃L,L=L':=⟨_,rfl⟩
 obtain⟨A,rfl⟩: ∃A,A=A':=⟨_,rfl⟩
 obtain⟨c,rfl⟩: ∃c,c=c':=⟨_,rfl⟩
 obtain⟨HB,HE,HO,HX,hl⟩:=And.intro K6 (And.intro EH (And.intro K5 (And.intro FT hl')))
 clear K6 EH K5 FT hl'
 have q:=HX.out.q 5 rfl
 have hbw:base≤y6.heap.size:=Nat.le_trans hbs HB.out.size
 go_wp2_with fail
 refine(Lj s.res B5 d5 0 hi base L A c y6 (Rd.below S5.out HB.out UE) UE (by have:=EX.out.res;omega) HO.out hbw (by omega)).mono ?_
 rintro e y7 ⟨A',c',rfl,ho,hb,hkt⟩
 clear q hbw hkt
 obtain⟨L',hL'⟩: ∃L',L++BS s.res=L':=⟨_,rfl⟩
 rw [hL'] at ho⊢
 have EH:Hid (L'++(BS s.globs++(enc s.pages.length++(enc (Bu s.pages s.pages.length).length++((Bu s.pages s.pages.length).flatMap (OD s.pages)++(enc s.frames.length++s.frames.flatMap NG)))))=CP s):=AA (by rw [←hL',List.append_assoc];exact HE.out)
 have hl':L'.length≤117:=by rw [←hL',List.length_append];have:=(by have h1:=GU (Rd.Hw S5.out) (by have:=EX.out.res;omega);have h2:=EX.out.res;omega:(BS s.res).length≤90);omega
 have K5:=AA ho;have K6:=AA (HB.out.trans hb);have FT:=AA (HX.out.below hb hwb)
 clear ho hb hL' HB HE HO hl HX
 try clear A c
 try clear L
 obtain⟨L,rfl⟩: ∃L,L=L':=⟨_,rfl⟩
 obtain⟨A,rfl⟩: ∃A,A=A':=⟨_,rfl⟩
 obtain⟨c,rfl⟩: ∃c,c=c':=⟨_,rfl⟩
 obtain⟨HB,HE,HO,HX,hl⟩:=And.intro K6 (And.intro EH (And.intro K5 (And.intro FT hl')))
 clear K6 EH K5 FT hl'
 have q:=HX.out.q 1 rfl
 have hbw:base≤y7.heap.size:=Nat.le_trans hbs HB.out.size
 go_wp2_with fail
 refine(Lj s.globs B1 d1 0 hi base L A c y7 (Rd.below S1.out HB.out UE) UE (by have:=EX.out.globs;omega) HO.out hbw (by omega)).mono ?_
 rintro e y8 ⟨A',c',rfl,ho,hb,hkt⟩
 clear q hbw hkt
 obtain⟨L',hL'⟩: ∃L',L++BS s.globs=L':=⟨_,rfl⟩
 rw [hL'] at ho⊢
 have EH:Hid (L'++(enc s.pages.length++(enc (Bu s.pages s.pages.length).length++((Bu s.pages s.pages.length).flatMap (OD s.pages)++(enc s.frames.length++s.frames.flatMap NG))))=CP s):=AA (by rw [←hL',List.append_assoc];exact HE.out)
 have hl':L'.length≤767:=by rw [←hL',List.length_append];have:=(by have h1:=GU (Rd.Hw S1.out) (by have:=EX.out.globs;omega);have h2:=EX.out.globs;omega:(BS s.globs).length≤650);omega
 have K5:=AA ho;have K6:=AA (HB.out.trans hb);have FT:=AA (HX.out.below hb hwb)
 clear ho hb hL' HB HE HO hl HX
 try clear A c
 try clear L
 obtain⟨L,rfl⟩: ∃L,L=L':=⟨_,rfl⟩
 obtain⟨A,rfl⟩: ∃A,A=A':=⟨_,rfl⟩
 obtain⟨c,rfl⟩: ∃c,c=c':=⟨_,rfl⟩
 obtain⟨HB,HE,HO,HX,hl⟩:=And.intro K6 (And.intro EH (And.intro K5 (And.intro FT hl')))
 clear K6 EH K5 FT hl'
 have q:=HX.out.q 2 rfl
 have hbw:base≤y8.heap.size:=Nat.le_trans hbs HB.out.size
 go_wp2_with fail
 refine(GZ base L A c s.pages.length y8 HO.out hbw (by have:=EX.out.pages;omega) (by omega)).mono ?_
 rintro e y9 ⟨A',c',rfl,ho,hb,hkt⟩
 clear q hbw hkt
 obtain⟨L',hL'⟩: ∃L',L++enc s.pages.length=L':=⟨_,rfl⟩
 rw [hL'] at ho⊢
 have EH:Hid (L'++(enc (Bu s.pages s.pages.length).length++((Bu s.pages s.pages.length).flatMap (OD s.pages)++(enc s.frames.length++s.frames.flatMap NG)))=CP s):=AA (by rw [←hL',List.append_assoc];exact HE.out)
 have hl':L'.length≤777:=by rw [←hL',List.length_append];have:=AU s.pages.length (by have:=EX.out.pages;omega);omega
 have K5:=AA ho;have K6:=AA (HB.out.trans hb);have FT:=AA (HX.out.below hb hwb)
 clear ho hb hL' HB HE HO hl HX
 try clear A c
 try clear L
 obtain⟨L,rfl⟩: ∃L,L=L':=⟨_,rfl⟩
 obtain⟨A,rfl⟩: ∃A,A=A':=⟨_,rfl⟩
 obtain⟨c,rfl⟩: ∃c,c=c':=⟨_,rfl⟩
 obtain⟨HB,HE,HO,HX,hl⟩:=And.intro K6 (And.intro EH (And.intro K5 (And.intro FT hl')))
 clear K6 EH K5 FT hl'
 have hix:=MQ s.pages s.pages.length
 have hwp:base≤y9.heap.size:=Nat.le_trans hbs HB.out.size
 have S2:=AA (Rd.below S2.out HB.out UE)
 clear hwu hwr
 have q2:=HX.out.q 2 rfl
 go_upto_block 0 with fail
 go_cut [6] (fun n wx=>n= .int .i64 (Bu s.pages s.pages.length).length∧y9=wx)
 case first=>
  go_wp2_with fail
  go_loopw [6,7] (fun n i wr=> ∃k:Nat,k≤s.pages.length∧i= .int .i64 k∧n= .int .i64 (Bu s.pages k).length∧y9=wr) (fun _ i _=>s.pages.length-(intOf i).toNat)
  case atStart=>exact⟨0,Nat.zero_le _,rfl,rfl,rfl⟩
  case round=>
   obtain⟨k,hk,rfl,rfl,rfl⟩:=hrel
   have hik:=MQ s.pages k
   by_cases hlt:k<s.pages.length
   ·obtain⟨p,hpk⟩: ∃p,s.pages[k]?=some p:=⟨_,List.getElem?_eq_getElem hlt⟩
    have HPK:=AA hpk
    have ZG:=AA (EX.out.page p (List.mem_of_getElem? hpk))
    obtain⟨bb,ob,eA,_,_,cs',hc',hr'⟩:=DC S2.out hpk
    subst eA
    obtain⟨v',rfl,hr'⟩:=Co hr'
    obtain⟨A',c',rfl⟩:=AB hr'
    have f0:y9.cell? ⟨bb,ob+k,none⟩=some (.slice A' p.length c'):=by have:=hc' 0 _ rfl;simpa [Rd.sl] using this
    have iB:=AA (Rd.GV hr').2
    have hk0:(0:Int)≤k:=by omega
    have hk1:(k:Int)<s.pages.length:=by omega
    clear hc' hr'
    have HN:Hid (Bu s.pages (k+1)=if XW p=true then Bu s.pages k++ [k] else Bu s.pages k):=AA (by rw [NH];unfold ZV;rw [hpk])
    have HNO:=AA (Q7 p A' c' hi y9 iB.out (by have:=ZG.out;omega))
    clear hpk
    go_wp2_with fail
    refine HNO.out.mono ?_
    rintro e w5 ⟨rfl,rfl⟩
    cases hb:XW p with
    | false=>
     rw [hb,if_neg (by simp)] at HN
     clear hb
     go_wp2_with fail
     exact⟨⟨k+1,by omega,by go_num,by rw [HN.out],by first | exact True.intro | exact rfl⟩,by simp [intOf];omega⟩
    | true=>
     rw [hb,if_pos rfl] at HN
     have HL:Hid ((Bu s.pages (k+1)).length=(Bu s.pages k).length+1):=AA (by rw [HN.out,List.length_append];rfl)
     clear hb HN
     go_wp2_with fail
     exact⟨⟨k+1,by omega,by go_num,by rw [HL.out];go_num,by first | exact True.intro | exact rfl⟩,by simp [intOf];omega⟩
   ·obtain rfl:s.pages.length=k:=by omega
    go_wp2_with fail
    go_meet
    exact⟨rfl,by first | exact True.intro | exact rfl⟩
 case rest=>
 obtain⟨rfl,rfl⟩:=hcut
 clear q2
 go_wp2_with fail
 refine(GZ base L A c (Bu s.pages s.pages.length).length y9 HO.out hwp (by omega) (by omega)).mono ?_
 rintro e y10 ⟨A',c',rfl,ho,hb,hkt⟩
 have hl9:L.length≤777:=hl
 have ABo:base≤y10.heap.size:=Nat.le_trans hwp hb.size
 have S2:=AA (Rd.below S2.out hb UE)
 clear hkt
 obtain⟨L',hL'⟩: ∃L',L++enc (Bu s.pages s.pages.length).length=L':=⟨_,rfl⟩
 rw [hL'] at ho⊢
 have EH:Hid (L'++(((Bu s.pages s.pages.length).flatMap (OD s.pages))++(enc s.frames.length++s.frames.flatMap NG))=CP s):=AA (by rw [←hL',List.append_assoc];exact HE.out)
 have hl':L'.length≤787:=by rw [←hL',List.length_append];have:=AU (Bu s.pages s.pages.length).length (by omega);omega
 have K5:=AA ho;have K6:=AA (HB.out.trans hb);have FT:=AA (HX.out.below hb hwb)
 clear ho hb hL' HB HE HO hl HX
 try clear A c
 try clear L
 obtain⟨L,rfl⟩: ∃L,L=L':=⟨_,rfl⟩
 obtain⟨A,rfl⟩: ∃A,A=A':=⟨_,rfl⟩
 obtain⟨c,rfl⟩: ∃c,c=c':=⟨_,rfl⟩
 obtain⟨HB,HE,HO,HX,hl⟩:=And.intro K6 (And.intro EH (And.intro K5 (And.intro FT hl')))
 clear K6 EH K5 FT hl'
 go_upto_block 2 with fail
 have HPF:=AA (Wv EX.out.page)
 clear hl9
 go_cut [5] (fun b wx=> ∃A c,b= .slice A (L++(Bu s.pages s.pages.length).flatMap (OD s.pages)).length c∧OW wx base (L++(Bu s.pages s.pages.length).flatMap (OD s.pages)) A c∧Below base y10 wx)
 case first=>
  go_wp2_with fail
  go_loopw [5,8] (fun b i wr=> ∃(k:Nat) (A:Option Addr) (c:Nat),k≤s.pages.length∧i= .int .i64 k∧b= .slice A (L++(Bu s.pages k).flatMap (OD s.pages)).length c∧OW wr base (L++(Bu s.pages k).flatMap (OD s.pages)) A c∧Below base y10 wr) (fun _ i _=>s.pages.length-(intOf i).toNat)
  case atStart=>exact⟨0,A,c,Nat.zero_le _,rfl,by simp [Bu],by simpa [Bu] using HO.out,Below.refl _ _⟩
  case round=>
   obtain⟨k,A1,c1,hk,rfl,rfl,ho,hb⟩:=hrel
   have Ui:=AA ho;have jO:=AA hb;have HXr:=AA (HX.out.below hb hwb)
   have UZ:base≤wr.heap.size:=Nat.le_trans ABo hb.size
   have S2r:=AA (Rd.below S2.out hb UE)
   have hik:=MQ s.pages k
   have hfl:=HPF.out (Bu s.pages k) (fun i hi=>by have:=RY hi;omega)
   have q2:=HXr.out.q 2 rfl
   clear ho hb
   by_cases hlt:k<s.pages.length
   ·obtain⟨p,hpk⟩: ∃p,s.pages[k]?=some p:=⟨_,List.getElem?_eq_getElem hlt⟩
    have HPK:=AA hpk
    have ZG:=AA (EX.out.page p (List.mem_of_getElem? hpk))
    obtain⟨bb,ob,eA,_,_,cs',hc',hr'⟩:=DC S2r.out hpk
    subst eA
    obtain⟨v',rfl,hr'⟩:=Co hr'
    obtain⟨A',c',rfl⟩:=AB hr'
    have f0:wr.cell? ⟨bb,ob+k,none⟩=some (.slice A' p.length c'):=by have:=hc' 0 _ rfl;simpa [Rd.sl] using this
    have iB:=AA (Rd.GV hr').2
    have hk0:(0:Int)≤k:=by omega
    have hk1:(k:Int)<s.pages.length:=by omega
    clear hc' hr'
    have HN:Hid (Bu s.pages (k+1)=if XW p=true then Bu s.pages k++ [k] else Bu s.pages k):=AA (by rw [NH];unfold ZV;rw [hpk])
    have HPB:Hid (OD s.pages k=enc k++p):=AA (by unfold OD;rw [hpk];rfl)
    have HNO:=AA (Q7 p A' c' hi wr iB.out (by have:=ZG.out;omega))
    obtain⟨LK,hLK⟩: ∃LK,L++(Bu s.pages k).flatMap (OD s.pages)=LK:=⟨_,rfl⟩
    have hlk:LK.length≤320787:=by rw [←hLK,List.length_append];omega
    have HLK:=AA hLK
    rw [hLK] at Ui⊢
    have hk10:=AU k (by omega)
    clear hpk hLK hfl
    go_wp2_with fail
    refine HNO.out.mono ?_
    rintro e w5 ⟨rfl,rfl⟩
    cases hb:XW p with
    | false=>
     rw [hb,if_neg (by simp)] at HN
     clear hb
     go_wp2_with fail
     exact⟨⟨k+1,A1,c1,by omega,by go_num,by rw [HN.out,HLK.out],by rw [HN.out,HLK.out];exact Ui.out,jO.out⟩,by simp [intOf];omega⟩
    | true=>
     rw [hb,if_pos rfl] at HN
     have uh:Hid ((LK++enc k)++p=L++(Bu s.pages (k+1)).flatMap (OD s.pages)):=AA (by rw [HN.out,List.flatMap_append,←HLK.out];simp [HPB.out])
     clear hb HN
     go_wp2_with fail
     refine(GZ base LK A1 c1 k wr Ui.out UZ (by omega) (by omega)).mono ?_
     rintro e w6 ⟨A2,c2,rfl,ho,hb,hkt⟩
     have HXs:=AA (HXr.out.below hb hwb)
     have q2':=HXs.out.q 2 rfl
     have HBs:=AA (jO.out.trans hb)
     obtain⟨bb2,ob2,eA2,_,_,cs2,hc2,hr2⟩:=DC (k:=k) (x:=p) (Rd.below S2r.out hb UE) HPK.out
     cases eA2
     obtain⟨v2,rfl,hr2⟩:=Co hr2
     obtain⟨A9,c9,rfl⟩:=AB hr2
     have f2:w6.cell? ⟨bb,ob+k,none⟩=some (.slice A9 p.length c9):=by have:=hc2 0 _ rfl;simpa [Rd.sl] using this
     have HPR2:=AA (Rd.GV hr2).2
     obtain⟨L2,hL2⟩: ∃L2,LK++enc k=L2:=⟨_,rfl⟩
     rw [hL2] at ho⊢
     rw [hL2] at uh
     have hl2:L2.length≤320797:=by rw [←hL2,List.length_append];omega
     have HO2:=AA ho
     have yg:base≤w6.heap.size:=Nat.le_trans UZ hb.size
     have hp0:0<p.length:=by have:=ZG.out;omega
     have hp1:p.length≤4096:=by have:=ZG.out;omega
     clear ho hb hkt hc2 hr2 hL2
     go_wp2_with (at_builtin;refine XB rfl _ _ rfl base L2 A2 c2 rfl HO2.out _ A9 p.length c9 p rfl hp0 rfl HPR2.out (by omega) yg ?_;intro A3 c3 w7 h2 h3 h4;have H2:=AA h2;have H3:=AA h3;clear h2 h3 h4)
     have RF:Hid (L2.length+p.length=(L++(Bu s.pages (k+1)).flatMap (OD s.pages)).length):=AA (by rw [←uh.out,List.length_append])
     exact⟨⟨k+1,A3,c3,by omega,by go_num,by rw [←RF.out],by rw [←uh.out];exact H2.out,HBs.out.trans H3.out⟩,by simp [intOf];omega⟩
   ·obtain rfl:s.pages.length=k:=by omega
    go_wp2_with fail
    go_meet
    exact⟨A1,c1,by simp,Ui.out,jO.out⟩
 case rest=>
 obtain⟨A',c',rfl,ho,hb⟩:=hcut
 obtain⟨y11,rfl⟩: ∃y11,y11=wc:=⟨_,rfl⟩
 have ABp:base≤y11.heap.size:=Nat.le_trans ABo hb.size
 obtain⟨L',hL'⟩: ∃L',L++((Bu s.pages s.pages.length).flatMap (OD s.pages))=L':=⟨_,rfl⟩
 rw [hL'] at ho⊢
 have EH:Hid (L'++(enc s.frames.length++s.frames.flatMap NG)=CP s):=AA (by rw [←hL',List.append_assoc];exact HE.out)
 have hl':L'.length≤400000:=by rw [←hL',List.length_append];have:=HPF.out (Bu s.pages s.pages.length) (fun i hi=>by have:=RY hi;omega);omega
 have K5:=AA ho;have K6:=AA (HB.out.trans hb);have FT:=AA (HX.out.below hb hwb)
 clear ho hb hL' HB HE HO hl HX
 try clear A c
 try clear L
 obtain⟨L,rfl⟩: ∃L,L=L':=⟨_,rfl⟩
 obtain⟨A,rfl⟩: ∃A,A=A':=⟨_,rfl⟩
 obtain⟨c,rfl⟩: ∃c,c=c':=⟨_,rfl⟩
 obtain⟨HB,HE,HO,HX,hl⟩:=And.intro K6 (And.intro EH (And.intro K5 (And.intro FT hl')))
 clear K6 EH K5 FT hl'
 have q0:=HX.out.q 0 rfl
 clear hix hwp ABo HPF hpn
 go_wp2_with fail
 refine(GZ base L A c s.frames.length y11 HO.out ABp (by omega) (by omega)).mono ?_
 rintro e y12 ⟨A',c',rfl,ho,hb,hkt⟩
 have hwp4:base≤y12.heap.size:=Nat.le_trans ABp hb.size
 clear hkt q0 ABp
 obtain⟨L',hL'⟩: ∃L',L++enc s.frames.length=L':=⟨_,rfl⟩
 rw [hL'] at ho⊢
 have EH:Hid (L'++(s.frames.flatMap NG)=CP s):=AA (by rw [←hL',List.append_assoc];exact HE.out)
 have hl':L'.length≤400010:=by rw [←hL',List.length_append];have:=AU s.frames.length (by omega);omega
 have K5:=AA ho;have K6:=AA (HB.out.trans hb);have FT:=AA (HX.out.below hb hwb)
 clear ho hb hL' HB HE HO hl HX
 try clear A c
 try clear L
 obtain⟨L,rfl⟩: ∃L,L=L':=⟨_,rfl⟩
 obtain⟨A,rfl⟩: ∃A,A=A':=⟨_,rfl⟩
 obtain⟨c,rfl⟩: ∃c,c=c':=⟨_,rfl⟩
 obtain⟨HB,HE,HO,HX,hl⟩:=And.intro K6 (And.intro EH (And.intro K5 (And.intro FT hl')))
 clear K6 EH K5 FT hl'
 go_wp2_with fail
 obtain⟨LL,Qs⟩: ∃LL,LL=L:=⟨_,rfl⟩
 have RF:=AA Qs
 have S0:=AA (Rd.below S0.out HB.out UE)
 go_loopw [5,9] (fun b i wr=> ∃(k:Nat) (A:Option Addr) (c:Nat),k≤s.frames.length∧i= .int .i64 k∧b= .slice A (LL++(s.frames.take k).flatMap NG).length c∧OW wr base (LL++(s.frames.take k).flatMap NG) A c∧Below base y12 wr) (fun _ i _=>s.frames.length-(intOf i).toNat)
 case atStart=>exact⟨0,A,c,Nat.zero_le _,rfl,by rw [RF.out];simp,by rw [RF.out];simpa using HO.out,Below.refl _ _⟩
 case round=>
  obtain⟨k,A1,c1,hk,rfl,rfl,ho,hb⟩:=hrel
  have hll:LL.length≤400010:=by rw [Qs];exact hl
  rw [←Qs] at HE
  have I7:=AA HE.out
  have HY:=AA HB.out
  clear HE HO hl HB RF
  have Ui:=AA ho;have jO:=AA hb;have HXr:=AA (HX.out.below hb hwb)
  have UZ:base≤wr.heap.size:=Nat.le_trans hwp4 hb.size
  have S0r:=AA (Rd.below S0.out hb UE)
  have q0:=HXr.out.q 0 rfl
  clear ho hb Qs
  by_cases hlt:k<s.frames.length
  ·obtain⟨f,hf⟩: ∃f,s.frames[k]?=some f:=⟨_,List.getElem?_eq_getElem hlt⟩
   have hmem:=List.mem_of_getElem? hf
   have Pv:=AA (EX.out.f0 f hmem);have rH:=AA (EX.out.p0 f hmem);have zG:=AA (EX.out.loc f hmem);have HT0:=AA (EX.out.st f hmem)
   obtain⟨bf,TW,E8,ET,I_,Io,eA,_,_,f0,f1,f2,f3,_,_,CF,Gi⟩:=JR S0r.out hf
   subst eA
   have hfl:=aX (l:=s.frames.take k) (fun f hf=>Me.out f (List.mem_of_mem_take hf))
   obtain⟨LN,hLN⟩: ∃LN,LL++(s.frames.take (k+1)).flatMap NG=LN:=⟨_,rfl⟩
   obtain⟨L,hL⟩: ∃L,LL++(s.frames.take k).flatMap NG=L:=⟨_,rfl⟩
   have hl:L.length≤590000+100000:=by rw [←hL,List.length_append];rw [List.length_take] at hfl;omega
   have HE:Hid (L++(enc f.f.toNat++(enc f.pc.toNat++(BS f.loc++BS f.st)))=LN):=AA (by rw [←hLN,Kz hf,←hL,List.append_assoc];rfl)
   have Yb:=AA hLN
   rw [hL] at Ui⊢
   have hk0:(0:Int)≤k:=by omega
   have hwf:=wrap64 Pv.out.1 (by have:=Pv.out.2;omega)
   have hwp:=wrap64 rH.out.1 (by have:=rH.out.2;omega)
   go_upto_region 30 with(refine Fh rfl _ _ _ rfl _ _ rfl rfl ?_ ?_ ?_ ?_;(try focus kernel_rfl);(try focus rfl);(try focus kernel_rfl))
   generalize hwf:wr.alloc _=z0
   obtain⟨hb,hx⟩:=ES hwf
   have Jv:=AA hx
   have HBZ:=AA hb
   have hzz:base≤z0.heap.size:=Nat.le_trans UZ hb.size
   have hbz:Below base wr z0:=hb.mono UZ
   have HLO:=AA (Rd.below CF hbz UE);have HST:=AA (Rd.below Gi hbz UE)
   have HO:=AA (Ui.out.SG hb)
   have HB:Hid (Below base z0 z0):=AA (Below.refl _ _)
   obtain⟨A,rfl⟩: ∃A,A=A1:=⟨_,rfl⟩
   obtain⟨c,rfl⟩: ∃c,c=c1:=⟨_,rfl⟩
   clear hL hLN CF Gi hfl hmem hf hwf hb hx hbz Ui f0 f1 f2 f3 q0
   have q:=Jv.out.q 0 rfl
   have hbw:base≤z0.heap.size:=Nat.le_trans hzz HB.out.size
   go_wp2_with fail
   refine(KA base L A c f.f z0 HO.out hbw Pv.out.1 (by have:=Pv.out.2;omega) (by omega)).mono ?_
   rintro e z1 ⟨A',c',rfl,ho,hb,hkt⟩
   obtain⟨L',hL'⟩: ∃L',L++enc f.f.toNat=L':=⟨_,rfl⟩
   rw [hL'] at ho⊢
   have EH:Hid (L'++(enc f.pc.toNat++(BS f.loc++BS f.st))=LN):=AA (by rw [←hL',List.append_assoc];exact HE.out)
   have hl':L'.length≤690010:=by rw [←hL',List.length_append];have:=AU f.f.toNat (by have:=Pv.out.2;omega);omega
   have K5:=AA ho;have K6:=AA (HB.out.trans hb);have FT:=AA (hkt _ _ _ eD Jv.out)
   clear ho hb hL' HB HE HO hl Jv q hbw hkt
   try clear A c
   try clear L
   obtain⟨L,rfl⟩: ∃L,L=L':=⟨_,rfl⟩
   obtain⟨A,rfl⟩: ∃A,A=A':=⟨_,rfl⟩
   obtain⟨c,rfl⟩: ∃c,c=c':=⟨_,rfl⟩
   obtain⟨HB,HE,HO,Jv,hl⟩:=And.intro K6 (And.intro EH (And.intro K5 (And.intro FT hl')))
   clear K6 EH K5 FT hl'
   have q:=Jv.out.q 1 rfl
   have hbw:base≤z1.heap.size:=Nat.le_trans hzz HB.out.size
   go_wp2_with fail
   refine(KA base L A c f.pc z1 HO.out hbw rH.out.1 (by have:=rH.out.2;omega) (by omega)).mono ?_
   rintro e z2 ⟨A',c',rfl,ho,hb,hkt⟩
   obtain⟨L',hL'⟩: ∃L',L++enc f.pc.toNat=L':=⟨_,rfl⟩
   rw [hL'] at ho⊢
   have EH:Hid (L'++(BS f.loc++BS f.st)=LN):=AA (by rw [←hL',List.append_assoc];exact HE.out)
   have hl':L'.length≤690020:=by rw [←hL',List.length_append];have:=AU f.pc.toNat (by have:=rH.out.2;omega);omega
   have K5:=AA ho;have K6:=AA (HB.out.trans hb);have FT:=AA (hkt _ _ _ eD Jv.out)
   clear ho hb hL' HB HE HO hl Jv q hbw hkt
   try clear A c
   try clear L
   obtain⟨L,rfl⟩: ∃L,L=L':=⟨_,rfl⟩
   obtain⟨A,rfl⟩: ∃A,A=A':=⟨_,rfl⟩
   obtain⟨c,rfl⟩: ∃c,c=c':=⟨_,rfl⟩
   obtain⟨HB,HE,HO,Jv,hl⟩:=And.intro K6 (And.intro EH (And.intro K5 (And.intro FT hl')))
   clear K6 EH K5 FT hl'
   have q:=Jv.out.q 2 rfl
   have hbw:base≤z2.heap.size:=Nat.le_trans hzz HB.out.size
   go_wp2_with fail
   refine(Lj f.loc E8 ET 0 hi base L A c z2 (Rd.below HLO.out HB.out UE) UE (by have:=zG.out;omega) HO.out hbw (by omega)).mono ?_
   rintro e z3 ⟨A',c',rfl,ho,hb,hkt⟩
   obtain⟨L',hL'⟩: ∃L',L++BS f.loc=L':=⟨_,rfl⟩
   rw [hL'] at ho⊢
   have EH:Hid (L'++(BS f.st)=LN):=AA (by rw [←hL',List.append_assoc];exact HE.out)
   have hl':L'.length≤690670:=by rw [←hL',List.length_append];have:=(by have h1:=GU (Rd.Hw HLO.out) (by have:=zG.out;omega);have h2:=zG.out;omega:(BS f.loc).length≤650);omega
   have K5:=AA ho;have K6:=AA (HB.out.trans hb);have FT:=AA (hkt _ _ _ eD Jv.out)
   clear ho hb hL' HB HE HO hl Jv q hbw hkt
   try clear A c
   try clear L
   obtain⟨L,rfl⟩: ∃L,L=L':=⟨_,rfl⟩
   obtain⟨A,rfl⟩: ∃A,A=A':=⟨_,rfl⟩
   obtain⟨c,rfl⟩: ∃c,c=c':=⟨_,rfl⟩
   obtain⟨HB,HE,HO,Jv,hl⟩:=And.intro K6 (And.intro EH (And.intro K5 (And.intro FT hl')))
   clear K6 EH K5 FT hl'
   have q:=Jv.out.q 3 rfl
   have hbw:base≤z3.heap.size:=Nat.le_trans hzz HB.out.size
   go_wp2_with fail
   refine(Lj f.st I_ Io 0 hi base L A c z3 (Rd.below HST.out HB.out UE) UE (by have:=HT0.out;omega) HO.out hbw (by omega)).mono ?_
   rintro e z4 ⟨A',c',rfl,ho,hb,hkt⟩
   obtain⟨L',hL'⟩: ∃L',L++BS f.st=L':=⟨_,rfl⟩
   rw [hL'] at ho⊢
   have EH:Hid (L'++([])=LN):=AA (by rw [List.append_nil,←hL'];exact HE.out)
   have hl':L'.length≤693240:=by rw [←hL',List.length_append];have:=(by have h1:=GU (Rd.Hw HST.out) (by have:=HT0.out;omega);have h2:=HT0.out;omega:(BS f.st).length≤2570);omega
   have K5:=AA ho;have K6:=AA (HB.out.trans hb);have FT:=AA (hkt _ _ _ eD Jv.out)
   clear ho hb hL' HB HE HO hl Jv q hbw hkt
   try clear A c
   try clear L
   obtain⟨L,rfl⟩: ∃L,L=L':=⟨_,rfl⟩
   obtain⟨A,rfl⟩: ∃A,A=A':=⟨_,rfl⟩
   obtain⟨c,rfl⟩: ∃c,c=c':=⟨_,rfl⟩
   obtain⟨HB,HE,HO,Jv,hl⟩:=And.intro K6 (And.intro EH (And.intro K5 (And.intro FT hl')))
   clear K6 EH K5 FT hl'
   go_wp2_with fail
   exact⟨⟨k+1,A,c,by omega,by go_num,by rw [Yb.out,←HE.out,List.append_nil],by rw [Yb.out,←HE.out,List.append_nil];exact HO.out,jO.out.trans ((HBZ.out.mono UZ).trans HB.out)⟩,by simp [intOf];omega⟩
  ·obtain rfl:s.frames.length=k:=by omega
   have HE2:Hid (LL++(s.frames.take s.frames.length).flatMap NG=CP s):=AA (by rw [List.take_length];exact I7.out)
   rw [HE2.out] at Ui⊢
   go_wp2_with fail
   go_ret2
   exact⟨EP.out.trans ((HY.out.trans jO.out).mono (by have:=EP.out.size;have:=HBB.out;omega)),A1,c1,rfl,Ey.mono Ui.out (Nat.le_of_lt hwb)⟩
end Go.Proofs.YtlagonfamllgjaaGreatDoor
