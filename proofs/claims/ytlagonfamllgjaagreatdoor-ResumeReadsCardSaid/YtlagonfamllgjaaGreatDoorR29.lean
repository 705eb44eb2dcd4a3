/- Part 29 of the proof: SrdL -/
import Derived.Test.YtlagonfamllgjaaGreatDoorR25
import Derived.Test.YtlagonfamllgjaaGreatDoorR27
namespace Go.Proofs.YtlagonfamllgjaaGreatDoor
set_option linter.unusedVariables false
set_option linter.unusedSimpArgs false
set_option maxRecDepth 100000
set_option maxHeartbeats 4000000
open Go.RowKit Tryz
theorem nZ (A:Option Addr) (c B:Nat) (l:List UInt8) (w:World) (hr:Row w B A (l.map bv)) (hB:B≤w.heap.size) (hlc:l.length≤c) (hl47:l.length≤140737488351232):
 Calls prog 20 #[.slice A l.length c] w (nH l w):=by
 have HR:=AA hr
 clear hr
 go_enter func20,ntmps20
 go_upto_region 1 with fail
 generalize hw1:w.alloc (.cells #[.slice none 0 0,.slice none 0 0,.slice none 0 0,.int .i64 0,.int .i8 0,.slice none 0 0,.int .i8 0,.int .i64 0] 35)=w1
 obtain⟨hb1,hx1⟩:=EK hw1
 have hz1:w1.heap.size=w.heap.size+1:=by rw [←hw1];simp
 have HB1:=AA hb1;have CS:=AA hx1;have HZ1:=AA hz1
 have HR1:=AA (HR.out.below' hb1 hB)
 clear hw1 hb1 hx1 hz1
 by_cases hlong:524288<l.length
 ·have hli:(524288:Int)<l.length:=by omega
  have HX:Hid (Dr l= .inl (13,0)):=AA (by unfold Dr;rw [if_pos hlong])
  go_wp2_with (refine F3 CS.out rfl _ _ rfl rfl _ rfl ?_ ?_ ?_ ?_;(try focus kernel_rfl);(try focus rfl);(try focus kernel_rfl))
  have Bq:=AA (CS.out.setRow #[.slice none 0 0,.slice none 0 0,.slice none 0 0,.int .i64 0,.int .i8 0,.slice none 0 0,.int .i8 0,.int .i64 0])
  generalize hw2:World.setRow _ _ _=w2 at*
  have hbz:Below w.heap.size w w2:=by rw [←hw2];exact HB1.out.trans (DK (Nat.le_refl _) _)
  refine⟨rfl,.tuple #[Qe,.int .i64 13,.int .i64 0],?_,hbz,by rw [HX.out]⟩
  exact IW Bq.out rfl rfl rfl
 have hli: ¬(524288:Int)<l.length:=by omega
 have hl:l.length≤140737488351232:=by omega
 have hl5:l.length≤524288:=by omega
 by_cases O5:l.take 5=JZ
 case neg=>
  have HX:Hid (Dr l= .inl (14,0)):=AA (by unfold Dr;rw [if_neg hlong,if_pos O5])
  by_cases h5:l.length<5
  ·have h5i:(l.length:Int)<5:=by omega
   go_wp2_with (refine F3 CS.out rfl _ _ rfl rfl _ rfl ?_ ?_ ?_ ?_;(try focus kernel_rfl);(try focus rfl);(try focus kernel_rfl))
   have Bq:=AA (CS.out.setRow #[.slice none 0 0,.slice none 0 0,.slice none 0 0,.int .i64 0,.int .i8 0,.slice none 0 0,.int .i8 0,.int .i64 0])
   generalize hw2:World.setRow _ _ _=w2 at*
   have hbz:Below w.heap.size w w2:=by rw [←hw2];exact HB1.out.trans (DK (Nat.le_refl _) _)
   refine⟨rfl,.tuple #[Qe,.int .i64 14,.int .i64 0],?_,hbz,by rw [HX.out]⟩
   exact IW Bq.out rfl rfl rfl
  ·have h5i: ¬(l.length:Int)<5:=by omega
   have hcv:=dB (c:=c) HR1.out (by omega)
   have uV:=Wn l
   rw [decide_eq_false O5,Bool.not_false] at uV
   generalize (⟨(l.take 5).toArray⟩:ByteArray)=S at*
   go_wp2_with (refine F3 CS.out rfl _ _ rfl rfl _ rfl ?_ ?_ ?_ ?_;(try focus kernel_rfl);(try focus rfl);(try focus kernel_rfl))
   have Bq:=AA (CS.out.setRow #[.slice none 0 0,.slice none 0 0,.slice none 0 0,.int .i64 0,.int .i8 0,.slice none 0 0,.int .i8 0,.int .i64 0])
   generalize hw2:World.setRow _ _ _=w2 at*
   have hbz:Below w.heap.size w w2:=by rw [←hw2];exact HB1.out.trans (DK (Nat.le_refl _) _)
   refine⟨rfl,.tuple #[Qe,.int .i64 14,.int .i64 0],?_,hbz,by rw [HX.out]⟩
   exact IW Bq.out rfl rfl rfl
 have h5:5≤l.length:=by
  have:=congrArg List.length O5
  rw [List.length_take] at this
  have:JZ.length=5:=rfl
  omega
 have h5i: ¬(l.length:Int)<5:=by omega
 have hcv:=dB (c:=c) HR1.out h5
 have uV:=Wn l
 rw [decide_eq_true O5,Bool.not_true] at uV
 generalize (⟨(l.take 5).toArray⟩:ByteArray)=S at*
 go_upto_region 6 with fail
 generalize hw2:w1.alloc _=w2
 obtain⟨hb2,hx2⟩:=EK hw2
 obtain⟨g,hg⟩: ∃g,g=w1.heap.size:=⟨_,rfl⟩
 rw [←hg] at hx2⊢
 have hgw:g=w.heap.size+1:=by rw [hg];exact HZ1.out
 have hwg:w.heap.size<g:=by omega
 have hBg:B≤g:=by omega
 have nI:Hid (CK 112 w2 g (.slice A l.length c) (.inr 5)):=AA hx2
 have HB2:Hid (Below w.heap.size w w2):=AA (HB1.out.trans (hb2.mono HB1.out.size))
 have Bq:=AA (CS.out.below hb2 CS.out.lt)
 have HR2:=AA (HR1.out.below' hb2 (Nat.le_trans hB HB1.out.size))
 have AAS:=AA O5
 clear hw2 hb2 hx2 hg hgw hcv uV O5 CS HB1 HR1 HZ1
 go_upto_region 7 with(refine Ed rfl _ _ _ rfl _ _ rfl rfl ?_ ?_ ?_ ?_;(try focus kernel_rfl);(try focus rfl);(try focus kernel_rfl))
 generalize Pn:w2.alloc _=w5
 obtain⟨hb5,hx5⟩:=EK Pn
 obtain⟨sb,hsb⟩: ∃sb,sb=w2.heap.size:=⟨_,rfl⟩
 rw [←hsb] at hx5⊢
 have hgs:g<sb:=by have:=nI.out.lt;omega
 have HS:Hid (RS 112 w g sb B A c l [.slice none 0 0,.slice none 0 0,.slice none 0 0,.int .i64 0,.int .i8 0,.slice none 0 0,.int .i8 0,.int .i64 0] (.inr 5) [.slice none 0 0,.slice none 0 0,.slice none 0 0,.int .i64 0,.int .i8 0,.slice none 0 0,.int .i8 0,.int .i64 0] w5):=AA ⟨nI.out.below hb5,hx5,Bq.out.below hb5 (by have:=Bq.out.lt;omega),HB2.out.trans (hb5.mono (by have:=HB2.out.size;omega)),HR2.out.below' hb5 (by have:=HB2.out.size;omega)⟩
 clear Pn hb5 hx5 hsb nI Bq HB2 HR2
 go_wp2_with fail
 refine(TD g B A c l 1 3 (by omega) (.inr 5) w5 HS.out.rd HS.out.row hl).mono ?_
 rintro en w5a ⟨hk,hs,v1,rfl,hv⟩
 have yw:Hid (∀(a q:Nat),Yk l= .inr (a,q)→v1=a):=AA hv
 have hs:CK 112 w5a g (.slice A l.length c) (posR (Yk l)):=hs
 have Ia:=AA (HS.out.call hwg hgs hB hk hs)
 have q:=Ia.out.box.q 4 rfl
 have z:=Ia.out.box.frozen 4
 clear hk hs hv HS
 go_upto_region 8 with fail
 generalize hw:World.setCell _ _ _=w6
 have HS:Hid (RS 112 w g sb B A c l [.slice none 0 0,.slice none 0 0,.slice none 0 0,.int .i64 0,.int .i8 0,.slice none 0 0,.int .i8 0,.int .i64 0] (posR (Yk l)) [.slice none 0 0,.slice none 0 0,.slice none 0 0,.int .i64 0,.int .i8 v1,.slice none 0 0,.int .i8 0,.int .i64 0] w6):=AA (by rw [←hw];exact Ia.out.set hwg hgs hB 4 (.int .i8 v1))
 clear hw q z Ia
 go_wp2_with fail
 refine(TD g B A c l 0 6 (by omega) (posR (Yk l)) w6 HS.out.rd HS.out.row hl).mono ?_
 rintro en w6a ⟨hk,hs,v2,rfl,hv⟩
 rw [show Ak (posR (Yk l)) (FH l 0 6)=XK l from Cc _ _] at hs hv
 have kZ:=AA hv
 have Ia:=AA (HS.out.call hwg hgs hB hk hs)
 have q:=Ia.out.box.q 6 rfl
 have z:=Ia.out.box.frozen 6
 clear hk hs hv HS
 go_upto_region 9 with fail
 generalize hw:World.setCell _ _ _=w6b
 have HS:Hid (RS 112 w g sb B A c l [.slice none 0 0,.slice none 0 0,.slice none 0 0,.int .i64 0,.int .i8 0,.slice none 0 0,.int .i8 0,.int .i64 0] (posR (XK l)) [.slice none 0 0,.slice none 0 0,.slice none 0 0,.int .i64 0,.int .i8 v1,.slice none 0 0,.int .i8 v2,.int .i64 0] w6b):=AA (by rw [←hw];exact Ia.out.set hwg hgs hB 6 (.int .i8 v2))
 clear hw q z Ia
 go_wp2_with fail
 refine(Dm g B A c l 4611686018427387904 17 (posR (XK l)) w6b HS.out.rd HS.out.row hl (by decide)).mono ?_
 rintro en w6ba ⟨hk,hs,rfl⟩
 have hle3:=Hq (l:=l) (most:=4611686018427387904) (great:=17) (st:=posR (XK l))
 rw [show Ak (posR (XK l)) (Ar l 4611686018427387904 17)=VT l from Cc _ _] at hs hle3⊢
 obtain⟨n3,Us⟩: ∃n:Nat,B_ 0 (VT l)=n:=⟨_,rfl⟩
 rw [Us] at hle3⊢
 have bH:=AA Us
 have Ia:=AA (HS.out.call hwg hgs hB hk hs)
 have q:=Ia.out.box.q 7 rfl
 have z:=Ia.out.box.frozen 7
 clear hk hs Us HS
 go_upto_region 10 with fail
 generalize hw:World.setCell _ _ _=w6c
 have HS:Hid (RS 112 w g sb B A c l [.slice none 0 0,.slice none 0 0,.slice none 0 0,.int .i64 0,.int .i8 0,.slice none 0 0,.int .i8 0,.int .i64 0] (posR (VT l)) [.slice none 0 0,.slice none 0 0,.slice none 0 0,.int .i64 0,.int .i8 v1,.slice none 0 0,.int .i8 v2,.int .i64 n3] w6c):=AA (by rw [←hw];exact Ia.out.set hwg hgs hB 7 (.int .i64 n3))
 clear hw q z Ia
 go_wp2_with fail
 refine(Dm g B A c l 9223372036854775807 17 (posR (VT l)) w6c HS.out.rd HS.out.row hl (by decide)).mono ?_
 rintro en w6ca ⟨hk,hs,rfl⟩
 have YD:=Hq (l:=l) (most:=9223372036854775807) (great:=17) (st:=posR (VT l))
 rw [show Ak (posR (VT l)) (Ar l 9223372036854775807 17)=Wv l from Cc _ _] at hs YD⊢
 obtain⟨n4,oI⟩: ∃n:Nat,B_ 0 (Wv l)=n:=⟨_,rfl⟩
 rw [oI] at YD⊢
 have ko:=AA oI
 have Ia:=AA (HS.out.call hwg hgs hB hk hs)
 have q:=Ia.out.box.q 3 rfl
 have z:=Ia.out.box.frozen 3
 clear hk hs oI HS
 go_upto_region 11 with fail
 generalize hw:World.setCell _ _ _=w7
 have HS:Hid (RS 112 w g sb B A c l [.slice none 0 0,.slice none 0 0,.slice none 0 0,.int .i64 0,.int .i8 0,.slice none 0 0,.int .i8 0,.int .i64 0] (posR (Wv l)) [.slice none 0 0,.slice none 0 0,.slice none 0 0,.int .i64 n4,.int .i8 v1,.slice none 0 0,.int .i8 v2,.int .i64 n3] w7):=AA (by rw [←hw];exact Ia.out.set hwg hgs hB 3 (.int .i64 n4))
 clear hw q z Ia
 go_wp2_with fail
 refine(Jg g B A c l 8 (by omega) (posR (Wv l)) w7 HS.out.rd HS.out.row hBg hl).mono ?_
 rintro en w7a ⟨hk,hs,hv⟩
 rw [show Ak (posR (Wv l)) (DL l 8)=Ww l from Cc _ _] at hs hv
 obtain⟨A5,m5,c5,rfl,hls⟩:=hv.ls
 have O6:=AA hls
 have uK:sb<w7.heap.size:=HS.out.box.lt
 have Ia:=AA (HS.out.call hwg hgs hB hk hs)
 have q:=Ia.out.box.q 5 rfl
 have z:=Ia.out.box.frozen 5
 clear hk hs hv hls HS
 go_upto_region 12 with fail
 generalize hw:World.setCell _ _ _=w8
 have HS:Hid (RS 112 w g sb B A c l [.slice none 0 0,.slice none 0 0,.slice none 0 0,.int .i64 0,.int .i8 0,.slice none 0 0,.int .i8 0,.int .i64 0] (posR (Ww l)) [.slice none 0 0,.slice none 0 0,.slice none 0 0,.int .i64 n4,.int .i8 v1,.slice A5 m5 c5,.int .i8 v2,.int .i64 n3] w8):=AA (by rw [←hw];exact Ia.out.set hwg hgs hB 5 (.slice A5 m5 c5))
 have P7:Hid (Keep (KS g sb) w7a w8):=AA (by rw [←hw];exact P8 5 _)
 have O6:=AA (O6.out.keep P7.out (fun k h1 h2=>by show k≠g∧k≠sb;omega))
 clear hw q z Ia P7
 go_wp2_with fail
 refine(Jg g B A c l 64 (by omega) (posR (Ww l)) w8 HS.out.rd HS.out.row hBg hl).mono ?_
 rintro en w8a ⟨hk,hs,hv⟩
 rw [show Ak (posR (Ww l)) (DL l 64)=Rm l from Cc _ _] at hs hv
 obtain⟨A6,m6,c6,rfl,hls⟩:=hv.ls
 have UC:=AA hls
 have hlo6:sb<w8.heap.size:=HS.out.box.lt
 have Ia:=AA (HS.out.call hwg hgs hB hk hs)
 have O6:=AA (O6.out.keep (Qd (sb:=sb) hk) (fun k h1 h2=>by show k≠g∧k≠sb;omega))
 have q:=Ia.out.box.q 1 rfl
 have z:=Ia.out.box.frozen 1
 clear hk hs hv hls HS
 go_upto_region 13 with fail
 generalize hw:World.setCell _ _ _=w9
 have HS:Hid (RS 112 w g sb B A c l [.slice none 0 0,.slice none 0 0,.slice none 0 0,.int .i64 0,.int .i8 0,.slice none 0 0,.int .i8 0,.int .i64 0] (posR (Rm l)) [.slice none 0 0,.slice A6 m6 c6,.slice none 0 0,.int .i64 n4,.int .i8 v1,.slice A5 m5 c5,.int .i8 v2,.int .i64 n3] w9):=AA (by rw [←hw];exact Ia.out.set hwg hgs hB 1 (.slice A6 m6 c6))
 have P7:Hid (Keep (KS g sb) w8a w9):=AA (by rw [←hw];exact P8 1 _)
 have O6:=AA (O6.out.keep P7.out (fun k h1 h2=>by show k≠g∧k≠sb;omega))
 have UC:=AA (UC.out.keep P7.out (fun k h1 h2=>by show k≠g∧k≠sb;omega))
 clear hw q z Ia P7
 go_wp2_with fail
 refine(aI g B A c l (posR (Rm l)) w9 HS.out.rd HS.out.row hBg hl5 hlc).mono ?_
 rintro en w9a ⟨hk,hs,hv⟩
 rw [show Ak (posR (Rm l)) (Cx l)=LG l from Cc _ _] at hs hv
 obtain⟨A7,m7,c7,rfl,hls⟩:=hv.ls
 have iD:=AA hls
 have hlo7:sb<w9.heap.size:=HS.out.box.lt
 have Ia:=AA (HS.out.call hwg hgs hB hk hs)
 have O6:=AA (O6.out.keep (Qd (sb:=sb) hk) (fun k h1 h2=>by show k≠g∧k≠sb;omega))
 have UC:=AA (UC.out.keep (Qd (sb:=sb) hk) (fun k h1 h2=>by show k≠g∧k≠sb;omega))
 have q:=Ia.out.box.q 2 rfl
 have z:=Ia.out.box.frozen 2
 clear hk hs hv hls HS
 go_upto_region 14 with fail
 generalize hw:World.setCell _ _ _=fC
 have HS:Hid (RS 112 w g sb B A c l [.slice none 0 0,.slice none 0 0,.slice none 0 0,.int .i64 0,.int .i8 0,.slice none 0 0,.int .i8 0,.int .i64 0] (posR (LG l)) [.slice none 0 0,.slice A6 m6 c6,.slice A7 m7 c7,.int .i64 n4,.int .i8 v1,.slice A5 m5 c5,.int .i8 v2,.int .i64 n3] fC):=AA (by rw [←hw];exact Ia.out.set hwg hgs hB 2 (.slice A7 m7 c7))
 have P7:Hid (Keep (KS g sb) w9a fC):=AA (by rw [←hw];exact P8 2 _)
 have O6:=AA (O6.out.keep P7.out (fun k h1 h2=>by show k≠g∧k≠sb;omega))
 have UC:=AA (UC.out.keep P7.out (fun k h1 h2=>by show k≠g∧k≠sb;omega))
 have iD:=AA (iD.out.keep P7.out (fun k h1 h2=>by show k≠g∧k≠sb;omega))
 clear hw q z Ia P7
 go_wp2_with fail
 refine(Dm g B A c l 64 20 (posR (LG l)) fC HS.out.rd HS.out.row hl (by decide)).mono ?_
 rintro en uW ⟨hk,hs,rfl⟩
 have HKK:=AA (Qd (sb:=sb) hk)
 have nJ:=Hq (l:=l) (most:=64) (great:=20) (st:=posR (LG l))
 have HRV:Hid (Dr l=match TN l with | .inl e=> .inl e | .inr (_,p)=>if p≠l.length then .inl (19,(p:Int)) else .inr (OO l)):=AA (by unfold Dr;rw [if_neg hlong,if_neg (fun h=>h AAS.out)];cases TN l<;>rfl)
 have HRI:Hid (∀acc p,TN l= .inr (acc,p)→ ∃v5 v6 v7 p5 p6 p7,uL l acc v1 v2 n3 n4 v5 v6 v7 p5 p6 p7):=AA (fun acc p h=>nC h yw.out kZ.out bH.out ko.out)
 have HRR:Hid (TN l=match Ak (posR (LG l)) (Ar l 64 20)with | .inl e=> .inl e | .inr (n,q)=>EX l n [] q):=AA (by
  unfold TN
  rw [←Cc]
  cases posR (LG l)<;>rfl)
 have Ym:=AA (HS.out.call hwg hgs hB hk hs)
 have hlb:=Ym.out.box.lt
 have O6:=AA (O6.out.keep HKK.out (fun k h1 h2=>by show k≠g∧k≠sb;omega))
 have UC:=AA (UC.out.keep HKK.out (fun k h1 h2=>by show k≠g∧k≠sb;omega))
 have iD:=AA (iD.out.keep HKK.out (fun k h1 h2=>by show k≠g∧k≠sb;omega))
 obtain⟨N,hN⟩: ∃N:Nat,B_ 0 (Ak (posR (LG l)) (Ar l 64 20))=N:=⟨_,rfl⟩
 rw [hN] at nJ⊢
 obtain⟨hb,hhb⟩: ∃hb,hb=uW.heap.size:=⟨_,rfl⟩
 have RD:Hid (FSt l N 0 hb (TN l) uW none 0 [] (posR (Ak (posR (LG l)) (Ar l 64 20)))):=AA (by
  have h:=HRR.out
  cases hx:Ak (posR (LG l)) (Ar l 64 20)with
  | inl e=>rw [hx] at h;exact h
  | inr x=>
   obtain⟨n,q⟩:=x
   rw [hx] at h hN
   have hN:n=N:=hN
   subst hN
   exact⟨[],Fu.nil _ _ _ _,h.symm⟩)
 generalize posR (Ak (posR (LG l)) (Ar l 64 20))=st0 at*
 generalize TN l=RR at*
 clear HRR hN hk hs HS HKK
 have nK:sb<hb:=by omega
 have hzb:hb≤uW.heap.size:=Nat.le_of_eq hhb
 obtain⟨i0,z0,GU,GV,GX,D8,KY⟩:=info_parts' OV
 have Z5:=AA GU;have Z6:=AA GV;have Z7:=AA GX;have Ny:=AA D8;have M5:=AA KY
 clear GU GV GX D8 KY
 have HHB:=AA hhb
 clear hhb
 go_wp2_with fail
 go_loopw [8,9] (fun i _ wr=>AFM 112 w g sb B A c l [.slice none 0 0,.slice none 0 0,.slice none 0 0,.int .i64 0,.int .i8 0,.slice none 0 0,.int .i8 0,.int .i64 0] N hb RR uW (fun a b=> [.slice a b.1 b.2,.slice A6 m6 c6,.slice A7 m7 c7,.int .i64 n4,.int .i8 v1,.slice A5 m5 c5,.int .i8 v2,.int .i64 n3]) i wr) (fun i _ _=>N-(intOf i).toNat)
 case atStart=>exact⟨0,none,0,[],st0,Nat.zero_le _,rfl,Ym.out,⟨by simp,.inl ⟨rfl,rfl⟩⟩,Keep.refl _ _,RD.out⟩
 case round=>
  obtain⟨k,Af,cf,fc,st,hk,rfl,hs,hown,hkp,hst⟩:=hrel
  have M7:=AA hs;have HOW:=AA hown;have IK:=AA hkp;have HST:=AA hst
  have TQ:=hkp.size
  have hk0:(0:Int)≤k:=by omega
  have O7:=hown.lt
  have HOL:Hid (∀k',(Value.slice Af k cf).ownBlock=some k'→hb≤k'∧k'<wr.heap.size):=AA O7
  clear hs hown hst O7 hkp
  by_cases hgo:k<N∧ ∃p,st= .inr p
  ·obtain⟨hlt,p0,AFj⟩:=hgo
   have hki:(k:Int)<N:=by omega
   have c2:wr.cell? ⟨g,2,none⟩=some (.int .i64 0):=by
    have h:=M7.out.rd
    rw [AFj] at h
    exact AQ.q (show AQ wr g 112 [.slice A l.length c,.int .i64 p0,.int .i64 0,.int .i64 0] from h) 2 rfl
   clear AFj
   go_upto_region 19 with(refine Ed rfl _ _ _ rfl _ _ rfl rfl ?_ ?_ ?_ ?_;(try focus kernel_rfl);(try focus rfl);(try focus kernel_rfl))
   generalize hy:wr.alloc _=y0
   obtain⟨hb3,hx3⟩:=EK hy
   obtain⟨fb,mI⟩: ∃fb,fb=wr.heap.size:=⟨_,rfl⟩
   rw [←mI] at hx3⊢
   have hsf:sb<fb:=by omega
   have hgf:g≠fb:=by omega
   have HS:=AA (M7.out.under hwg hgs hB hb3 (by omega))
   have HX:=AA (show AQ y0 fb 91 [.int .i64 0,.int .i64 0,.slice none 0 0,.slice none 0 0] from hx3)
   have HK:=AA ((Keep.refl (KN g) wr).CY (hb3.mono (by omega)))
   have hfr:wr.heap.size≤fb:=by omega
   clear hy hb3 hx3 mI c2
   go_wp2_with fail
   refine(Dm g B A c l 127 17 st y0 HS.out.rd HS.out.row hl (by decide)).mono ?_
   rintro en y0a ⟨hk1,hs1,rfl⟩
   rw [show Ak st (Ar l 127 17)=cZ l st from rfl] at hs1⊢
   have hle1:B_ 0 (cZ l st)≤127:=Hq
   obtain⟨n1,hn1⟩: ∃n:Nat,B_ 0 (cZ l st)=n:=⟨_,rfl⟩
   rw [hn1] at hle1⊢
   have HN1:=AA hn1
   have Ia:=AA (HS.out.call hwg hgs hB hk1 hs1)
   have T9:=AA (HX.out.keep hk1 (Ne.symm hgf))
   have ni:=AA (HK.out.trans hk1)
   have q:=T9.out.q 0 rfl
   have z:=T9.out.frozen 0
   clear hk1 hs1 hn1 HS HX HK
   go_upto_region 20 with fail
   generalize hy:World.setCell _ _ _=y1
   have hb5:Below fb y0a y1:=by rw [←hy];exact DZ
   have o7:Keep (KN fb) y0a y1:=by rw [←hy];exact Cy 0 _
   have HX:=AA (show AQ y1 fb 91 [.int .i64 n1,.int .i64 0,.slice none 0 0,.slice none 0 0] by rw [←hy];exact T9.out.set 0 _)
   have HS:=AA (Ia.out.under hwg hgs hB hb5 hsf)
   have HK:=AA (ni.out.CY (hb5.mono hfr))
   clear hy hb5 o7 q z Ia T9 ni
   go_wp2_with fail
   refine(Dm g B A c l 2047 17 (posR (cZ l st)) y1 HS.out.rd HS.out.row hl (by decide)).mono ?_
   rintro en y1a ⟨hk1,hs1,rfl⟩
   rw [show Ak (posR (cZ l st)) (Ar l 2047 17)=aA l st from rfl] at hs1⊢
   have hle2:B_ 0 (aA l st)≤2047:=Hq
   obtain⟨n2,hn2⟩: ∃n:Nat,B_ 0 (aA l st)=n:=⟨_,rfl⟩
   rw [hn2] at hle2⊢
   have wW:=AA hn2
   have Ia:=AA (HS.out.call hwg hgs hB hk1 hs1)
   have T9:=AA (HX.out.keep hk1 (Ne.symm hgf))
   have ni:=AA (HK.out.trans hk1)
   have q:=T9.out.q 1 rfl
   have z:=T9.out.frozen 1
   clear hk1 hs1 hn2 HS HX HK
   go_upto_region 21 with fail
   generalize hy:World.setCell _ _ _=y2
   have hb5:Below fb y1a y2:=by rw [←hy];exact DZ
   have o7:Keep (KN fb) y1a y2:=by rw [←hy];exact Cy 1 _
   have HX:=AA (show AQ y2 fb 91 [.int .i64 n1,.int .i64 n2,.slice none 0 0,.slice none 0 0] by rw [←hy];exact T9.out.set 1 _)
   have HS:=AA (Ia.out.under hwg hgs hB hb5 hsf)
   have HK:=AA (ni.out.CY (hb5.mono hfr))
   clear hy hb5 o7 q z Ia T9 ni
   go_wp2_with fail
   refine(Jg g B A c l 64 (by omega) (posR (aA l st)) y2 HS.out.rd HS.out.row hBg hl).mono ?_
   rintro en y2a ⟨hk1,hs1,hv⟩
   rw [show Ak (posR (aA l st)) (DL l 64)=nA l st from rfl] at hs1 hv
   obtain⟨Al,ml,cl,rfl,hls⟩:=hv.ls
   have hlol:=HX.out.lt
   have HLl:=AA hls
   have Ia:=AA (HS.out.call hwg hgs hB hk1 hs1)
   have T9:=AA (HX.out.keep hk1 (Ne.symm hgf))
   have ni:=AA (HK.out.trans hk1)
   have q:=T9.out.q 2 rfl
   have z:=T9.out.frozen 2
   clear hk1 hs1 hv hls HS HX HK
   go_upto_region 22 with fail
   generalize hy:World.setCell _ _ _=y3
   have hb5:Below fb y2a y3:=by rw [←hy];exact DZ
   have o7:Keep (KN fb) y2a y3:=by rw [←hy];exact Cy 2 _
   have HX:=AA (show AQ y3 fb 91 [.int .i64 n1,.int .i64 n2,.slice Al ml cl,.slice none 0 0] by rw [←hy];exact T9.out.set 2 _)
   have HS:=AA (Ia.out.under hwg hgs hB hb5 hsf)
   have HK:=AA (ni.out.CY (hb5.mono hfr))
   have HLl:=AA (HLl.out.keep o7 (fun k h1 h2=>by show k≠fb;omega))
   clear hy hb5 o7 q z Ia T9 ni
   go_wp2_with fail
   refine(Jg g B A c l 256 (by omega) (posR (nA l st)) y3 HS.out.rd HS.out.row hBg hl).mono ?_
   rintro en y3a ⟨hk1,hs1,hv⟩
   rw [show Ak (posR (nA l st)) (DL l 256)=uJ l st from rfl] at hs1 hv
   obtain⟨At,mt,ct,rfl,hls⟩:=hv.ls
   have hlot:=HX.out.lt
   have yJ:=AA hls
   have HLl:=AA (HLl.out.keep hk1 (fun k h1 h2=>by show k≠g;omega))
   have Ia:=AA (HS.out.call hwg hgs hB hk1 hs1)
   have T9:=AA (HX.out.keep hk1 (Ne.symm hgf))
   have ni:=AA (HK.out.trans hk1)
   have q:=T9.out.q 3 rfl
   have z:=T9.out.frozen 3
   clear hk1 hs1 hv hls HS HX HK
   go_upto_region 23 with fail
   generalize hy:World.setCell _ _ _=y7
   have hb5:Below fb y3a y7:=by rw [←hy];exact DZ
   have o7:Keep (KN fb) y3a y7:=by rw [←hy];exact Cy 3 _
   have HX:=AA (show AQ y7 fb 91 [.int .i64 n1,.int .i64 n2,.slice Al ml cl,.slice At mt ct] by rw [←hy];exact T9.out.set 3 _)
   have HS:=AA (Ia.out.under hwg hgs hB hb5 hsf)
   have HK:=AA (ni.out.CY (hb5.mono hfr))
   have HLl:=AA (HLl.out.keep o7 (fun k h1 h2=>by show k≠fb;omega))
   have yJ:=AA (yJ.out.keep o7 (fun k h1 h2=>by show k≠fb;omega))
   clear hy hb5 o7 q z Ia T9 ni
   have Xp:=AA (Ce HOW.out HK.out (fun k h=>by have:=HOL.out k h;show k≠g;omega))
   have q:=HS.out.box.cell 0
   have z:=HS.out.box.frozen 0
   have q0:=HX.out.cell 0
   have q1:=HX.out.cell 1
   have q2:=HX.out.cell 2
   have q3:=HX.out.cell 3
   have hz7:=HK.out.size
   have GL:=AA (JY y7 [.int .i64 n1,.int .i64 n2,.slice Al ml cl,.slice At mt ct] 91)
   go_upto_region 17 with(at_builtin;refine BL _ rfl _ _ 30 rfl hb 91 i0 z0 4 64 underlying30 Z5.out Z6.out Z7.out Ny.out M5.out (by omega) (.slice Af k cf) k fc rfl (Xp.out.alloc _) (y7.heap.size+1) _ 1 1 [.int .i64 n1,.int .i64 n2,.slice Al ml cl,.slice At mt ct] rfl rfl GL.out (by intro u hu;simp at hu;rcases hu with rfl | rfl | rfl | rfl<;>rfl) (by unfold maxLen;omega) (by omega) (by simp;omega) ?_;intro A9 c9 y9 h2 h3 h4;have H2:=AA h2;have H3:=AA h3;have H4:=AA h4;have aC:Below hb y7 y9:=((Below.refl hb y7).alloc (by omega) _).trans (BG (Xp.out.alloc _) h3 (by simp;omega));have oz:=AA (HS.out.under hwg hgs hB aC nK);have qq:=oz.out.box.cell 0;have zz:=oz.out.box.frozen 0;have Zy:=AA aC;clear h2 h3 h4 aC)
   have ZY:=AA (HST.out.next (sb:=sb) (u:= .slice A9 (k+1) c9) hlt (by omega) nK (by omega) HK.out HN1.out wW.out hle1 hle2 HLl.out (by omega) yJ.out (by omega) HOL.out H2.out H3.out H4.out)
   go_wp2_with fail
   exact⟨⟨k+1,A9,c9,_,posR (uJ l st),by omega,by go_num,oz.out.set hwg hgs hB 0 (.slice A9 (k+1) c9),Ce H2.out (Cy 0 _) (fun k' h=>by have:=(H2.out.lt k' h).1;show k'≠sb;omega),
    ((IK.out.trans (HK.out.mono (fun k' h=>h.1.1))).trans (Keep.of_below Zy.out (fun k' h _=>h.2))).trans ((Cy 0 _).mono (fun k' h=>h.1.2)),ZY.out⟩,by simp [intOf];omega⟩
  have hk64:N≤64:=nJ
  cases st with
  | inl e=>
   have HX:Hid (Dr l= .inl e):=AA (by rw [HRV.out,show RR= .inl e from HST.out])
   obtain⟨hne,b,hb⟩:=M7.out.rd
   have q2:=hb.q 2 rfl
   have q3:=hb.q 3 rfl
   have m1:(e.1==0)=false:=beq_eq_false_iff_ne.2 hne
   have m2:(e.1 !=0)=true:=bne_iff_ne.2 hne
   clear hb hne
   have TF:g≠w.heap.size:=by omega
   by_cases hlt:k<N
   case' pos=>have hki:(k:Int)<N:=by omega
   case' neg=>have hki: ¬(k:Int)<N:=by omega
   all_goals
    go_upto_region 27 with fail
    refine dI q2 q3 TF M7.out.res _ _ _ _ _ _ _ _ _ _ _ _ _ _ _ _ _ _ _ _ _ _ _ _ _ _ _ _ _ _ _ _ _ _ _ _ _ _ _ _ _ _ _ _ _ _ _ _ _ _ _ _ _ _ _ _ _ _ _ _ _ _ _ _ _ _ _ _ _ _ _ _ _ _ _ _ _ _ _ _ _ _ _ _ _ _ _ _ _ _ _ _ _ _ _ _ _ _ _ _ _ _ _ _ _ _ _ _ _ _ _ _ _ _ _ _ _ _ _ _ _ _ (AA ?_)
    intro AAj AAk AAl AAm AAn t116 t117 AAo t119 uY hbw hbk
    go_wp2_with fail
    refine⟨rfl,.tuple #[Qe,.int .i64 e.1,.int .i64 e.2],?_,M7.out.Ep.trans hbw,by rw [HX.out]⟩
    exact IW hbk rfl rfl rfl
  | inr p=>
   obtain rfl:N=k:=by
    have: ¬k<N:=fun h=>hgo ⟨h,p,rfl⟩
    omega
   have hki: ¬(N:Int)<N:=by omega
   obtain⟨acc,hG,AFk⟩:=HST.out
   have hRR:RR= .inr (acc,p):=by rw [←AFk,Nat.sub_self];rfl
   have HG:=AA hG
   have hb:AQ wr g 112 [.slice A l.length c,.int .i64 p,.int .i64 0,.int .i64 0]:=M7.out.rd
   have q1:=hb.q 1 rfl
   have q2:=hb.q 2 rfl
   clear hG hgo AFk hb
   by_cases hpl:p=l.length
   ·have HX:Hid (Dr l= .inr (OO l)):=AA (by rw [HRV.out,hRR];show(if p≠l.length then _ else _)=_;rw [if_neg (fun h=>h hpl)])
    obtain⟨v5,v6,v7,p5,p6,p7,hin⟩:=HRI.out acc p hRR
    have EU:=AA hin
    have hpi:((p:Int) !=(l.length:Int))=false:=by rw [bne_eq_false_iff_eq];omega
    clear hin hRR hpl
    go_wp2_with (first | refine xB M7.out.box rfl _ rfl rfl ?_ | (refine F3 M7.out.res rfl _ _ rfl rfl _ rfl ?_ ?_ ?_ ?_;(try focus kernel_rfl);(try focus rfl);(try focus kernel_rfl)))
    have Bq:=AA (M7.out.res.setRow #[.slice Af N cf,.slice A6 m6 c6,.slice A7 m7 c7,.int .i64 n4,.int .i8 v1,.slice A5 m5 c5,.int .i8 v2,.int .i64 n3])
    generalize hw2:World.setRow _ _ _=uY at*
    have hbz:Below w.heap.size w uY:=by rw [←hw2];exact M7.out.Ep.trans (DK (Nat.le_refl _) _)
    have hkz:Keep (KN w.heap.size) wr uY:=by rw [←hw2];exact aB _ rfl
    refine⟨rfl,.tuple #[.agg #[.slice Af N cf,.slice A6 m6 c6,.slice A7 m7 c7,.int .i64 n4,.int .i8 v1,.slice A5 m5 c5,.int .i8 v2,.int .i64 n3],.int .i64 0,.int .i64 0],?_,hbz,?_⟩
    ·exact IW Bq.out rfl rfl rfl
    ·rw [HX.out]
     refine⟨[.slice Af N cf,.slice A6 m6 c6,.slice A7 m7 c7,.int .i64 n4,.int .i8 v1,.slice A5 m5 c5,.int .i8 v2,.int .i64 n3],rfl,?_⟩
     have f5:=(O6.out.keep IK.out (fun k h1 h2=>⟨by show k≠g∧k≠sb;omega,by have:=O6.out.1;have:=HHB.out;omega⟩)).keep hkz (fun k h1 h2=>by show k≠w.heap.size;omega)
     have f6:=(UC.out.keep IK.out (fun k h1 h2=>⟨by show k≠g∧k≠sb;omega,by have:=UC.out.1;have:=HHB.out;omega⟩)).keep hkz (fun k h1 h2=>by show k≠w.heap.size;omega)
     have f7:=(iD.out.keep IK.out (fun k h1 h2=>⟨by show k≠g∧k≠sb;omega,by have:=iD.out.1;have:=HHB.out;omega⟩)).keep hkz (fun k h1 h2=>by show k≠w.heap.size;omega)
     have fG:=(HG.out.kn hkz (by omega)).reads
     exact U5 EU.out hle3 YD (by omega) (by omega) (by omega) (by omega) fG HG.out.len f5 f6 f7
   ·have HX:Hid (Dr l= .inl (19,(p:Int))):=AA (by rw [HRV.out,hRR];show(if p≠l.length then _ else _)=_;rw [if_pos hpl])
    have hpi:((p:Int) !=(l.length:Int))=true:=by rw [bne_iff_ne];omega
    clear hRR hpl
    go_wp2_with fail
    refine(G_ g _ 19 p (.inr p) wr M7.out.rd (by decide)).mono ?_
    rintro en y1 ⟨hk1,hs1,rfl⟩
    have Zo:=AA (M7.out.call hwg hgs hB hk1 hs1)
    obtain⟨hne,b,hb⟩:=hs1
    have q2:=hb.cell 2
    have q3:=hb.cell 3
    have TF:g≠w.heap.size:=by omega
    clear hk1 hb hne q1
    go_upto_region 27 with fail
    refine dI q2 q3 TF Zo.out.res _ _ _ _ _ _ _ _ _ _ _ _ _ _ _ _ _ _ _ _ _ _ _ _ _ _ _ _ _ _ _ _ _ _ _ _ _ _ _ _ _ _ _ _ _ _ _ _ _ _ _ _ _ _ _ _ _ _ _ _ _ _ _ _ _ _ _ _ _ _ _ _ _ _ _ _ _ _ _ _ _ _ _ _ _ _ _ _ _ _ _ _ _ _ _ _ _ _ _ _ _ _ _ _ _ _ _ _ _ _ _ _ _ _ _ _ _ _ _ _ _ _ (AA ?_)
    intro AAj AAk AAl AAm AAn t116 t117 AAo t119 uY hbw hbk
    go_wp2_with fail
    refine⟨rfl,.tuple #[Qe,.int .i64 19,.int .i64 p],?_,Zo.out.Ep.trans hbw,by rw [HX.out]⟩
    exact IW hbk rfl rfl rfl
end Go.Proofs.YtlagonfamllgjaaGreatDoor
