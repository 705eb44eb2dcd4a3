/- Part 39 of the proof: TbyA -/
import Derived.Test.YtejbcledkhioeaaGreatDoorQ37
import Derived.Test.YtejbcledkhioeaaGreatDoorQ38
namespace Go.Proofs.YtejbcledkhioeaaGreatDoor
set_option linter.unusedVariables false
set_option linter.unusedSimpArgs false
set_option maxRecDepth 100000
set_option maxHeartbeats 4000000
open Go.RowKit Tryz
theorem kP (At:Option Addr) (nt ct:Nat) (l:List UInt8) (hj:Nat) (w:World) (hn:nt=l.length) (hc:nt≤ct) (hr:Row w w.heap.size At (l.map bv)) (h47:nt≤140737488351232) (hE:Dv hj w) (Ms:hj≤w.heap.size):
 Calls prog 6 #[.slice At nt ct] w fun e w'=>Below w.heap.size w w'∧e= .returned (.bool true):=by
 subst hn
 have HR:=AA hr;have HE:=AA hE
 clear hr hE
 go_enter func6,ntmps6
 go_wp2_with fail
 refine(uw (hi:=hj) w HE.out Ms).mono ?_
 rintro e w2 ⟨hb2,rfl⟩
 have HB2:=AA hb2
 have hs2:w.heap.size≤w2.heap.size:=HB2.out.size
 clear hb2
 by_cases hl:65536<l.length
 ·have d1:decide ((65536:Int)<l.length)=true:=decide_eq_true (by omega)
  have d2:(65536:Int)<l.length:=by omega
  clear hl
  go_wp2_with fail
  go_ret
  exact⟨HB2.out,rfl⟩
 have d1:decide ((65536:Int)<l.length)=false:=decide_eq_false (by omega)
 have d2: ¬(65536:Int)<l.length:=by omega
 have OM:Hid (UJ w2 w.heap.size l At l.length ct):=AA ⟨rfl,by omega,hc,HR.out.below HB2.out⟩
 have HDC:=AA (dH w2 OM.out hs2 (fun w' hb=>HE.out.sI w' ((HB2.out.mono Ms).trans (hb.mono (Nat.le_trans Ms hs2)))))
 clear hl
 go_wp2_with fail
 refine HDC.out.mono ?_
 rintro e w3 ⟨hb3,A1,A2,A3,A6,A7,A8,n1,n2,n3,n6,n7,n8,c1,c2,c3,c6,c7,c8,fi,mo,er,at_,rfl,hres⟩
 have HB3:=AA (HB2.out.trans (hb3.mono hs2))
 have Zr:=AA hres
 have hs3:w2.heap.size≤w3.heap.size:=hb3.size
 clear hb3 hres HDC
 go_upto_region 5 with fail
 generalize hw4:World.alloc _ _=w4
 have hb4:Below w3.heap.size w3 w4:=by rw [←hw4];exact(Below.refl _ _).alloc (Nat.le_refl _) _
 have qx:AL w4 w3.heap.size 29 [.slice A1 n1 c1,.slice A2 n2 c2,.slice A3 n3 c3,.int .i64 fi,.int .i64 mo,.slice A6 n6 c6,.slice A7 n7 c7,.slice A8 n8 c8]:=by rw [←hw4];exact AL.new w3 _ _
 have HM4:=AA qx
 have J9:=AA (HB3.out.trans (hb4.mono HB3.out.size))
 have hs4:w3.heap.size≤w4.heap.size:=hb4.size
 have kL:=AA hb4
 clear hw4 hb4 qx
 by_cases he:er=0
 case neg=>
  have hz0:(er !=0)=true:=bne_iff_ne.2 he
  clear he
  go_wp2_with fail
  go_ret
  exact⟨J9.out,rfl⟩
 subst he
 obtain⟨m,hR,hz,hB⟩:=Zr.out rfl
 have ACV:=AA (SX hR)
 have hpp:=TI hz ACV.out
 have hsm:Ap m≤2147483647:=by have:=Zk (CK (Gb m));rw [hpp] at this;exact this
 have HSM:=AA hsm
 have HZ:=AA hz;have UF:=AA hB
 have HR4:=AA (JQ.more (Nat.zero_le _) (Nat.le_refl _) (Rd.below hR kL.out (Nat.le_refl _)))
 have hjw:hj≤w3.heap.size:=Nat.le_trans Ms (Nat.le_trans hs2 hs3)
 clear hR hz hB hsm
 go_wp2_with (refine ldM HM4.out rfl _ rfl rfl ?_)
 refine(Wq [.slice A1 n1 c1,.slice A2 n2 c2,.slice A3 n3 c3,.int .i64 fi,.int .i64 mo,.slice A6 n6 c6,.slice A7 n7 c7,.slice A8 n8 c8] w3.heap.size hj m w4 HR4.out hs4 HSM.out (HE.out.to (J9.out.mono Ms)) (Nat.le_trans hjw hs4)).mono ?_
 rintro e w5 ⟨hb5,qp⟩
 rw [if_pos HZ.out,HZ.out] at qp
 subst qp
 have JX:=AA (J9.out.trans (hb5.mono J9.out.size))
 have hs5:w4.heap.size≤w5.heap.size:=hb5.size
 clear hb5 HR4
 go_wp2_with fail
 refine(Sb (CK (Gb m)) (hi:=hj) w5 (HE.out.to (JX.out.mono Ms)) (by omega)).mono ?_
 rintro e w6 ⟨hb6,cs6,hl6,he6,hr6⟩
 simp only [hpp] at he6 hr6
 obtain⟨u1,u2,u3,u6,u7,u8,rfl,h1,h2,h3,h4,h5,h6,h7,h8⟩:=EK.1 hr6
 obtain⟨D1,e1,rfl⟩:=AX h1
 obtain⟨D2,e2,rfl⟩:=AX h2
 obtain⟨D3,e3,rfl⟩:=AX h3
 obtain⟨D6,e6,rfl⟩:=AX h6
 obtain⟨D7,e7,rfl⟩:=AX h7
 obtain⟨D8,e8,rfl⟩:=AX h8
 subst he6
 have Lr:=AA (JX.out.trans (hb6.mono JX.out.size))
 have Vk:=AA hr6
 have hs6:w5.heap.size≤w6.heap.size:=hb6.size
 clear hb6 hr6 h1 h2 h3 h4 h5 h6 h7 h8 hl6 hpp
 go_upto_region 9 with fail
 generalize hw7:World.alloc _ _=w7
 have M_:Below w6.heap.size w6 w7:=by rw [←hw7];exact(Below.refl _ _).alloc (Nat.le_refl _) _
 have bE:AL w7 w6.heap.size 29 [.slice D1 m.types.length e1,.slice D2 m.hosts.length e2,.slice D3 m.globs.length e3,.int .i64 m.first,.int .i64 m.most,.slice D6 m.fns.length e6,.slice D7 m.dat.length e7,.slice D8 m.AU.length e8]:=by rw [←hw7];exact AL.new w6 _ _
 have HM7:=AA bE
 have bD:=AA (Lr.out.trans (M_.mono Lr.out.size))
 have jX:=AA (JQ.more (Nat.zero_le _) (Nat.le_refl _) (Rd.below Vk.out M_ (Nat.le_refl _)))
 have hs7:w6.heap.size≤w7.heap.size:=M_.size
 have hjw6:hj≤w6.heap.size:=by omega
 clear hw7 M_ bE Vk
 have Z9:=AA (TP [.slice D1 m.types.length e1,.slice D2 m.hosts.length e2,.slice D3 m.globs.length e3,.int .i64 m.first,.int .i64 m.most,.slice D6 m.fns.length e6,.slice D7 m.dat.length e7,.slice D8 m.AU.length e8] w6.heap.size m w7 jX.out hs7 HSM.out ACV.out (fun w' hb=>HE.out.sI w' ((bD.out.mono Ms).trans (hb.mono hjw6))))
 go_wp2_with (refine ldM HM7.out rfl _ rfl rfl ?_)
 refine Z9.out.mono ?_
 rintro e w8 ⟨v,er,rfl,EM,her,hrow⟩
 have her0:er=0:=by rw [her];exact HZ.out
 subst her0
 obtain⟨A9,c9,rfl,hrw⟩:=hrow rfl
 have KQ:=AA (bD.out.trans (EM.mono bD.out.size))
 have HEQ:=AA (ZG At A9 l.length (LU m).length ct c9 w.heap.size w8.heap.size w8 l (LU m) rfl rfl h47 (HR.out.below KQ.out) hrw)
 clear EM her hrow hrw Z9
 go_wp2_with fail
 refine HEQ.out.mono ?_
 rintro e w9 ⟨⟨k,rfl⟩,rfl⟩
 have hdd:decide (l=LU m)=true:=decide_eq_true UF.out.symm
 rw [hdd]
 have oN:=AA (below_drewN KQ.out k)
 clear hdd HEQ
 go_wp2_with fail
 go_ret
 exact⟨oN.out,rfl⟩
end Go.Proofs.YtejbcledkhioeaaGreatDoor
