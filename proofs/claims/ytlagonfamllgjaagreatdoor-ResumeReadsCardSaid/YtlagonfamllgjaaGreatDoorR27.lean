/- Part 27 of the proof: SrdF -/
import Derived.Test.YtlagonfamllgjaaGreatDoorR26
namespace Go.Proofs.YtlagonfamllgjaaGreatDoor
set_option linter.unusedVariables false
set_option linter.unusedSimpArgs false
set_option maxRecDepth 100000
set_option maxHeartbeats 4000000
open Go.RowKit Tryz
theorem F3 {P:Program} {ops:Array Oper} {rest:List Oper} {op:Oper} {a:Act} {w:World} {Q:Exit→Act→World→Prop} {g:Nat} {t:TypeId} {xs:List Value} (hb:AQ w g t xs) (hgd:op.guard=none) (x y:Operand) (ho:op.op= .store t x y)
 (hx:a.eval x= .pointer (some ⟨g,0,none⟩)) (ys:Array Value) (hy:a.eval y= .agg ys) (hi:(P.info? t).map (·.size)=some ys.size) (hl:xs.length=ys.size) (h1:ys.all (·.oneCell')=true)
 (h:wpList P ops Q rest (a.put op.dst (.tuple #[])) (w.setRow g ys)):wpList P ops Q (op::rest) a w:=by
 refine wpList_plain hgd fun _ hK=> ?_
 unfold Oper.wp execOp
 simp only [ho,hx,hy,Instr.storeAt,Instr.sureAddr,run_storeVar_row w g t t xs.toArray ys hb hi (by simpa using hl) h1,Sem.run_bind,Sem.run_pure,Result.andThen_ok]
 exact hK _ _ h
theorem AQ.setRow {w:World} {g:Nat} {t:TypeId} {xs:List Value} (h:AQ w g t xs) (ys:Array Value):AQ (w.setRow g ys) g t ys.toList:=by
 have:=setRow_heap w g xs.toArray ys t (0,0) h
 unfold AQ
 rw [this]
theorem DK {w:World} {g B:Nat} (h:B≤g) (ys:Array Value):Below B w (w.setRow g ys):=below_setRow (Below.refl _ _) h ys
def Qe:Value:= .agg #[.slice none 0 0,.slice none 0 0,.slice none 0 0,.int .i64 0,.int .i8 0,.slice none 0 0,.int .i8 0,.int .i64 0]
def nH (l:List UInt8) (w:World) (e:Ending) (w':World):Prop:=Below w.heap.size w w'∧match Dr l with
 | .inl x=>e= .returned (.tuple #[Qe,.int .i64 x.1,.int .i64 x.2])
 | .inr s=> ∃ds:List Value,e= .returned (.tuple #[.agg ds.toArray,.int .i64 0,.int .i64 0])∧K8.R w' w.heap.size w'.heap.size ds s
theorem uT {w:World} {g:Nat} {t:TypeId} {a0 a1 a2 a3 a4 a5 a6 a7:Value} (h:AQ w g t [a0,a1,a2,a3,a4,a5,a6,a7]):w.cell? ⟨g,0,none⟩=some a0∧w.cell? ⟨g,1,none⟩=some a1∧w.cell? ⟨g,2,none⟩=some a2∧w.cell? ⟨g,3,none⟩=some a3∧
 w.cell? ⟨g,4,none⟩=some a4∧w.cell? ⟨g,5,none⟩=some a5∧w.cell? ⟨g,6,none⟩=some a6∧w.cell? ⟨g,7,none⟩=some a7:=⟨h.cell 0,h.cell 1,h.cell 2,h.cell 3,h.cell 4,h.cell 5,h.cell 6,h.cell 7⟩
theorem IW {w:World} {g:Nat} {tmps:Array Value} {a0 a1 a2 a3 a4 a5 a6 a7 e v:Value} (h:AQ w g 35 [a0,a1,a2,a3,a4,a5,a6,a7]) (h2:tmps.getD 2 undef= .pointer (some ⟨g,0,none⟩)) (h3:tmps.getD 3 undef=e) (h4:tmps.getD 4 undef=v):
 (results f53 tmps).run prog w= .ok (.tuple #[.agg #[a0,a1,a2,a3,a4,a5,a6,a7],e,v]) w:=by
 obtain⟨z0,z1,z2,z3,z4,z5,z6,z7⟩:=uT h
 simp only [Array.getD_eq_getD_getElem?] at h2 h3 h4
 simp [results,results53,go_sem,z0,z1,z2,z3,z4,z5,z6,z7,h2,h3,h4]
theorem Row.AFL {w:World} {B:Nat} {A:Option Addr} {l:List UInt8} (h:Row w B A (l.map bv)):Row w B A ((l.take 5).map bv):=by
 intro hn
 rw [List.length_map,List.length_take] at hn
 obtain⟨b,o,e,hlt,hc⟩:=h (by rw [List.length_map];omega)
 refine⟨b,o,e,hlt,fun j u hu=>hc j u ?_⟩
 rw [List.map_take,List.getElem?_take] at hu
 split at hu
 ·exact hu
 ·cases hu
theorem dB {w:World} {B c:Nat} {A:Option Addr} {l:List UInt8} (h:Row w B A (l.map bv)) (h5:5≤l.length):(convert 40 9 (.slice A 5 c)).run prog w= .ok (.string ⟨(l.take 5).toArray⟩) w:=
 NJ (P:=prog) 40 5 9 underlying40 underlying5 underlying9 w B A 5 c (l.take 5) (by rw [List.length_take];omega) h.AFL
theorem Wn (l:List UInt8):(!((⟨(l.take 5).toArray⟩:ByteArray).toList== [70,83,78,80,1]))= !decide (l.take 5=JZ):=by
 rw [ByteArray.toList_eq]
 show(!(l.take 5==JZ))=_
 congr 1
 rw [Bool.eq_iff_iff]
 simp
abbrev KF (g sb hb:Nat):Nat→Prop:=fun k=>(k≠g∧k≠sb)∧k<hb
def AFM (T:TypeId) (w:World) (g sb B:Nat) (A:Option Addr) (c:Nat) (l:List UInt8) (zs:List Value) (N hb:Nat) (RR:G8 (List Js)) (w0:World) (ce:Option Addr→Nat×Nat→List Value) (i:Value) (wr:World):Prop:=
 ∃(k:Nat) (Af:Option Addr) (cf:Nat) (fc:List Value) (st:(Int×Int)⊕Nat),k≤N∧i= .int .u64 k∧RS T w g sb B A c l zs st (ce Af (k,cf)) wr∧wr.ownsRow hb 91 4 (.slice Af k cf) k fc∧Keep (KF g sb hb) w0 wr∧FSt l N k hb RR wr Af cf fc st
theorem uU (A:Option Addr) (c B:Nat) (l:List UInt8) (w:World) (hr:Row w B A (l.map bv)) (hB:B≤w.heap.size) (hlc:l.length≤c) (hl:l.length≤140737488351232)
 (ZN: ∀(g:Nat) (w:World),CK 146 w g (.slice A l.length c) (posR (Rm l))→Row w B A (l.map bv)→B≤g→Calls prog 83 #[.pointer (some ⟨g,0,none⟩)] w (Gy 146 g (.slice A l.length c) w (posR (LG l)) (Wm (Rd.u8.sl false) w (LG l)))):
 Calls prog 53 #[.slice A l.length c] w (nH l w):=by
 have HR:=AA hr;have ZN:=AA ZN
 clear hr
 go_enter func53,ntmps53
 go_upto_region 1 with fail
 generalize hw1:w.alloc (.cells #[.slice none 0 0,.slice none 0 0,.slice none 0 0,.int .i64 0,.int .i8 0,.slice none 0 0,.int .i8 0,.int .i64 0] 35)=w1
 obtain⟨hb1,hx1⟩:=EK hw1
 have hz1:w1.heap.size=w.heap.size+1:=by rw [←hw1];simp
 have HB1:=AA hb1;have CS:=AA hx1;have HZ1:=AA hz1
 have HR1:=AA (HR.out.below' hb1 hB)
 clear hw1 hb1 hx1 hz1
 by_cases hlong:524288<l.length
 ·have hli:(524288:Int)<l.length:=by omega
  have HX:Hid (Dr l= .inl (13,0)):=AA (by unfold Dr;rw [if_pos hlong])
  go_wp2_with (refine F3 CS.out rfl _ _ rfl rfl _ rfl ?_ ?_ ?_ ?_;(try focus kernel_rfl);(try focus rfl);(try focus kernel_rfl))
  have Bq:=AA (CS.out.setRow #[.slice none 0 0,.slice none 0 0,.slice none 0 0,.int .i64 0,.int .i8 0,.slice none 0 0,.int .i8 0,.int .i64 0])
  generalize hw2:World.setRow _ _ _=w2 at*
  have hbz:Below w.heap.size w w2:=by rw [←hw2];exact HB1.out.trans (DK (Nat.le_refl _) _)
  refine⟨rfl,.tuple #[Qe,.int .i64 13,.int .i64 0],?_,hbz,by rw [HX.out]⟩
  exact IW Bq.out rfl rfl rfl
 have hli: ¬(524288:Int)<l.length:=by omega
 by_cases O5:l.take 5=JZ
 case neg=>
  have HX:Hid (Dr l= .inl (14,0)):=AA (by unfold Dr;rw [if_neg hlong,if_pos O5])
  by_cases h5:l.length<5
  ·have h5i:(l.length:Int)<5:=by omega
   go_wp2_with (refine F3 CS.out rfl _ _ rfl rfl _ rfl ?_ ?_ ?_ ?_;(try focus kernel_rfl);(try focus rfl);(try focus kernel_rfl))
   have Bq:=AA (CS.out.setRow #[.slice none 0 0,.slice none 0 0,.slice none 0 0,.int .i64 0,.int .i8 0,.slice none 0 0,.int .i8 0,.int .i64 0])
   generalize hw2:World.setRow _ _ _=w2 at*
   have hbz:Below w.heap.size w w2:=by rw [←hw2];exact HB1.out.trans (DK (Nat.le_refl _) _)
   refine⟨rfl,.tuple #[Qe,.int .i64 14,.int .i64 0],?_,hbz,by rw [HX.out]⟩
   exact IW Bq.out rfl rfl rfl
  ·have h5i: ¬(l.length:Int)<5:=by omega
   have hcv:=dB (c:=c) HR1.out (by omega)
   have uV:=Wn l
   rw [decide_eq_false O5,Bool.not_false] at uV
   generalize (⟨(l.take 5).toArray⟩:ByteArray)=S at*
   go_wp2_with (refine F3 CS.out rfl _ _ rfl rfl _ rfl ?_ ?_ ?_ ?_;(try focus kernel_rfl);(try focus rfl);(try focus kernel_rfl))
   have Bq:=AA (CS.out.setRow #[.slice none 0 0,.slice none 0 0,.slice none 0 0,.int .i64 0,.int .i8 0,.slice none 0 0,.int .i8 0,.int .i64 0])
   generalize hw2:World.setRow _ _ _=w2 at*
   have hbz:Below w.heap.size w w2:=by rw [←hw2];exact HB1.out.trans (DK (Nat.le_refl _) _)
   refine⟨rfl,.tuple #[Qe,.int .i64 14,.int .i64 0],?_,hbz,by rw [HX.out]⟩
   exact IW Bq.out rfl rfl rfl
 have h5:5≤l.length:=by
  have:=congrArg List.length O5
  rw [List.length_take] at this
  have:JZ.length=5:=rfl
  omega
 have h5i: ¬(l.length:Int)<5:=by omega
 have hcv:=dB (c:=c) HR1.out h5
 have uV:=Wn l
 rw [decide_eq_true O5,Bool.not_true] at uV
 generalize (⟨(l.take 5).toArray⟩:ByteArray)=S at*
 go_upto_region 6 with fail
 generalize hw2:w1.alloc _=w2
 obtain⟨hb2,hx2⟩:=EK hw2
 obtain⟨g,hg⟩: ∃g,g=w1.heap.size:=⟨_,rfl⟩
 rw [←hg] at hx2⊢
 have hgw:g=w.heap.size+1:=by rw [hg];exact HZ1.out
 have hwg:w.heap.size<g:=by omega
 have hBg:B≤g:=by omega
 have nI:Hid (CK 146 w2 g (.slice A l.length c) (.inr 5)):=AA hx2
 have HB2:Hid (Below w.heap.size w w2):=AA (HB1.out.trans (hb2.mono HB1.out.size))
 have Bq:=AA (CS.out.below hb2 CS.out.lt)
 have HR2:=AA (HR1.out.below' hb2 (Nat.le_trans hB HB1.out.size))
 have hNL:JZ=l.take 5:=O5.symm
 have AAS:=AA O5
 clear hw2 hb2 hx2 hg hgw hcv uV hNL O5 CS HB1 HR1 HZ1
 go_wp2_with fail
 refine(YR g B A c l 1 3 (by omega) (.inr 5) w2 nI.out HR2.out hl).mono ?_
 rintro en w3 ⟨hk3,hs3,v1,rfl,hv1⟩
 have yw:Hid (∀(a q:Nat),Yk l= .inr (a,q)→v1=a):=AA hv1
 have nI:Hid (CK 146 w3 g (.slice A l.length c) (posR (Yk l))):=AA hs3
 have GQ:=AA hk3
 have hz3:=hk3.size
 have HR3:=AA (Row.CB HR2.out hk3 (fun k hk=>by show k≠g;omega) (Nat.le_trans hB HB2.out.size))
 clear hk3 hs3 hv1
 go_wp2_with fail
 refine(YR g B A c l 0 6 (by omega) (posR (Yk l)) w3 nI.out HR3.out hl).mono ?_
 rintro en w4 ⟨hk4,hs4,v2,rfl,hv2⟩
 rw [show Ak (posR (Yk l)) (FH l 0 6)=XK l from Cc _ _] at hs4 hv2
 have kZ:=AA hv2;have nI:=AA hs4
 have LH:=AA (GQ.out.trans hk4)
 have hz4:=hk4.size
 clear hk4 hs4 hv2 HR3 GQ
 go_upto_region 7 with(refine Ed rfl _ _ _ rfl _ _ rfl rfl ?_ ?_ ?_ ?_;(try focus kernel_rfl);(try focus rfl);(try focus kernel_rfl))
 generalize Pn:w4.alloc _=w5
 obtain⟨hb5,hx5⟩:=EK Pn
 obtain⟨sb,hsb⟩: ∃sb,sb=w4.heap.size:=⟨_,rfl⟩
 rw [←hsb] at hx5⊢
 have hgs:g<sb:=by have:=nI.out.lt;omega
 have HS:Hid (RS 146 w g sb B A c l [.slice none 0 0,.slice none 0 0,.slice none 0 0,.int .i64 0,.int .i8 0,.slice none 0 0,.int .i8 0,.int .i64 0] (posR (XK l)) [.slice none 0 0,.slice none 0 0,.slice none 0 0,.int .i64 0,.int .i8 v1,.slice none 0 0,.int .i8 v2,.int .i64 0] w5):=AA ⟨nI.out.below hb5,hx5,(Bq.out.keep LH.out (by show w.heap.size≠g;omega)).below hb5 (by have:=Bq.out.lt;omega),(HB2.out.trans (LH.out.below HB2.out.size (fun k hk=>by show k≠g;omega))).trans (hb5.mono (by have:=HB2.out.size;omega)),(Row.CB HR2.out LH.out (fun k hk=>by show k≠g;omega) (Nat.le_trans hB HB2.out.size)).below' hb5 (by have:=HB2.out.size;omega)⟩
 clear Pn hb5 hx5 hsb nI Bq HB2 HR2 LH hz3 hz4
 go_wp2_with fail
 refine(Dn g B A c l 4611686018427387904 17 (posR (XK l)) w5 HS.out.rd HS.out.row hl (by decide)).mono ?_
 rintro en w5a ⟨hk,hs,rfl⟩
 have hle3:=Hq (l:=l) (most:=4611686018427387904) (great:=17) (st:=posR (XK l))
 rw [show Ak (posR (XK l)) (Ar l 4611686018427387904 17)=VT l from Cc _ _] at hs hle3⊢
 obtain⟨n3,Us⟩: ∃n:Nat,B_ 0 (VT l)=n:=⟨_,rfl⟩
 rw [Us] at hle3⊢
 have bH:=AA Us
 have Iy:=AA (HS.out.call hwg hgs hB hk hs)
 have q:=Iy.out.box.cell 7
 have z:=Iy.out.box.frozen 7
 clear hk hs Us HS
 go_upto_region 8 with fail
 generalize hw:World.setCell _ _ _=w6
 have HS:Hid (RS 146 w g sb B A c l [.slice none 0 0,.slice none 0 0,.slice none 0 0,.int .i64 0,.int .i8 0,.slice none 0 0,.int .i8 0,.int .i64 0] (posR (VT l)) [.slice none 0 0,.slice none 0 0,.slice none 0 0,.int .i64 0,.int .i8 v1,.slice none 0 0,.int .i8 v2,.int .i64 n3] w6):=AA (by rw [←hw];exact Iy.out.set hwg hgs hB 7 (.int .i64 n3))
 clear hw q z Iy
 go_wp2_with fail
 refine(Dn g B A c l 9223372036854775807 17 (posR (VT l)) w6 HS.out.rd HS.out.row hl (by decide)).mono ?_
 rintro en w6a ⟨hk,hs,rfl⟩
 have YD:=Hq (l:=l) (most:=9223372036854775807) (great:=17) (st:=posR (VT l))
 rw [show Ak (posR (VT l)) (Ar l 9223372036854775807 17)=Wv l from Cc _ _] at hs YD⊢
 obtain⟨n4,oI⟩: ∃n:Nat,B_ 0 (Wv l)=n:=⟨_,rfl⟩
 rw [oI] at YD⊢
 have ko:=AA oI
 have Qp:=AA (HS.out.call hwg hgs hB hk hs)
 have q:=Qp.out.box.cell 3
 have z:=Qp.out.box.frozen 3
 clear hk hs oI HS
 go_upto_region 9 with fail
 generalize hw:World.setCell _ _ _=w7
 have HS:Hid (RS 146 w g sb B A c l [.slice none 0 0,.slice none 0 0,.slice none 0 0,.int .i64 0,.int .i8 0,.slice none 0 0,.int .i8 0,.int .i64 0] (posR (Wv l)) [.slice none 0 0,.slice none 0 0,.slice none 0 0,.int .i64 n4,.int .i8 v1,.slice none 0 0,.int .i8 v2,.int .i64 n3] w7):=AA (by rw [←hw];exact Qp.out.set hwg hgs hB 3 (.int .i64 n4))
 clear hw q z Qp
 go_wp2_with fail
 refine(Mq g B A c l 8 (by omega) (posR (Wv l)) w7 HS.out.rd HS.out.row hBg hl).mono ?_
 rintro en w7a ⟨hk,hs,hv⟩
 rw [show Ak (posR (Wv l)) (DL l 8)=Ww l from Cc _ _] at hs hv
 obtain⟨A5,m5,c5,rfl,hls⟩:=hv.ls
 have O6:=AA hls
 have uK:sb<w7.heap.size:=HS.out.box.lt
 have Yp:=AA (HS.out.call hwg hgs hB hk hs)
 have HKK:=AA (Qd (sb:=sb) hk)
 have q:=Yp.out.box.cell 5
 have z:=Yp.out.box.frozen 5
 clear hk hs hv hls HS HKK
 go_upto_region 10 with fail
 generalize hw:World.setCell _ _ _=w8
 have HS:Hid (RS 146 w g sb B A c l [.slice none 0 0,.slice none 0 0,.slice none 0 0,.int .i64 0,.int .i8 0,.slice none 0 0,.int .i8 0,.int .i64 0] (posR (Ww l)) [.slice none 0 0,.slice none 0 0,.slice none 0 0,.int .i64 n4,.int .i8 v1,.slice A5 m5 c5,.int .i8 v2,.int .i64 n3] w8):=AA (by rw [←hw];exact Yp.out.set hwg hgs hB 5 (.slice A5 m5 c5))
 have P7:Hid (Keep (KS g sb) w7a w8):=AA (by rw [←hw];exact P8 5 _)
 have O6:=AA (O6.out.keep P7.out (fun k h1 h2=>by show k≠g∧k≠sb;omega))
 clear hw q z Yp P7
 go_wp2_with fail
 refine(Mq g B A c l 64 (by omega) (posR (Ww l)) w8 HS.out.rd HS.out.row hBg hl).mono ?_
 rintro en w8a ⟨hk,hs,hv⟩
 rw [show Ak (posR (Ww l)) (DL l 64)=Rm l from Cc _ _] at hs hv
 obtain⟨A6,m6,c6,rfl,hls⟩:=hv.ls
 have UC:=AA hls
 have hlo6:sb<w8.heap.size:=HS.out.box.lt
 have iB:=AA (HS.out.call hwg hgs hB hk hs)
 have HKK:=AA (Qd (sb:=sb) hk)
 have O6:=AA (O6.out.keep HKK.out (fun k h1 h2=>by show k≠g∧k≠sb;omega))
 have q:=iB.out.box.cell 1
 have z:=iB.out.box.frozen 1
 clear hk hs hv hls HS HKK
 go_upto_region 11 with fail
 generalize hw:World.setCell _ _ _=w9
 have HS:Hid (RS 146 w g sb B A c l [.slice none 0 0,.slice none 0 0,.slice none 0 0,.int .i64 0,.int .i8 0,.slice none 0 0,.int .i8 0,.int .i64 0] (posR (Rm l)) [.slice none 0 0,.slice A6 m6 c6,.slice none 0 0,.int .i64 n4,.int .i8 v1,.slice A5 m5 c5,.int .i8 v2,.int .i64 n3] w9):=AA (by rw [←hw];exact iB.out.set hwg hgs hB 1 (.slice A6 m6 c6))
 have P7:Hid (Keep (KS g sb) w8a w9):=AA (by rw [←hw];exact P8 1 _)
 have O6:=AA (O6.out.keep P7.out (fun k h1 h2=>by show k≠g∧k≠sb;omega))
 have UC:=AA (UC.out.keep P7.out (fun k h1 h2=>by show k≠g∧k≠sb;omega))
 clear hw q z iB P7
 go_wp2_with fail
 refine(ZN.out g w9 HS.out.rd HS.out.row hBg).mono ?_
 rintro en w9a ⟨hk,hs,hv⟩
 obtain⟨A7,m7,c7,rfl,hls⟩:=hv.ls
 have iD:=AA hls
 have hlo7:sb<w9.heap.size:=HS.out.box.lt
 have HS7:=AA (HS.out.call hwg hgs hB hk hs)
 have HKK:=AA (Qd (sb:=sb) hk)
 have O6:=AA (O6.out.keep HKK.out (fun k h1 h2=>by show k≠g∧k≠sb;omega))
 have UC:=AA (UC.out.keep HKK.out (fun k h1 h2=>by show k≠g∧k≠sb;omega))
 have q:=HS7.out.box.cell 2
 have z:=HS7.out.box.frozen 2
 clear hk hs hv hls HS HKK
 go_upto_region 12 with fail
 generalize hw:World.setCell _ _ _=fC
 have HS:Hid (RS 146 w g sb B A c l [.slice none 0 0,.slice none 0 0,.slice none 0 0,.int .i64 0,.int .i8 0,.slice none 0 0,.int .i8 0,.int .i64 0] (posR (LG l)) [.slice none 0 0,.slice A6 m6 c6,.slice A7 m7 c7,.int .i64 n4,.int .i8 v1,.slice A5 m5 c5,.int .i8 v2,.int .i64 n3] fC):=AA (by rw [←hw];exact HS7.out.set hwg hgs hB 2 (.slice A7 m7 c7))
 have P7:Hid (Keep (KS g sb) w9a fC):=AA (by rw [←hw];exact P8 2 _)
 have O6:=AA (O6.out.keep P7.out (fun k h1 h2=>by show k≠g∧k≠sb;omega))
 have UC:=AA (UC.out.keep P7.out (fun k h1 h2=>by show k≠g∧k≠sb;omega))
 have iD:=AA (iD.out.keep P7.out (fun k h1 h2=>by show k≠g∧k≠sb;omega))
 clear hw q z HS7 P7
 go_wp2_with fail
 refine(Dn g B A c l 64 20 (posR (LG l)) fC HS.out.rd HS.out.row hl (by decide)).mono ?_
 rintro en uW ⟨hk,hs,rfl⟩
 have HKK:=AA (Qd (sb:=sb) hk)
 have nJ:=Hq (l:=l) (most:=64) (great:=20) (st:=posR (LG l))
 have HRV:Hid (Dr l=match TN l with | .inl e=> .inl e | .inr (_,p)=>if p≠l.length then .inl (19,(p:Int)) else .inr (OO l)):=AA (by unfold Dr;rw [if_neg hlong,if_neg (fun h=>h AAS.out)];cases TN l<;>rfl)
 have HRI:Hid (∀acc p,TN l= .inr (acc,p)→ ∃v5 v6 v7 p5 p6 p7,uL l acc v1 v2 n3 n4 v5 v6 v7 p5 p6 p7):=AA (fun acc p h=>nC h yw.out kZ.out bH.out ko.out)
 have HRR:Hid (TN l=match Ak (posR (LG l)) (Ar l 64 20)with | .inl e=> .inl e | .inr (n,q)=>EX l n [] q):=AA (by
  unfold TN
  rw [←Cc]
  cases posR (LG l)<;>rfl)
 have Ym:=AA (HS.out.call hwg hgs hB hk hs)
 have hlb:=Ym.out.box.lt
 have O6:=AA (O6.out.keep HKK.out (fun k h1 h2=>by show k≠g∧k≠sb;omega))
 have UC:=AA (UC.out.keep HKK.out (fun k h1 h2=>by show k≠g∧k≠sb;omega))
 have iD:=AA (iD.out.keep HKK.out (fun k h1 h2=>by show k≠g∧k≠sb;omega))
 obtain⟨N,hN⟩: ∃N:Nat,B_ 0 (Ak (posR (LG l)) (Ar l 64 20))=N:=⟨_,rfl⟩
 rw [hN] at nJ⊢
 obtain⟨hb,hhb⟩: ∃hb,hb=uW.heap.size:=⟨_,rfl⟩
 have RD:Hid (FSt l N 0 hb (TN l) uW none 0 [] (posR (Ak (posR (LG l)) (Ar l 64 20)))):=AA (by
  have h:=HRR.out
  cases hx:Ak (posR (LG l)) (Ar l 64 20)with
  | inl e=>rw [hx] at h;exact h
  | inr x=>
   obtain⟨n,q⟩:=x
   rw [hx] at h hN
   have hN:n=N:=hN
   subst hN
   exact⟨[],Fu.nil _ _ _ _,h.symm⟩)
 generalize posR (Ak (posR (LG l)) (Ar l 64 20))=st0 at*
 generalize TN l=RR at*
 clear HRR hN hk hs HS HKK ZN
 have nK:sb<hb:=by omega
 have hzb:hb≤uW.heap.size:=Nat.le_of_eq hhb
 obtain⟨i0,z0,GU,GV,GX,D8,KY⟩:=info_parts' OV
 have Z5:=AA GU;have Z6:=AA GV;have Z7:=AA GX;have Ny:=AA D8;have M5:=AA KY
 clear GU GV GX D8 KY
 have HHB:=AA hhb
 clear hhb
 go_wp2_with fail
 go_loopw [49] (fun i wr=>AFM 146 w g sb B A c l [.slice none 0 0,.slice none 0 0,.slice none 0 0,.int .i64 0,.int .i8 0,.slice none 0 0,.int .i8 0,.int .i64 0] N hb RR uW (fun a b=> [.slice a b.1 b.2,.slice A6 m6 c6,.slice A7 m7 c7,.int .i64 n4,.int .i8 v1,.slice A5 m5 c5,.int .i8 v2,.int .i64 n3]) i wr) (fun i _=>N-(intOf i).toNat)
 case atStart=>exact⟨0,none,0,[],st0,Nat.zero_le _,rfl,Ym.out,⟨by simp,.inl ⟨rfl,rfl⟩⟩,Keep.refl _ _,RD.out⟩
 case round=>
  obtain⟨k,Af,cf,fc,st,hk,rfl,hs,hown,hkp,hst⟩:=hrel
  have M7:=AA hs;have HOW:=AA hown;have IK:=AA hkp;have HST:=AA hst
  have TQ:=hkp.size
  have hk0:(0:Int)≤k:=by omega
  have O7:=hown.lt
  have HOL:Hid (∀k',(Value.slice Af k cf).ownBlock=some k'→hb≤k'∧k'<wr.heap.size):=AA O7
  clear hs hown hst O7 hkp
  by_cases hlt:k<N
  ·have hki:(k:Int)<N:=by omega
   go_wp2_with fail
   refine(Dn g B A c l 127 17 st wr M7.out.rd M7.out.row hl (by decide)).mono ?_
   rintro en y1 ⟨hk1,hs1,rfl⟩
   rw [show Ak st (Ar l 127 17)=cZ l st from rfl] at hs1⊢
   have hle1:B_ 0 (cZ l st)≤127:=Hq
   have Zo:=AA (M7.out.call hwg hgs hB hk1 hs1)
   have EY:=AA hk1
   clear hk1 hs1
   go_wp2_with fail
   refine(Dn g B A c l 2047 17 (posR (cZ l st)) y1 Zo.out.rd Zo.out.row hl (by decide)).mono ?_
   rintro en y2 ⟨hk1,hs1,rfl⟩
   rw [show Ak (posR (cZ l st)) (Ar l 2047 17)=aA l st from rfl] at hs1⊢
   have hle2:B_ 0 (aA l st)≤2047:=Hq
   have HSB:=AA (Zo.out.call hwg hgs hB hk1 hs1)
   have Qs:=AA (EY.out.trans hk1)
   obtain⟨n1,hn1⟩: ∃n:Nat,B_ 0 (cZ l st)=n:=⟨_,rfl⟩
   obtain⟨n2,hn2⟩: ∃n:Nat,B_ 0 (aA l st)=n:=⟨_,rfl⟩
   rw [hn1] at hle1⊢
   rw [hn2] at hle2⊢
   have HN1:=AA hn1;have wW:=AA hn2
   clear hk1 hs1 hn1 hn2 Zo EY
   go_upto_region 15 with(refine Ed rfl _ _ _ rfl _ _ rfl rfl ?_ ?_ ?_ ?_;(try focus kernel_rfl);(try focus rfl);(try focus kernel_rfl))
   generalize hy3:y2.alloc _=y3
   obtain⟨hb3,hx3⟩:=EK hy3
   obtain⟨fb,mI⟩: ∃fb,fb=y2.heap.size:=⟨_,rfl⟩
   rw [←mI] at hx3⊢
   have hz2:=Qs.out.size
   have hsf:sb<fb:=by omega
   have HSC:=AA (HSB.out.under hwg hgs hB hb3 (by omega))
   have O1:=AA hx3
   have HKC:=AA (Qs.out.CY (hb3.mono (by omega)))
   have hfr:wr.heap.size≤fb:=by omega
   clear hy3 hb3 hx3 HSB Qs mI hz2
   go_wp2_with fail
   refine(Mq g B A c l 64 (by omega) (posR (aA l st)) y3 HSC.out.rd HSC.out.row hBg hl).mono ?_
   rintro en y4 ⟨hk4,hs4,hv4⟩
   rw [show Ak (posR (aA l st)) (DL l 64)=nA l st from rfl] at hs4 hv4
   obtain⟨Al,ml,cl,rfl,hll⟩:=hv4.ls
   have hlo3:=O1.out.lt
   have HSD:=AA (HSC.out.call hwg hgs hB hk4 hs4)
   have uX:=AA (O1.out.keep hk4 (by show fb≠g;omega))
   have HKD:=AA (HKC.out.trans hk4)
   have q:=uX.out.cell 2
   have z:=uX.out.frozen 2
   have Vr:=AA hll
   clear hk4 hs4 hv4 hll HSC O1 HKC
   go_upto_region 16 with fail
   generalize hy:World.setCell _ _ _=y5
   have hb5:Below fb y4 y5:=by rw [←hy];exact DZ
   have iE:Keep (KN fb) y4 y5:=by rw [←hy];exact Cy 2 _
   have O1:=AA (show AQ y5 fb 91 [.int .i64 n1,.int .i64 n2,.slice Al ml cl,.slice none 0 0] by rw [←hy];exact uX.out.set 2 _)
   have xD:=AA (HSD.out.under hwg hgs hB hb5 hsf)
   have HKE:=AA (HKD.out.CY (hb5.mono hfr))
   have Vr:=AA (Vr.out.keep iE (fun k h1 h2=>by show k≠fb;omega))
   clear hy hb5 iE q z uX HSD HKD
   go_wp2_with fail
   refine(Mq g B A c l 256 (by omega) (posR (nA l st)) y5 xD.out.rd xD.out.row hBg hl).mono ?_
   rintro en y6 ⟨hk4,hs4,hv4⟩
   rw [show Ak (posR (nA l st)) (DL l 256)=uJ l st from rfl] at hs4 hv4
   obtain⟨At,mt,ct,rfl,hlt2⟩:=hv4.ls
   have uK:=O1.out.lt
   have HSD:=AA (xD.out.call hwg hgs hB hk4 hs4)
   have uX:=AA (O1.out.keep hk4 (by show fb≠g;omega))
   have HKD:=AA (HKE.out.trans hk4)
   have q:=uX.out.cell 3
   have z:=uX.out.frozen 3
   have t_:=AA hlt2
   have Vr:=AA (Vr.out.keep hk4 (fun k h1 h2=>by show k≠g;omega))
   clear hk4 hs4 hv4 hlt2 xD O1 HKE
   go_upto_region 17 with fail
   generalize hy:World.setCell _ _ _=y7
   have hb5:Below fb y6 y7:=by rw [←hy];exact DZ
   have iE:Keep (KN fb) y6 y7:=by rw [←hy];exact Cy 3 _
   have O1:=AA (show AQ y7 fb 91 [.int .i64 n1,.int .i64 n2,.slice Al ml cl,.slice At mt ct] by rw [←hy];exact uX.out.set 3 _)
   have xD:=AA (HSD.out.under hwg hgs hB hb5 hsf)
   have HKE:=AA (HKD.out.CY (hb5.mono hfr))
   have Vr:=AA (Vr.out.keep iE (fun k h1 h2=>by show k≠fb;omega))
   have t_:=AA (t_.out.keep iE (fun k h1 h2=>by show k≠fb;omega))
   have Xp:=AA (Ce HOW.out HKE.out (fun k h=>by have:=HOL.out k h;show k≠g;omega))
   have q:=xD.out.box.cell 0
   have z:=xD.out.box.frozen 0
   have q0:=O1.out.cell 0
   have q1:=O1.out.cell 1
   have q2:=O1.out.cell 2
   have q3:=O1.out.cell 3
   have hz7:=HKE.out.size
   have GL:=AA (JY y7 [.int .i64 n1,.int .i64 n2,.slice Al ml cl,.slice At mt ct] 91)
   clear hy hb5 iE uX HSD HKD
   go_upto_region 18 with(at_builtin;refine BL _ rfl _ _ 30 rfl hb 91 i0 z0 4 64 underlying30 Z5.out Z6.out Z7.out Ny.out M5.out (by omega) (.slice Af k cf) k fc rfl (Xp.out.alloc _) (y7.heap.size+1) _ 1 1 [.int .i64 n1,.int .i64 n2,.slice Al ml cl,.slice At mt ct] rfl rfl GL.out (by intro u hu;simp at hu;rcases hu with rfl | rfl | rfl | rfl<;>rfl) (by unfold maxLen;omega) (by omega) (by simp;omega) ?_;intro A9 c9 y9 h2 h3 h4;have H2:=AA h2;have H3:=AA h3;have H4:=AA h4;have aC:Below hb y7 y9:=((Below.refl hb y7).alloc (by omega) _).trans (BG (Xp.out.alloc _) h3 (by simp;omega));have oz:=AA (xD.out.under hwg hgs hB aC nK);have qq:=oz.out.box.cell 0;have zz:=oz.out.box.frozen 0;have Zy:=AA aC;clear h2 h3 h4 aC)
   have ZY:=AA (HST.out.next (sb:=sb) (u:= .slice A9 (k+1) c9) hlt (by omega) nK (by omega) HKE.out HN1.out wW.out hle1 hle2 Vr.out (by omega) t_.out (by omega) HOL.out H2.out H3.out H4.out)
   go_wp2_with fail
   exact⟨⟨k+1,A9,c9,_,posR (uJ l st),by omega,by go_num,oz.out.set hwg hgs hB 0 (.slice A9 (k+1) c9),Ce H2.out (Cy 0 _) (fun k' h=>by have:=(H2.out.lt k' h).1;show k'≠sb;omega),
    ((IK.out.trans (HKE.out.mono (fun k' h=>h.1.1))).trans (Keep.of_below Zy.out (fun k' h _=>h.2))).trans ((Cy 0 _).mono (fun k' h=>h.1.2)),ZY.out⟩,by simp [intOf];omega⟩
  ·obtain rfl:N=k:=by omega
   have hki: ¬(N:Int)<N:=by omega
   have hk0':N≤64:=nJ
   cases st with
   | inl e=>
    have HX:Hid (Dr l= .inl e):=AA (by rw [HRV.out,show RR= .inl e from HST.out])
    obtain⟨hne,b,hb⟩:=M7.out.rd
    have q2:=hb.cell 2
    have q3:=hb.cell 3
    have m1:(e.1==0)=false:=beq_eq_false_iff_ne.2 hne
    have m2:(e.1 !=0)=true:=bne_iff_ne.2 hne
    clear hb hne
    have TF:g≠w.heap.size:=by omega
    go_upto_region 22 with fail
    refine nD q2 q3 TF M7.out.res _ _ _ _ _ _ _ _ _ _ _ _ _ _ _ _ _ _ _ _ _ _ _ _ _ _ _ _ _ _ _ _ _ _ _ _ _ _ _ _ _ _ _ _ _ _ _ _ _ _ _ _ _ _ _ _ _ _ _ _ _ _ _ _ _ _ _ _ _ _ _ _ _ _ _ _ _ _ _ _ _ _ _ _ _ _ _ _ _ _ _ _ _ _ _ _ _ _ _ _ _ _ _ _ _ _ _ (AA ?_)
    intro t96 t97 t98 t99 AAN AAO AAP AAQ AAR uY hbw hbk
    go_wp2_with fail
    refine⟨rfl,.tuple #[Qe,.int .i64 e.1,.int .i64 e.2],?_,M7.out.Ep.trans hbw,by rw [HX.out]⟩
    exact IW hbk rfl rfl rfl
   | inr p=>
    obtain⟨acc,hG,hgo⟩:=HST.out
    have hRR:RR= .inr (acc,p):=by rw [←hgo,Nat.sub_self];rfl
    have HG:=AA hG
    have hb:AQ wr g 146 [.slice A l.length c,.int .i64 p,.int .i64 0,.int .i64 0]:=M7.out.rd
    have q1:=hb.cell 1
    have q2:=hb.cell 2
    clear hG hgo hb
    by_cases hpl:p=l.length
    ·have HX:Hid (Dr l= .inr (OO l)):=AA (by rw [HRV.out,hRR];show(if p≠l.length then _ else _)=_;rw [if_neg (fun h=>h hpl)])
     obtain⟨v5,v6,v7,p5,p6,p7,hin⟩:=HRI.out acc p hRR
     have EU:=AA hin
     have hpi:((p:Int) !=(l.length:Int))=false:=by rw [bne_eq_false_iff_eq];omega
     clear hin hRR hpl
     go_wp2_with (first | refine xB M7.out.box rfl _ rfl rfl ?_ | (refine F3 M7.out.res rfl _ _ rfl rfl _ rfl ?_ ?_ ?_ ?_;(try focus kernel_rfl);(try focus rfl);(try focus kernel_rfl)))
     have Bq:=AA (M7.out.res.setRow #[.slice Af N cf,.slice A6 m6 c6,.slice A7 m7 c7,.int .i64 n4,.int .i8 v1,.slice A5 m5 c5,.int .i8 v2,.int .i64 n3])
     generalize hw2:World.setRow _ _ _=uY at*
     have hbz:Below w.heap.size w uY:=by rw [←hw2];exact M7.out.Ep.trans (DK (Nat.le_refl _) _)
     have hkz:Keep (KN w.heap.size) wr uY:=by rw [←hw2];exact aB _ rfl
     refine⟨rfl,.tuple #[.agg #[.slice Af N cf,.slice A6 m6 c6,.slice A7 m7 c7,.int .i64 n4,.int .i8 v1,.slice A5 m5 c5,.int .i8 v2,.int .i64 n3],.int .i64 0,.int .i64 0],?_,hbz,?_⟩
     ·exact IW Bq.out rfl rfl rfl
     ·rw [HX.out]
      refine⟨[.slice Af N cf,.slice A6 m6 c6,.slice A7 m7 c7,.int .i64 n4,.int .i8 v1,.slice A5 m5 c5,.int .i8 v2,.int .i64 n3],rfl,?_⟩
      have f5:=(O6.out.keep IK.out (fun k h1 h2=>⟨by show k≠g∧k≠sb;omega,by have:=O6.out.1;have:=HHB.out;omega⟩)).keep hkz (fun k h1 h2=>by show k≠w.heap.size;omega)
      have f6:=(UC.out.keep IK.out (fun k h1 h2=>⟨by show k≠g∧k≠sb;omega,by have:=UC.out.1;have:=HHB.out;omega⟩)).keep hkz (fun k h1 h2=>by show k≠w.heap.size;omega)
      have f7:=(iD.out.keep IK.out (fun k h1 h2=>⟨by show k≠g∧k≠sb;omega,by have:=iD.out.1;have:=HHB.out;omega⟩)).keep hkz (fun k h1 h2=>by show k≠w.heap.size;omega)
      have fG:=(HG.out.kn hkz (by omega)).reads
      exact U5 EU.out hle3 YD (by omega) (by omega) (by omega) (by omega) fG HG.out.len f5 f6 f7
    ·have HX:Hid (Dr l= .inl (19,(p:Int))):=AA (by rw [HRV.out,hRR];show(if p≠l.length then _ else _)=_;rw [if_pos hpl])
     have hpi:((p:Int) !=(l.length:Int))=true:=by rw [bne_iff_ne];omega
     clear hRR hpl
     go_wp2_with fail
     refine(MN g _ 19 p (.inr p) wr M7.out.rd (by decide)).mono ?_
     rintro en y1 ⟨hk1,hs1,rfl⟩
     have Zo:=AA (M7.out.call hwg hgs hB hk1 hs1)
     obtain⟨hne,b,hb⟩:=hs1
     have q2:=hb.cell 2
     have q3:=hb.cell 3
     have TF:g≠w.heap.size:=by omega
     clear hk1 hb hne q1
     go_upto_region 22 with fail
     refine nD q2 q3 TF Zo.out.res _ _ _ _ _ _ _ _ _ _ _ _ _ _ _ _ _ _ _ _ _ _ _ _ _ _ _ _ _ _ _ _ _ _ _ _ _ _ _ _ _ _ _ _ _ _ _ _ _ _ _ _ _ _ _ _ _ _ _ _ _ _ _ _ _ _ _ _ _ _ _ _ _ _ _ _ _ _ _ _ _ _ _ _ _ _ _ _ _ _ _ _ _ _ _ _ _ _ _ _ _ _ _ _ _ _ _ (AA ?_)
     intro t96 t97 t98 t99 AAN AAO AAP AAQ AAR uY hbw hbk
     go_wp2_with fail
     refine⟨rfl,.tuple #[Qe,.int .i64 19,.int .i64 p],?_,Zo.out.Ep.trans hbw,by rw [HX.out]⟩
     exact IW hbk rfl rfl rfl
end Go.Proofs.YtlagonfamllgjaaGreatDoor
