/- Part 48 of the proof: SrdH SrdF -/
import Derived.Test.YtlagonfamllgjaaGreatDoorK47
namespace Go.Proofs.YtlagonfamllgjaaGreatDoor
set_option linter.unusedVariables false
set_option linter.unusedSimpArgs false
set_option maxRecDepth 100000
set_option maxHeartbeats 4000000
open Go.RowKit Tryz
def Q6 (n:Nat):Code→Option Code
 | .region i a b=>if i=n then some (.region i a b) else none
 | .seq a b=>match Q6 n a with
  | some c=>some c
  | none=>Q6 n b
 | .block _ c=>Q6 n c
 | .loop c=>Q6 n c
 | .scope c=>Q6 n c
 | .cond _ a b=>match Q6 n a with
  | some c=>some c
  | none=>Q6 n b
 | _=>none
def ZB (B:Nat) (w0:World) (rb:Nat) (t:TypeId) (W:World):Prop:=Below B w0 W∧AQ W rb t [.slice none 0 0,.slice none 0 0,.slice none 0 0,.int .i64 0,.int .i8 0,.slice none 0 0,.int .i8 0,.int .i64 0]
theorem zb0 {w0 w:World} {rb:Nat} {t:TypeId} (h:ZB rb w0 rb t w):ZB rb w0 rb t (w.setCell ⟨rb,0,none⟩ (.slice none 0 0)):=⟨h.1.trans Et,h.2.set 0 (.slice none 0 0)⟩
theorem zb1 {w0 w:World} {rb:Nat} {t:TypeId} (h:ZB rb w0 rb t w):ZB rb w0 rb t (w.setCell ⟨rb,1,none⟩ (.slice none 0 0)):=⟨h.1.trans Et,h.2.set 1 (.slice none 0 0)⟩
theorem zb2 {w0 w:World} {rb:Nat} {t:TypeId} (h:ZB rb w0 rb t w):ZB rb w0 rb t (w.setCell ⟨rb,2,none⟩ (.slice none 0 0)):=⟨h.1.trans Et,h.2.set 2 (.slice none 0 0)⟩
theorem zb3 {w0 w:World} {rb:Nat} {t:TypeId} (h:ZB rb w0 rb t w):ZB rb w0 rb t (w.setCell ⟨rb,3,none⟩ (.int .i64 0)):=⟨h.1.trans Et,h.2.set 3 (.int .i64 0)⟩
theorem zb4 {w0 w:World} {rb:Nat} {t:TypeId} (h:ZB rb w0 rb t w):ZB rb w0 rb t (w.setCell ⟨rb,4,none⟩ (.int .i8 0)):=⟨h.1.trans Et,h.2.set 4 (.int .i8 0)⟩
theorem zb5 {w0 w:World} {rb:Nat} {t:TypeId} (h:ZB rb w0 rb t w):ZB rb w0 rb t (w.setCell ⟨rb,5,none⟩ (.slice none 0 0)):=⟨h.1.trans Et,h.2.set 5 (.slice none 0 0)⟩
theorem zb6 {w0 w:World} {rb:Nat} {t:TypeId} (h:ZB rb w0 rb t w):ZB rb w0 rb t (w.setCell ⟨rb,6,none⟩ (.int .i8 0)):=⟨h.1.trans Et,h.2.set 6 (.int .i8 0)⟩
theorem zb7 {w0 w:World} {rb:Nat} {t:TypeId} (h:ZB rb w0 rb t w):ZB rb w0 rb t (w.setCell ⟨rb,7,none⟩ (.int .i64 0)):=⟨h.1.trans Et,h.2.set 7 (.int .i64 0)⟩
theorem zbd {w0 w:World} {rb:Nat} {t:TypeId} (h:ZB rb w0 rb t w):ZB rb w0 rb t w.drew:=⟨h.1.drew,h.2⟩
theorem zI {w:World} {rb:Nat} {t:TypeId} (h:AQ w rb t [.slice none 0 0,.slice none 0 0,.slice none 0 0,.int .i64 0,.int .i8 0,.slice none 0 0,.int .i8 0,.int .i64 0]):ZB rb w rb t (World.drew (World.setCell (World.setCell (World.setCell (World.setCell (World.setCell (World.setCell (World.setCell (World.setCell w ⟨rb,0,none⟩ (.slice none 0 0)) ⟨rb,1,none⟩ (.slice none 0 0)) ⟨rb,2,none⟩ (.slice none 0 0)) ⟨rb,3,none⟩ (.int .i64 0)) ⟨rb,4,none⟩ (.int .i8 0)) ⟨rb,5,none⟩ (.slice none 0 0)) ⟨rb,6,none⟩ (.int .i8 0)) ⟨rb,7,none⟩ (.int .i64 0))):=zbd (zb7 (zb6 (zb5 (zb4 (zb3 (zb2 (zb1 (zb0 ⟨Below.refl _ _,h⟩))))))))
noncomputable def ABO:Code:=((f53.body.bind (Q6 22)).getD .skip)
set_option maxRecDepth 1000000 in
set_option maxHeartbeats 20000000 in
theorem pU {rb g:Nat} {e b:Int} {w:World} (q2:w.cell? ⟨g,2,none⟩=some (.int .i64 e)) (q3:w.cell? ⟨g,3,none⟩=some (.int .i64 b)) (hne:g≠rb) (hr:AQ w rb 35 [.slice none 0 0,.slice none 0 0,.slice none 0 0,.int .i64 0,.int .i8 0,.slice none 0 0,.int .i8 0,.int .i64 0]) (s0 s1 s3 s4 s6 s7 s8 s9 s10 s11 s12 s13 s14 s15 s16 s17 s18 s19 s20 s21 s22 s23 s24 s25 s26 s27 s28 s29 s30 s31 s32 s33 s34 s35 s36 s37 s38 s39 s40 s41 s42 s43 s44 s45 s46 s47 s48 s49 s50 s51 s52 s53 s54 s55 s56 s57 s58 s59 s60 s61 s62 s63 s64 s65 s66 s67 s68 s69 s70 s71 s72 s73 s74 s75 s76 s77 s78 s79 s80 s81 s82 s83 s84 s85 s86 s87 s88 s89 s90 s91 s92 s93 s94 s95 s96 s97 s98 s99 s100 s101 s102 s103 s104 AFD:Value) (K K1:Act→World→Prop) (P:Ending→World→Prop)
 (HK:Hid (∀(t96 t97 t98 t99 ABP ABQ ABR ABS ABT:Value) (w':World),Below rb w w'→AQ w' rb 35 [.slice none 0 0,.slice none 0 0,.slice none 0 0,.int .i64 0,.int .i8 0,.slice none 0 0,.int .i8 0,.int .i64 0]→K ⟨(List.toArray (s0::s1::(.pointer (some ⟨rb,0,none⟩))::(.int .i64 e)::(.int .i64 b)::(.pointer (some ⟨g,0,none⟩))::s6::s7::s8::s9::s10::s11::s12::s13::s14::s15::s16::s17::s18::s19::s20::s21::s22::s23::s24::s25::s26::s27::s28::s29::s30::s31::s32::s33::s34::s35::s36::s37::s38::s39::s40::s41::s42::s43::s44::s45::s46::s47::s48::s49::s50::s51::s52::s53::s54::s55::s56::s57::s58::s59::s60::s61::s62::s63::s64::s65::s66::s67::s68::s69::s70::s71::s72::s73::s74::s75::s76::s77::s78::s79::s80::s81::s82::s83::s84::s85::s86::s87::s88::s89::s90::s91::s92::s93::s94::s95::t96::t97::t98::t99::ABP::ABQ::ABR::ABS::ABT::AFD:: [])),[]⟩ w')):
 Code.wp prog ABO (Exit.then K (Exit.then K1 (bodyPost prog f53 P))) ⟨(List.toArray (s0::s1::(.pointer (some ⟨rb,0,none⟩))::s3::s4::(.pointer (some ⟨g,0,none⟩))::s6::s7::s8::s9::s10::s11::s12::s13::s14::s15::s16::s17::s18::s19::s20::s21::s22::s23::s24::s25::s26::s27::s28::s29::s30::s31::s32::s33::s34::s35::s36::s37::s38::s39::s40::s41::s42::s43::s44::s45::s46::s47::s48::s49::s50::s51::s52::s53::s54::s55::s56::s57::s58::s59::s60::s61::s62::s63::s64::s65::s66::s67::s68::s69::s70::s71::s72::s73::s74::s75::s76::s77::s78::s79::s80::s81::s82::s83::s84::s85::s86::s87::s88::s89::s90::s91::s92::s93::s94::s95::s96::s97::s98::s99::s100::s101::s102::s103::s104::AFD:: [])),[]⟩ w:=by
 conv=>arg 2;whnf
 have HR:=AA hr
 have z0:=hr.q 0 rfl
 have z1:=hr.q 1 rfl
 have z2:=hr.q 2 rfl
 have z3:=hr.q 3 rfl
 have z4:=hr.q 4 rfl
 have z5:=hr.q 5 rfl
 have z6:=hr.q 6 rfl
 have z7:=hr.q 7 rfl
 have f0:=hr.frozen 0;have f1:=hr.frozen 1;have f2:=hr.frozen 2;have f3:=hr.frozen 3
 have f4:=hr.frozen 4;have f5:=hr.frozen 5;have f6:=hr.frozen 6;have f7:=hr.frozen 7
 clear hr
 go_region_law (fail)
 all_goals
  go_wp2_with fail
  apply HK.out
  ·exact(zI HR.out).1
  ·exact(zI HR.out).2
theorem Jr {P:Program} {ops:Array Oper} {rest:List Oper} {op:Oper} {a:Act} {w:World} {Q:Exit→Act→World→Prop} {g:Nat} {t:TypeId} {xs:List Value} (hb:AQ w g t xs) (hgd:op.guard=none) (x y:Operand) (ho:op.op= .store t x y)
 (hx:a.eval x= .pointer (some ⟨g,0,none⟩)) (ys:Array Value) (hy:a.eval y= .agg ys) (hi:(P.info? t).map (·.size)=some ys.size) (hl:xs.length=ys.size) (h1:ys.all (·.oneCell')=true)
 (h:wpList P ops Q rest (a.put op.dst (.tuple #[])) (w.setRow g ys)):wpList P ops Q (op::rest) a w:=by
 refine wpList_plain hgd fun _ hK=> ?_
 unfold Oper.wp execOp
 simp only [ho,hx,hy,Instr.storeAt,Instr.sureAddr,run_storeVar_row w g t t xs.toArray ys hb hi (by simpa using hl) h1,Sem.run_bind,Sem.run_pure,Result.andThen_ok]
 exact hK _ _ h
theorem AQ.setRow {w:World} {g:Nat} {t:TypeId} {xs:List Value} (h:AQ w g t xs) (ys:Array Value):AQ (w.setRow g ys) g t ys.toList:=by
 have:=setRow_heap w g xs.toArray ys t (0,0) h
 unfold AQ
 rw [this]
theorem ER {w:World} {g B:Nat} (h:B≤g) (ys:Array Value):Below B w (w.setRow g ys):=below_setRow (Below.refl _ _) h ys
def VT:Value:= .agg #[.slice none 0 0,.slice none 0 0,.slice none 0 0,.int .i64 0,.int .i8 0,.slice none 0 0,.int .i8 0,.int .i64 0]
def ABU (l:List UInt8) (w:World) (e:Ending) (w':World):Prop:=Below w.heap.size w w'∧match I6 l with
 | .inl x=>e= .returned (.tuple #[VT,.int .i64 x.1,.int .i64 x.2])
 | .inr s=> ∃ds:List Value,e= .returned (.tuple #[.agg ds.toArray,.int .i64 0,.int .i64 0])∧K7.R w' w.heap.size w'.heap.size ds s
theorem wU {w:World} {g:Nat} {t:TypeId} {a0 a1 a2 a3 a4 a5 a6 a7:Value} (h:AQ w g t [a0,a1,a2,a3,a4,a5,a6,a7]):w.cell? ⟨g,0,none⟩=some a0∧w.cell? ⟨g,1,none⟩=some a1∧w.cell? ⟨g,2,none⟩=some a2∧w.cell? ⟨g,3,none⟩=some a3∧
 w.cell? ⟨g,4,none⟩=some a4∧w.cell? ⟨g,5,none⟩=some a5∧w.cell? ⟨g,6,none⟩=some a6∧w.cell? ⟨g,7,none⟩=some a7:=⟨h.cell 0,h.cell 1,h.cell 2,h.cell 3,h.cell 4,h.cell 5,h.cell 6,h.cell 7⟩
theorem QX {w:World} {g:Nat} {tmps:Array Value} {a0 a1 a2 a3 a4 a5 a6 a7 e v:Value} (h:AQ w g 35 [a0,a1,a2,a3,a4,a5,a6,a7]) (h2:tmps.getD 2 undef= .pointer (some ⟨g,0,none⟩)) (h3:tmps.getD 3 undef=e) (h4:tmps.getD 4 undef=v):
 (results f53 tmps).run prog w= .ok (.tuple #[.agg #[a0,a1,a2,a3,a4,a5,a6,a7],e,v]) w:=by
 obtain⟨z0,z1,z2,z3,z4,z5,z6,z7⟩:=wU h
 simp only [Array.getD_eq_getD_getElem?] at h2 h3 h4
 simp [results,results53,go_sem,z0,z1,z2,z3,z4,z5,z6,z7,h2,h3,h4]
theorem Row.AFE {w:World} {B:Nat} {A:Option Addr} {l:List UInt8} (h:Row w B A (l.map bv)):Row w B A ((l.take 5).map bv):=by
 intro hn
 rw [List.length_map,List.length_take] at hn
 obtain⟨b,o,e,hlt,hc⟩:=h (by rw [List.length_map];omega)
 refine⟨b,o,e,hlt,fun j u hu=>hc j u ?_⟩
 rw [List.map_take,List.getElem?_take] at hu
 split at hu
 ·exact hu
 ·cases hu
theorem zJ {w:World} {B c:Nat} {A:Option Addr} {l:List UInt8} (h:Row w B A (l.map bv)) (h5:5≤l.length):(convert 40 9 (.slice A 5 c)).run prog w= .ok (.string ⟨(l.take 5).toArray⟩) w:=
 Nu (P:=prog) 40 5 9 underlying40 underlying5 underlying9 w B A 5 c (l.take 5) (by rw [List.length_take];omega) h.AFE
theorem pV (l:List UInt8):(!((⟨(l.take 5).toArray⟩:ByteArray).toList== [70,83,78,80,1]))= !decide (l.take 5=G5):=by
 rw [ByteArray.toList_eq]
 show(!(l.take 5==G5))=_
 congr 1
 rw [Bool.eq_iff_iff]
 simp
abbrev KF (g sb hb:Nat):Nat→Prop:=fun k=>(k≠g∧k≠sb)∧k<hb
def FRel (T:TypeId) (w:World) (g sb B:Nat) (A:Option Addr) (c:Nat) (l:List UInt8) (zs:List Value) (N hb:Nat) (RR:Ju (List Jy)) (w0:World) (ce:Option Addr→Nat×Nat→List Value) (i:Value) (wr:World):Prop:=
 ∃(k:Nat) (Af:Option Addr) (cf:Nat) (fc:List Value) (st:(Int×Int)⊕Nat),k≤N∧i= .int .u64 k∧RS T w g sb B A c l zs st (ce Af (k,cf)) wr∧wr.ownsRow hb 91 4 (.slice Af k cf) k fc∧Keep (KF g sb hb) w0 wr∧FSt l N k hb RR wr Af cf fc st
theorem wV (A:Option Addr) (c B:Nat) (l:List UInt8) (w:World) (hr:Row w B A (l.map bv)) (hB:B≤w.heap.size) (hlc:l.length≤c) (hl:l.length≤140737488351232)
 (Zv: ∀(g:Nat) (w:World),Hq 146 w g (.slice A l.length c) (posR (bR l))→Row w B A (l.map bv)→B≤g→Calls prog 83 #[.pointer (some ⟨g,0,none⟩)] w (Oa 146 g (.slice A l.length c) w (posR (T9 l)) (iy (Rd.u8.sl false) w (T9 l)))):
 Calls prog 53 #[.slice A l.length c] w (ABU l w):=by
 have HR:=AA hr;have Zv:=AA Zv
 clear hr
 go_enter func53,ntmps53
 go_upto_region 1 with fail
 generalize hw1:w.alloc (.cells #[.slice none 0 0,.slice none 0 0,.slice none 0 0,.int .i64 0,.int .i8 0,.slice none 0 0,.int .i8 0,.int .i64 0] 35)=w1
 obtain⟨hb1,hx1⟩:=ES hw1
 have hz1:w1.heap.size=w.heap.size+1:=by rw [←hw1];simp
 have HB1:=AA hb1;have CX:=AA hx1;have HZ1:=AA hz1
 have HR1:=AA (HR.out.below' hb1 hB)
 clear hw1 hb1 hx1 hz1
 by_cases hlong:524288<l.length
 ·have hli:(524288:Int)<l.length:=by omega
  have HX:Hid (I6 l= .inl (13,0)):=AA (by unfold I6;rw [if_pos hlong])
  go_wp2_with (refine Jr CX.out rfl _ _ rfl rfl _ rfl ?_ ?_ ?_ ?_;(try focus kernel_rfl);(try focus rfl);(try focus kernel_rfl))
  have CV:=AA (CX.out.setRow #[.slice none 0 0,.slice none 0 0,.slice none 0 0,.int .i64 0,.int .i8 0,.slice none 0 0,.int .i8 0,.int .i64 0])
  generalize hw2:World.setRow _ _ _=w2 at*
  have hbz:Below w.heap.size w w2:=by rw [←hw2];exact HB1.out.trans (ER (Nat.le_refl _) _)
  refine⟨rfl,.tuple #[VT,.int .i64 13,.int .i64 0],?_,hbz,by rw [HX.out]⟩
  exact QX CV.out rfl rfl rfl
 have hli: ¬(524288:Int)<l.length:=by omega
 by_cases aj:l.take 5=G5
 case neg=>
  have HX:Hid (I6 l= .inl (14,0)):=AA (by unfold I6;rw [if_neg hlong,if_pos aj])
  by_cases h5:l.length<5
  ·have h5i:(l.length:Int)<5:=by omega
   go_wp2_with (refine Jr CX.out rfl _ _ rfl rfl _ rfl ?_ ?_ ?_ ?_;(try focus kernel_rfl);(try focus rfl);(try focus kernel_rfl))
   have CV:=AA (CX.out.setRow #[.slice none 0 0,.slice none 0 0,.slice none 0 0,.int .i64 0,.int .i8 0,.slice none 0 0,.int .i8 0,.int .i64 0])
   generalize hw2:World.setRow _ _ _=w2 at*
   have hbz:Below w.heap.size w w2:=by rw [←hw2];exact HB1.out.trans (ER (Nat.le_refl _) _)
   refine⟨rfl,.tuple #[VT,.int .i64 14,.int .i64 0],?_,hbz,by rw [HX.out]⟩
   exact QX CV.out rfl rfl rfl
  ·have h5i: ¬(l.length:Int)<5:=by omega
   have hcv:=zJ (c:=c) HR1.out (by omega)
   have hmg:=pV l
   rw [decide_eq_false aj,Bool.not_false] at hmg
   generalize (⟨(l.take 5).toArray⟩:ByteArray)=S at*
   go_wp2_with (refine Jr CX.out rfl _ _ rfl rfl _ rfl ?_ ?_ ?_ ?_;(try focus kernel_rfl);(try focus rfl);(try focus kernel_rfl))
   have CV:=AA (CX.out.setRow #[.slice none 0 0,.slice none 0 0,.slice none 0 0,.int .i64 0,.int .i8 0,.slice none 0 0,.int .i8 0,.int .i64 0])
   generalize hw2:World.setRow _ _ _=w2 at*
   have hbz:Below w.heap.size w w2:=by rw [←hw2];exact HB1.out.trans (ER (Nat.le_refl _) _)
   refine⟨rfl,.tuple #[VT,.int .i64 14,.int .i64 0],?_,hbz,by rw [HX.out]⟩
   exact QX CV.out rfl rfl rfl
 have h5:5≤l.length:=by
  have:=congrArg List.length aj
  rw [List.length_take] at this
  have:G5.length=5:=rfl
  omega
 have h5i: ¬(l.length:Int)<5:=by omega
 have hcv:=zJ (c:=c) HR1.out h5
 have hmg:=pV l
 rw [decide_eq_true aj,Bool.not_true] at hmg
 generalize (⟨(l.take 5).toArray⟩:ByteArray)=S at*
 go_upto_region 6 with fail
 generalize hw2:w1.alloc _=w2
 obtain⟨hb2,hx2⟩:=ES hw2
 obtain⟨g,hg⟩: ∃g,g=w1.heap.size:=⟨_,rfl⟩
 rw [←hg] at hx2⊢
 have hgw:g=w.heap.size+1:=by rw [hg];exact HZ1.out
 have hwg:w.heap.size<g:=by omega
 have hBg:B≤g:=by omega
 have HRD:Hid (Hq 146 w2 g (.slice A l.length c) (.inr 5)):=AA hx2
 have HB2:Hid (Below w.heap.size w w2):=AA (HB1.out.trans (hb2.mono HB1.out.size))
 have CV:=AA (CX.out.below hb2 CX.out.lt)
 have HR2:=AA (HR1.out.below' hb2 (Nat.le_trans hB HB1.out.size))
 have hNL:G5=l.take 5:=aj.symm
 have HMAG:=AA aj
 clear hw2 hb2 hx2 hg hgw hcv hmg hNL aj CX HB1 HR1 HZ1
 go_wp2_with fail
 refine(Yq g B A c l 1 3 (by omega) (.inr 5) w2 HRD.out HR2.out hl).mono ?_
 rintro en w3 ⟨hk3,hs3,v1,rfl,hv1⟩
 have HV1:Hid (∀(a q:Nat),qh l= .inr (a,q)→v1=a):=AA hv1
 have HRD:Hid (Hq 146 w3 g (.slice A l.length c) (posR (qh l))):=AA hs3
 have Lp:=AA hk3
 have hz3:=hk3.size
 have HR3:=AA (Row.C8 HR2.out hk3 (fun k hk=>by show k≠g;omega) (Nat.le_trans hB HB2.out.size))
 clear hk3 hs3 hv1
 go_wp2_with fail
 refine(Yq g B A c l 0 6 (by omega) (posR (qh l)) w3 HRD.out HR3.out hl).mono ?_
 rintro en w4 ⟨hk4,hs4,v2,rfl,hv2⟩
 rw [show DN (posR (qh l)) (L6 l 0 6)=kM l from FZ _ _] at hs4 hv2
 have uL:=AA hv2;have HRD:=AA hs4
 have UR:=AA (Lp.out.trans hk4)
 have hz4:=hk4.size
 clear hk4 hs4 hv2 HR3 Lp
 go_upto_region 7 with(refine Fh rfl _ _ _ rfl _ _ rfl rfl ?_ ?_ ?_ ?_;(try focus kernel_rfl);(try focus rfl);(try focus kernel_rfl))
 generalize Rf:w4.alloc _=w5
 obtain⟨hb5,hx5⟩:=ES Rf
 obtain⟨sb,hsb⟩: ∃sb,sb=w4.heap.size:=⟨_,rfl⟩
 rw [←hsb] at hx5⊢
 have hgs:g<sb:=by have:=HRD.out.lt;omega
 have HS:Hid (RS 146 w g sb B A c l [.slice none 0 0,.slice none 0 0,.slice none 0 0,.int .i64 0,.int .i8 0,.slice none 0 0,.int .i8 0,.int .i64 0] (posR (kM l)) [.slice none 0 0,.slice none 0 0,.slice none 0 0,.int .i64 0,.int .i8 v1,.slice none 0 0,.int .i8 v2,.int .i64 0] w5):=AA ⟨HRD.out.below hb5,hx5,(CV.out.keep UR.out (by show w.heap.size≠g;omega)).below hb5 (by have:=CV.out.lt;omega),(HB2.out.trans (UR.out.below HB2.out.size (fun k hk=>by show k≠g;omega))).trans (hb5.mono (by have:=HB2.out.size;omega)),(Row.C8 HR2.out UR.out (fun k hk=>by show k≠g;omega) (Nat.le_trans hB HB2.out.size)).below' hb5 (by have:=HB2.out.size;omega)⟩
 clear Rf hb5 hx5 hsb HRD CV HB2 HR2 UR hz3 hz4
 go_wp2_with fail
 refine(Fj g B A c l 4611686018427387904 17 (posR (kM l)) w5 HS.out.rd HS.out.row hl (by decide)).mono ?_
 rintro en w5a ⟨hk,hs,rfl⟩
 have hle3:=Pn (l:=l) (most:=4611686018427387904) (great:=17) (st:=posR (kM l))
 rw [show DN (posR (kM l)) (DX l 4611686018427387904 17)=jT l from FZ _ _] at hs hle3⊢
 obtain⟨n3,ZF⟩: ∃n:Nat,EI 0 (jT l)=n:=⟨_,rfl⟩
 rw [ZF] at hle3⊢
 have jc:=AA ZF
 have XH:=AA (HS.out.call hwg hgs hB hk hs)
 have q:=XH.out.box.cell 7
 have z:=XH.out.box.frozen 7
 clear hk hs ZF HS
 go_upto_region 8 with fail
 generalize hw:World.setCell _ _ _=w6
 have HS:Hid (RS 146 w g sb B A c l [.slice none 0 0,.slice none 0 0,.slice none 0 0,.int .i64 0,.int .i8 0,.slice none 0 0,.int .i8 0,.int .i64 0] (posR (jT l)) [.slice none 0 0,.slice none 0 0,.slice none 0 0,.int .i64 0,.int .i8 v1,.slice none 0 0,.int .i8 v2,.int .i64 n3] w6):=AA (by rw [←hw];exact XH.out.set hwg hgs hB 7 (.int .i64 n3))
 clear hw q z XH
 go_wp2_with fail
 refine(Fj g B A c l 9223372036854775807 17 (posR (jT l)) w6 HS.out.rd HS.out.row hl (by decide)).mono ?_
 rintro en w6a ⟨hk,hs,rfl⟩
 have vC:=Pn (l:=l) (most:=9223372036854775807) (great:=17) (st:=posR (jT l))
 rw [show DN (posR (jT l)) (DX l 9223372036854775807 17)=kN l from FZ _ _] at hs vC⊢
 obtain⟨n4,hn4⟩: ∃n:Nat,EI 0 (kN l)=n:=⟨_,rfl⟩
 rw [hn4] at vC⊢
 have uN:=AA hn4
 have QO:=AA (HS.out.call hwg hgs hB hk hs)
 have q:=QO.out.box.cell 3
 have z:=QO.out.box.frozen 3
 clear hk hs hn4 HS
 go_upto_region 9 with fail
 generalize hw:World.setCell _ _ _=w7
 have HS:Hid (RS 146 w g sb B A c l [.slice none 0 0,.slice none 0 0,.slice none 0 0,.int .i64 0,.int .i8 0,.slice none 0 0,.int .i8 0,.int .i64 0] (posR (kN l)) [.slice none 0 0,.slice none 0 0,.slice none 0 0,.int .i64 n4,.int .i8 v1,.slice none 0 0,.int .i8 v2,.int .i64 n3] w7):=AA (by rw [←hw];exact QO.out.set hwg hgs hB 3 (.int .i64 n4))
 clear hw q z QO
 go_wp2_with fail
 refine(NZ g B A c l 8 (by omega) (posR (kN l)) w7 HS.out.rd HS.out.row hBg hl).mono ?_
 rintro en w7a ⟨hk,hs,hv⟩
 rw [show DN (posR (kN l)) (II l 8)=kP l from FZ _ _] at hs hv
 obtain⟨A5,m5,c5,rfl,hls⟩:=hv.ls
 have dY:=AA hls
 have ABL:sb<w7.heap.size:=HS.out.box.lt
 have HS5:=AA (HS.out.call hwg hgs hB hk hs)
 have HKK:=AA (dW (sb:=sb) hk)
 have q:=HS5.out.box.cell 5
 have z:=HS5.out.box.frozen 5
 clear hk hs hv hls HS HKK
 go_upto_region 10 with fail
 generalize hw:World.setCell _ _ _=w8
 have HS:Hid (RS 146 w g sb B A c l [.slice none 0 0,.slice none 0 0,.slice none 0 0,.int .i64 0,.int .i8 0,.slice none 0 0,.int .i8 0,.int .i64 0] (posR (kP l)) [.slice none 0 0,.slice none 0 0,.slice none 0 0,.int .i64 n4,.int .i8 v1,.slice A5 m5 c5,.int .i8 v2,.int .i64 n3] w8):=AA (by rw [←hw];exact HS5.out.set hwg hgs hB 5 (.slice A5 m5 c5))
 have iq:Hid (Keep (KS g sb) w7a w8):=AA (by rw [←hw];exact aZ 5 _)
 have dY:=AA (dY.out.keep iq.out (fun k h1 h2=>by show k≠g∧k≠sb;omega))
 clear hw q z HS5 iq
 go_wp2_with fail
 refine(NZ g B A c l 64 (by omega) (posR (kP l)) w8 HS.out.rd HS.out.row hBg hl).mono ?_
 rintro en w8a ⟨hk,hs,hv⟩
 rw [show DN (posR (kP l)) (II l 64)=bR l from FZ _ _] at hs hv
 obtain⟨A6,m6,c6,rfl,hls⟩:=hv.ls
 have rM:=AA hls
 have hlo6:sb<w8.heap.size:=HS.out.box.lt
 have pQ:=AA (HS.out.call hwg hgs hB hk hs)
 have HKK:=AA (dW (sb:=sb) hk)
 have dY:=AA (dY.out.keep HKK.out (fun k h1 h2=>by show k≠g∧k≠sb;omega))
 have q:=pQ.out.box.cell 1
 have z:=pQ.out.box.frozen 1
 clear hk hs hv hls HS HKK
 go_upto_region 11 with fail
 generalize hw:World.setCell _ _ _=w9
 have HS:Hid (RS 146 w g sb B A c l [.slice none 0 0,.slice none 0 0,.slice none 0 0,.int .i64 0,.int .i8 0,.slice none 0 0,.int .i8 0,.int .i64 0] (posR (bR l)) [.slice none 0 0,.slice A6 m6 c6,.slice none 0 0,.int .i64 n4,.int .i8 v1,.slice A5 m5 c5,.int .i8 v2,.int .i64 n3] w9):=AA (by rw [←hw];exact pQ.out.set hwg hgs hB 1 (.slice A6 m6 c6))
 have iq:Hid (Keep (KS g sb) w8a w9):=AA (by rw [←hw];exact aZ 1 _)
 have dY:=AA (dY.out.keep iq.out (fun k h1 h2=>by show k≠g∧k≠sb;omega))
 have rM:=AA (rM.out.keep iq.out (fun k h1 h2=>by show k≠g∧k≠sb;omega))
 clear hw q z pQ iq
 go_wp2_with fail
 refine(Zv.out g w9 HS.out.rd HS.out.row hBg).mono ?_
 rintro en w9a ⟨hk,hs,hv⟩
 obtain⟨A7,m7,c7,rfl,hls⟩:=hv.ls
 have HL7:=AA hls
 have hlo7:sb<w9.heap.size:=HS.out.box.lt
 have HS7:=AA (HS.out.call hwg hgs hB hk hs)
 have HKK:=AA (dW (sb:=sb) hk)
 have dY:=AA (dY.out.keep HKK.out (fun k h1 h2=>by show k≠g∧k≠sb;omega))
 have rM:=AA (rM.out.keep HKK.out (fun k h1 h2=>by show k≠g∧k≠sb;omega))
 have q:=HS7.out.box.cell 2
 have z:=HS7.out.box.frozen 2
 clear hk hs hv hls HS HKK
 go_upto_region 12 with fail
 generalize hw:World.setCell _ _ _=Zr
 have HS:Hid (RS 146 w g sb B A c l [.slice none 0 0,.slice none 0 0,.slice none 0 0,.int .i64 0,.int .i8 0,.slice none 0 0,.int .i8 0,.int .i64 0] (posR (T9 l)) [.slice none 0 0,.slice A6 m6 c6,.slice A7 m7 c7,.int .i64 n4,.int .i8 v1,.slice A5 m5 c5,.int .i8 v2,.int .i64 n3] Zr):=AA (by rw [←hw];exact HS7.out.set hwg hgs hB 2 (.slice A7 m7 c7))
 have iq:Hid (Keep (KS g sb) w9a Zr):=AA (by rw [←hw];exact aZ 2 _)
 have dY:=AA (dY.out.keep iq.out (fun k h1 h2=>by show k≠g∧k≠sb;omega))
 have rM:=AA (rM.out.keep iq.out (fun k h1 h2=>by show k≠g∧k≠sb;omega))
 have HL7:=AA (HL7.out.keep iq.out (fun k h1 h2=>by show k≠g∧k≠sb;omega))
 clear hw q z HS7 iq
 go_wp2_with fail
 refine(Fj g B A c l 64 20 (posR (T9 l)) Zr HS.out.rd HS.out.row hl (by decide)).mono ?_
 rintro en zK ⟨hk,hs,rfl⟩
 have HKK:=AA (dW (sb:=sb) hk)
 have AFF:=Pn (l:=l) (most:=64) (great:=20) (st:=posR (T9 l))
 have HRV:Hid (I6 l=match jU l with | .inl e=> .inl e | .inr (_,p)=>if p≠l.length then .inl (19,(p:Int)) else .inr (R8 l)):=AA (by unfold I6;rw [if_neg hlong,if_neg (fun h=>h HMAG.out)];cases jU l<;>rfl)
 have HRI:Hid (∀acc p,jU l= .inr (acc,p)→ ∃v5 v6 v7 p5 p6 p7,ABM l acc v1 v2 n3 n4 v5 v6 v7 p5 p6 p7):=AA (fun acc p h=>ABN h HV1.out uL.out jc.out uN.out)
 have HRR:Hid (jU l=match DN (posR (T9 l)) (DX l 64 20)with | .inl e=> .inl e | .inr (n,q)=>Jg l n [] q):=AA (by
  unfold jU
  rw [←FZ]
  cases posR (T9 l)<;>rfl)
 have h_:=AA (HS.out.call hwg hgs hB hk hs)
 have hlb:=h_.out.box.lt
 have dY:=AA (dY.out.keep HKK.out (fun k h1 h2=>by show k≠g∧k≠sb;omega))
 have rM:=AA (rM.out.keep HKK.out (fun k h1 h2=>by show k≠g∧k≠sb;omega))
 have HL7:=AA (HL7.out.keep HKK.out (fun k h1 h2=>by show k≠g∧k≠sb;omega))
 obtain⟨N,hN⟩: ∃N:Nat,EI 0 (DN (posR (T9 l)) (DX l 64 20))=N:=⟨_,rfl⟩
 rw [hN] at AFF⊢
 obtain⟨hb,UE⟩: ∃hb,hb=zK.heap.size:=⟨_,rfl⟩
 have Pv:Hid (FSt l N 0 hb (jU l) zK none 0 [] (posR (DN (posR (T9 l)) (DX l 64 20)))):=AA (by
  have h:=HRR.out
  cases hx:DN (posR (T9 l)) (DX l 64 20)with
  | inl e=>rw [hx] at h;exact h
  | inr x=>
   obtain⟨n,q⟩:=x
   rw [hx] at h hN
   have hN:n=N:=hN
   subst hN
   exact⟨[],GX.nil _ _ _ _,h.symm⟩)
 generalize posR (DN (posR (T9 l)) (DX l 64 20))=st0 at*
 generalize jU l=RR at*
 clear HRR hN hk hs HS HKK Zv
 have AFG:sb<hb:=by omega
 have hzb:hb≤zK.heap.size:=Nat.le_of_eq UE
 obtain⟨i0,z0,Ms,Mt,Mv,Il,Yt⟩:=info_parts' O8
 have Hi0:=AA Ms;have Hz0:=AA Mt;have Hs0:=AA Mv;have aW:=AA Il;have Nz:=AA Yt
 clear Ms Mt Mv Il Yt
 have HHB:=AA UE
 clear UE
 go_wp2_with fail
 go_loopw [49] (fun i wr=>FRel 146 w g sb B A c l [.slice none 0 0,.slice none 0 0,.slice none 0 0,.int .i64 0,.int .i8 0,.slice none 0 0,.int .i8 0,.int .i64 0] N hb RR zK (fun a b=> [.slice a b.1 b.2,.slice A6 m6 c6,.slice A7 m7 c7,.int .i64 n4,.int .i8 v1,.slice A5 m5 c5,.int .i8 v2,.int .i64 n3]) i wr) (fun i _=>N-(intOf i).toNat)
 case atStart=>exact⟨0,none,0,[],st0,Nat.zero_le _,rfl,h_.out,⟨by simp,.inl ⟨rfl,rfl⟩⟩,Keep.refl _ _,Pv.out⟩
 case round=>
  obtain⟨k,Af,cf,fc,st,hk,rfl,hs,hown,hkp,hst⟩:=hrel
  have VA:=AA hs;have HOW:=AA hown;have RN:=AA hkp;have HST:=AA hst
  have UZ:=hkp.size
  have hk0:(0:Int)≤k:=by omega
  have dZ:=hown.lt
  have HOL:Hid (∀k',(Value.slice Af k cf).ownBlock=some k'→hb≤k'∧k'<wr.heap.size):=AA dZ
  clear hs hown hst dZ hkp
  by_cases hlt:k<N
  ·have hki:(k:Int)<N:=by omega
   go_wp2_with fail
   refine(Fj g B A c l 127 17 st wr VA.out.rd VA.out.row hl (by decide)).mono ?_
   rintro en y1 ⟨hk1,hs1,rfl⟩
   rw [show DN st (DX l 127 17)=wT l st from rfl] at hs1⊢
   have hle1:EI 0 (wT l st)≤127:=Pn
   have ji:=AA (VA.out.call hwg hgs hB hk1 hs1)
   have Em:=AA hk1
   clear hk1 hs1
   go_wp2_with fail
   refine(Fj g B A c l 2047 17 (posR (wT l st)) y1 ji.out.rd ji.out.row hl (by decide)).mono ?_
   rintro en y2 ⟨hk1,hs1,rfl⟩
   rw [show DN (posR (wT l st)) (DX l 2047 17)=rJ l st from rfl] at hs1⊢
   have hle2:EI 0 (rJ l st)≤2047:=Pn
   have HSB:=AA (ji.out.call hwg hgs hB hk1 hs1)
   have RL:=AA (Em.out.trans hk1)
   obtain⟨n1,hn1⟩: ∃n:Nat,EI 0 (wT l st)=n:=⟨_,rfl⟩
   obtain⟨n2,hn2⟩: ∃n:Nat,EI 0 (rJ l st)=n:=⟨_,rfl⟩
   rw [hn1] at hle1⊢
   rw [hn2] at hle2⊢
   have HN1:=AA hn1;have HN2:=AA hn2
   clear hk1 hs1 hn1 hn2 ji Em
   go_upto_region 15 with(refine Fh rfl _ _ _ rfl _ _ rfl rfl ?_ ?_ ?_ ?_;(try focus kernel_rfl);(try focus rfl);(try focus kernel_rfl))
   generalize hy3:y2.alloc _=y3
   obtain⟨hb3,hx3⟩:=ES hy3
   obtain⟨fb,zA⟩: ∃fb,fb=y2.heap.size:=⟨_,rfl⟩
   rw [←zA] at hx3⊢
   have hz2:=RL.out.size
   have hsf:sb<fb:=by omega
   have HSC:=AA (HSB.out.under hwg hgs hB hb3 (by omega))
   have Jv:=AA hx3
   have HKC:=AA (RL.out.Jq (hb3.mono (by omega)))
   have hfr:wr.heap.size≤fb:=by omega
   clear hy3 hb3 hx3 HSB RL zA hz2
   go_wp2_with fail
   refine(NZ g B A c l 64 (by omega) (posR (rJ l st)) y3 HSC.out.rd HSC.out.row hBg hl).mono ?_
   rintro en y4 ⟨hk4,hs4,hv4⟩
   rw [show DN (posR (rJ l st)) (II l 64)=zH l st from rfl] at hs4 hv4
   obtain⟨Al,ml,cl,rfl,hll⟩:=hv4.ls
   have hlo3:=Jv.out.lt
   have HSD:=AA (HSC.out.call hwg hgs hB hk4 hs4)
   have wW:=AA (Jv.out.keep hk4 (by show fb≠g;omega))
   have HKD:=AA (HKC.out.trans hk4)
   have q:=wW.out.cell 2
   have z:=wW.out.frozen 2
   have RF:=AA hll
   clear hk4 hs4 hv4 hll HSC Jv HKC
   go_upto_region 16 with fail
   generalize hy:World.setCell _ _ _=y5
   have hb5:Below fb y4 y5:=by rw [←hy];exact Et
   have jC:Keep (KN fb) y4 y5:=by rw [←hy];exact Iy 2 _
   have Jv:=AA (show AQ y5 fb 91 [.int .i64 n1,.int .i64 n2,.slice Al ml cl,.slice none 0 0] by rw [←hy];exact wW.out.set 2 _)
   have zL:=AA (HSD.out.under hwg hgs hB hb5 hsf)
   have HKE:=AA (HKD.out.Jq (hb5.mono hfr))
   have RF:=AA (RF.out.keep jC (fun k h1 h2=>by show k≠fb;omega))
   clear hy hb5 jC q z wW HSD HKD
   go_wp2_with fail
   refine(NZ g B A c l 256 (by omega) (posR (zH l st)) y5 zL.out.rd zL.out.row hBg hl).mono ?_
   rintro en y6 ⟨hk4,hs4,hv4⟩
   rw [show DN (posR (zH l st)) (II l 256)=fx4 l st from rfl] at hs4 hv4
   obtain⟨At,mt,ct,rfl,hlt2⟩:=hv4.ls
   have ABL:=Jv.out.lt
   have HSD:=AA (zL.out.call hwg hgs hB hk4 hs4)
   have wW:=AA (Jv.out.keep hk4 (by show fb≠g;omega))
   have HKD:=AA (HKE.out.trans hk4)
   have q:=wW.out.cell 3
   have z:=wW.out.frozen 3
   have wI:=AA hlt2
   have RF:=AA (RF.out.keep hk4 (fun k h1 h2=>by show k≠g;omega))
   clear hk4 hs4 hv4 hlt2 zL Jv HKE
   go_upto_region 17 with fail
   generalize hy:World.setCell _ _ _=y7
   have hb5:Below fb y6 y7:=by rw [←hy];exact Et
   have jC:Keep (KN fb) y6 y7:=by rw [←hy];exact Iy 3 _
   have Jv:=AA (show AQ y7 fb 91 [.int .i64 n1,.int .i64 n2,.slice Al ml cl,.slice At mt ct] by rw [←hy];exact wW.out.set 3 _)
   have zL:=AA (HSD.out.under hwg hgs hB hb5 hsf)
   have HKE:=AA (HKD.out.Jq (hb5.mono hfr))
   have RF:=AA (RF.out.keep jC (fun k h1 h2=>by show k≠fb;omega))
   have wI:=AA (wI.out.keep jC (fun k h1 h2=>by show k≠fb;omega))
   have cZ:=AA (DZ HOW.out HKE.out (fun k h=>by have:=HOL.out k h;show k≠g;omega))
   have q:=zL.out.box.cell 0
   have z:=zL.out.box.frozen 0
   have q0:=Jv.out.cell 0
   have q1:=Jv.out.cell 1
   have q2:=Jv.out.cell 2
   have q3:=Jv.out.cell 3
   have hz7:=HKE.out.size
   have Ir:=AA (Gz y7 [.int .i64 n1,.int .i64 n2,.slice Al ml cl,.slice At mt ct] 91)
   clear hy hb5 jC wW HSD HKD
   go_upto_region 18 with(at_builtin;refine BP _ rfl _ _ 30 rfl hb 91 i0 z0 4 64 underlying30 Hi0.out Hz0.out Hs0.out aW.out Nz.out (by omega) (.slice Af k cf) k fc rfl (cZ.out.alloc _) (y7.heap.size+1) _ 1 1 [.int .i64 n1,.int .i64 n2,.slice Al ml cl,.slice At mt ct] rfl rfl Ir.out (by intro u hu;simp at hu;rcases hu with rfl | rfl | rfl | rfl<;>rfl) (by unfold maxLen;omega) (by omega) (by simp;omega) ?_;intro A9 c9 y9 h2 h3 h4;have H2:=AA h2;have H3:=AA h3;have H4:=AA h4;have jv:Below hb y7 y9:=((Below.refl hb y7).alloc (by omega) _).trans (BK (cZ.out.alloc _) h3 (by simp;omega));have HS9:=AA (zL.out.under hwg hgs hB jv AFG);have qq:=HS9.out.box.cell 0;have zz:=HS9.out.box.frozen 0;have om:=AA jv;clear h2 h3 h4 jv)
   have gu:=AA (HST.out.next (sb:=sb) (u:= .slice A9 (k+1) c9) hlt (by omega) AFG (by omega) HKE.out HN1.out HN2.out hle1 hle2 RF.out (by omega) wI.out (by omega) HOL.out H2.out H3.out H4.out)
   go_wp2_with fail
   exact⟨⟨k+1,A9,c9,_,posR (fx4 l st),by omega,by go_num,HS9.out.set hwg hgs hB 0 (.slice A9 (k+1) c9),DZ H2.out (Iy 0 _) (fun k' h=>by have:=(H2.out.lt k' h).1;show k'≠sb;omega),
    ((RN.out.trans (HKE.out.mono (fun k' h=>h.1.1))).trans (Keep.of_below om.out (fun k' h _=>h.2))).trans ((Iy 0 _).mono (fun k' h=>h.1.2)),gu.out⟩,by simp [intOf];omega⟩
  ·obtain rfl:N=k:=by omega
   have hki: ¬(N:Int)<N:=by omega
   have hk0':N≤64:=AFF
   cases st with
   | inl e=>
    have HX:Hid (I6 l= .inl e):=AA (by rw [HRV.out,show RR= .inl e from HST.out])
    obtain⟨hne,b,hb⟩:=VA.out.rd
    have q2:=hb.cell 2
    have q3:=hb.cell 3
    have m1:(e.1==0)=false:=beq_eq_false_iff_ne.2 hne
    have m2:(e.1 !=0)=true:=bne_iff_ne.2 hne
    clear hb hne
    have pW:g≠w.heap.size:=by omega
    go_upto_region 22 with fail
    refine pU q2 q3 pW VA.out.res _ _ _ _ _ _ _ _ _ _ _ _ _ _ _ _ _ _ _ _ _ _ _ _ _ _ _ _ _ _ _ _ _ _ _ _ _ _ _ _ _ _ _ _ _ _ _ _ _ _ _ _ _ _ _ _ _ _ _ _ _ _ _ _ _ _ _ _ _ _ _ _ _ _ _ _ _ _ _ _ _ _ _ _ _ _ _ _ _ _ _ _ _ _ _ _ _ _ _ _ _ _ _ _ _ _ _ (AA ?_)
    intro t96 t97 t98 t99 ABP ABQ ABR ABS ABT w12 hbw hbk
    go_wp2_with fail
    refine⟨rfl,.tuple #[VT,.int .i64 e.1,.int .i64 e.2],?_,VA.out.Fb.trans hbw,by rw [HX.out]⟩
    exact QX hbk rfl rfl rfl
   | inr p=>
    obtain⟨acc,hG,hgo⟩:=HST.out
    have hRR:RR= .inr (acc,p):=by rw [←hgo,Nat.sub_self];rfl
    have HG:=AA hG
    have hb:AQ wr g 146 [.slice A l.length c,.int .i64 p,.int .i64 0,.int .i64 0]:=VA.out.rd
    have q1:=hb.cell 1
    have q2:=hb.cell 2
    clear hG hgo hb
    by_cases hpl:p=l.length
    ·have HX:Hid (I6 l= .inr (R8 l)):=AA (by rw [HRV.out,hRR];show(if p≠l.length then _ else _)=_;rw [if_neg (fun h=>h hpl)])
     obtain⟨v5,v6,v7,p5,p6,p7,hin⟩:=HRI.out acc p hRR
     have Es:=AA hin
     have hpi:((p:Int) !=(l.length:Int))=false:=by rw [bne_eq_false_iff_eq];omega
     clear hin hRR hpl
     go_wp2_with (first | refine jo VA.out.box rfl _ rfl rfl ?_ | (refine Jr VA.out.res rfl _ _ rfl rfl _ rfl ?_ ?_ ?_ ?_;(try focus kernel_rfl);(try focus rfl);(try focus kernel_rfl)))
     have CV:=AA (VA.out.res.setRow #[.slice Af N cf,.slice A6 m6 c6,.slice A7 m7 c7,.int .i64 n4,.int .i8 v1,.slice A5 m5 c5,.int .i8 v2,.int .i64 n3])
     generalize hw2:World.setRow _ _ _=w12 at*
     have hbz:Below w.heap.size w w12:=by rw [←hw2];exact VA.out.Fb.trans (ER (Nat.le_refl _) _)
     have hkz:Keep (KN w.heap.size) wr w12:=by rw [←hw2];exact pR _ rfl
     refine⟨rfl,.tuple #[.agg #[.slice Af N cf,.slice A6 m6 c6,.slice A7 m7 c7,.int .i64 n4,.int .i8 v1,.slice A5 m5 c5,.int .i8 v2,.int .i64 n3],.int .i64 0,.int .i64 0],?_,hbz,?_⟩
     ·exact QX CV.out rfl rfl rfl
     ·rw [HX.out]
      refine⟨[.slice Af N cf,.slice A6 m6 c6,.slice A7 m7 c7,.int .i64 n4,.int .i8 v1,.slice A5 m5 c5,.int .i8 v2,.int .i64 n3],rfl,?_⟩
      have f5:=(dY.out.keep RN.out (fun k h1 h2=>⟨by show k≠g∧k≠sb;omega,by have:=dY.out.1;have:=HHB.out;omega⟩)).keep hkz (fun k h1 h2=>by show k≠w.heap.size;omega)
      have f6:=(rM.out.keep RN.out (fun k h1 h2=>⟨by show k≠g∧k≠sb;omega,by have:=rM.out.1;have:=HHB.out;omega⟩)).keep hkz (fun k h1 h2=>by show k≠w.heap.size;omega)
      have f7:=(HL7.out.keep RN.out (fun k h1 h2=>⟨by show k≠g∧k≠sb;omega,by have:=HL7.out.1;have:=HHB.out;omega⟩)).keep hkz (fun k h1 h2=>by show k≠w.heap.size;omega)
      have fG:=(HG.out.kn hkz (by omega)).reads
      exact jB Es.out hle3 vC (by omega) (by omega) (by omega) (by omega) fG HG.out.len f5 f6 f7
    ·have HX:Hid (I6 l= .inl (19,(p:Int))):=AA (by rw [HRV.out,hRR];show(if p≠l.length then _ else _)=_;rw [if_pos hpl])
     have hpi:((p:Int) !=(l.length:Int))=true:=by rw [bne_iff_ne];omega
     clear hRR hpl
     go_wp2_with fail
     refine(VP g _ 19 p (.inr p) wr VA.out.rd (by decide)).mono ?_
     rintro en y1 ⟨hk1,hs1,rfl⟩
     have ji:=AA (VA.out.call hwg hgs hB hk1 hs1)
     obtain⟨hne,b,hb⟩:=hs1
     have q2:=hb.cell 2
     have q3:=hb.cell 3
     have pW:g≠w.heap.size:=by omega
     clear hk1 hb hne q1
     go_upto_region 22 with fail
     refine pU q2 q3 pW ji.out.res _ _ _ _ _ _ _ _ _ _ _ _ _ _ _ _ _ _ _ _ _ _ _ _ _ _ _ _ _ _ _ _ _ _ _ _ _ _ _ _ _ _ _ _ _ _ _ _ _ _ _ _ _ _ _ _ _ _ _ _ _ _ _ _ _ _ _ _ _ _ _ _ _ _ _ _ _ _ _ _ _ _ _ _ _ _ _ _ _ _ _ _ _ _ _ _ _ _ _ _ _ _ _ _ _ _ _ (AA ?_)
     intro t96 t97 t98 t99 ABP ABQ ABR ABS ABT w12 hbw hbk
     go_wp2_with fail
     refine⟨rfl,.tuple #[VT,.int .i64 19,.int .i64 p],?_,ji.out.Fb.trans hbw,by rw [HX.out]⟩
     exact QX hbk rfl rfl rfl
end Go.Proofs.YtlagonfamllgjaaGreatDoor
