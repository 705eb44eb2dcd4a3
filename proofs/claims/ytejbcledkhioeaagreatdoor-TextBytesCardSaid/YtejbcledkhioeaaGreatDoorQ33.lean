/- Part 33 of the proof: DecQ DecR DecS -/
import Derived.Test.YtejbcledkhioeaaGreatDoorQ27
import Derived.Test.YtejbcledkhioeaaGreatDoorQ32
namespace Go.Proofs.YtejbcledkhioeaaGreatDoor
set_option linter.unusedVariables false
set_option linter.unusedSimpArgs false
set_option maxRecDepth 100000
set_option maxHeartbeats 4000000
open Go.RowKit Tryz
theorem zx (args:Array Value) (W:World):(callFunc 153 args).run prog W= .ok (.enter 153 args) W:=by kernel_rfl
section
variable {A:Option Addr} {n c:Nat} {p:Nat} {rg og gr:Nat} {all:Int}
theorem vL (u:Nat) (hu:u≤2048) (h0:0≤all) (h1:all≤16384) (pl:Int) (W:World) (hb:Rg W rg og all A n c p):
 Calls prog 121 #[.pointer (some ⟨rg,0,none⟩),.int .i64 (u:Int),.int .i64 pl] W (fun e w'=>w'=W.setCell ⟨rg,1,none⟩ (.int .i64 (all+u))∧((e= .returned (.tuple #[])∧all+u≤16384)∨Zn e)):=by
 have c1:W.cell? ⟨rg,1,none⟩=some (.int .i64 all):=AL.cell hb 1
 have f1:=AL.frozen hb 1
 have hw:IntKind.i64.wrap (all+u)=all+u:=by rw [IntKind.wrap_i64];omega
 have HS:=AA (AL.set hb 1 (.int .i64 (all+u)))
 have hu2:(u:Int)≤2048:=by omega
 clear hb
 go_enter func121,ntmps121
 go_wp2_with fail
 refine(Af _ _ _).mono ?_
 rintro e w' ⟨rfl,rfl⟩
 go_upto_region 2 with fail
 generalize hw2:World.setCell _ _ _=w2
 rw [hw2] at HS
 have c2:=HS.out.q 1 rfl
 have HW:=AA hw2
 clear hw2 c1 f1
 by_cases hl:all+u≤16384
 ·have d1:decide (all+(u:Int)≤16384)=true:=decide_eq_true hl
  have HL:=AA hl
  clear h1
  go_wp2_with fail
  refine(Af _ _ _).mono ?_
  rintro e w' ⟨rfl,rfl⟩
  go_wp2_with fail
  go_end0
  exact⟨HW.out.symm,.inl ⟨rfl,HL.out⟩⟩
 ·have d1:decide (all+(u:Int)≤16384)=false:=decide_eq_false hl
  have hl2: ¬(all+(u:Int)≤16384):=hl
  go_wp2_with fail
  refine(Ah _ _ _).mono ?_
  rintro e w' ⟨rfl,rfl⟩
  go_wp2_with fail
  exact⟨rfl,HW.out.symm,.inr ⟨_,_,by decide,rfl⟩⟩
theorem zy (u:Nat) (hu:u<18446744073709551616) (h0:0≤all) (h1:all≤16384) (pl:Int) (W:World) (hg:W.cell? ⟨gr,0,none⟩=some (.pointer (some ⟨rg,0,none⟩))) (hb:Rg W rg og all A n c p):
 Calls prog 153 #[.int .u64 (u:Int),.int .i64 pl,.pointer (some ⟨gr,0,none⟩)] W (fun e w'=>(e= .returned (.tuple #[])∧(u≤2048∧all+u≤16384∧w'=W.setCell ⟨rg,1,none⟩ (.int .i64 (all+u))))∨(Zn e∧Keep (fun k=>k≠rg) W w')):=by
 have HB:=AA hb
 clear hb
 go_enter func153,ntmps153
 by_cases hl:u≤2048
 ·have d1:decide ((u:Int)≤2048)=true:=decide_eq_true (by omega)
  have d2:(u:Int)≤2048:=by omega
  have HL:=AA hl
  have hwu:IntKind.i64.wrap (u:Int)=u:=by rw [IntKind.wrap_i64];omega
  have HC:=AA (vL u hl h0 h1 pl W HB.out)
  clear hl
  go_wp2_with fail
  refine(Af _ _ _).mono ?_
  rintro e w' ⟨rfl,rfl⟩
  go_wp2_with fail
  refine HC.out.mono ?_
  rintro e w2 ⟨hw,⟨rfl,h⟩ | ⟨en,a1,hne,rfl⟩⟩
  ·have HH:=AA h;have HW:=AA hw
   clear h hw
   go_wp2_with fail
   go_end0
   exact .inl ⟨rfl,HL.out,HH.out,HW.out⟩
  ·have H1:=AA hne
   have HK:Hid (Keep (fun k=>k≠rg) W w2):=AA (by rw [hw];exact(Keep.refl _ _).setCell (fun h=>h rfl) _)
   clear hne hw
   go_wp2_with fail
   exact⟨rfl,.inr ⟨⟨_,_,H1.out,rfl⟩,HK.out⟩⟩
 ·have d1:decide ((u:Int)≤2048)=false:=decide_eq_false (by omega)
  have d2: ¬(u:Int)≤2048:=by omega
  clear hl
  go_wp2_with fail
  refine(Ah _ _ _).mono ?_
  rintro e w' ⟨rfl,rfl⟩
  go_wp2_with fail
  exact⟨rfl,.inr ⟨⟨_,_,by decide,rfl⟩,Keep.refl _ _⟩⟩
end
noncomputable def z_:Code:=((((f108.body.map Jr).getD [])[0]?).getD .skip)
def cZ (R:RC) (wr:World) (all:Int) (q:Nat) (a4 a5 a6:Value) (wx:World):Prop:= ∃(gx:Nat) (nx er o a:Int) (L:Option Addr) (k c:Nat),a4= .pointer (some ⟨gx,0,none⟩)∧a5= .int .i64 nx∧a6= .int .i64 er∧Ao R wr wx all q∧wr.heap.size≤gx∧AL wx gx 53 [.int .u8 o,.int .i64 a,.slice L k c]∧
 (er≠0∨(er=0∧ ∃(q2:Nat) (x:DL) (lo hi:Nat),nx=q2∧o=(x.op.toNat:Int)∧a=x.a∧wr.heap.size≤lo∧hi≤wx.heap.size∧JA.R wx lo hi [.int .u8 (x.op.toNat:Int),.int .i64 x.a,.slice L k c] x∧Ai x=0∧K_ R.l q (Iw x) q2))
def FnI (R:RC) (w1:World) (gF:Nat) (t:Int) (loc:ByteArray) (p0:Nat) (all:Int) (k:Nat) (W:World):Prop:= ∃(code:List DL) (q:Nat) (Ac:Option Addr) (cc:Nat) (cells:List Value),Ao R w1 W all q∧AL W gF 56 [.int .i64 t,.string loc,.slice Ac k cc]∧Gc JA 53 (gF+1) (fun _=>True) W Ac k cc cells code∧code.length=k∧K_ R.l p0 (code.flatMap Iw) q∧ ∀x∈code,Ai x=0
set_option maxRecDepth 1000000 in
theorem vM {R:RC} {w1:World} {m1:AP} {all1:Int} {q1:Nat} (HH:Hid (HR R w1 m1 all1 q1)) {gF:Nat} (aY:w1.heap.size≤gF) (hBi:R.Bi≤R.w0.heap.size) (vN:Hid (∀W,Below R.Bi R.w0 W→Lib.TabIs prog W "strings.asciiSpace" .u8 Lib.asciiSpaceTab)) {t:Int} {loc:ByteArray} {p0:Nat} {all:Int} {M:Nat} (hM:M≤2048) {Wt:World} (HP:Hid (FnI R w1 gF t loc p0 all 0 Wt))
 (s0 s3 s7 s8 s9 s10 s11 s12 s13 Fw s15 s16 En EN GZ s20 Eo Ga EO s24 EP Ep Ea Eb Ec Ed Ee Er s68 Fx Fy Fz s72 F4 F5 F6 F7 F8 F9 GA GD GH s82 s83 u4 u5 u6 u33 u34 u35 u36 u37 u38 Rl u40 MH u42 MI u44 u45 u46 MJ u48 u49 Ou u51 MK u53 Ro u55 Rp ML u58 u59 u60 MN MO u63 u64 MP:Value) (Q:Exit→Act→World→Prop) (HT:Hid (∀(en a1:Int) (ax:Act) (wx:World),en≠0→ax.defers= []→Keep (KD R.B R.og R.rg R.Z0) R.w0 wx→Q (.panic (thrown en a1)) ax wx))
 (HX:Hid (∀(u4 u5 u6 u33 u34 u35 u36 u37 u38 Rl u40 MH u42 MI u44 u45 u46 MJ u48 u49 Ou u51 MK u53 Ro u55 Rp ML u58 u59 u60 MN MO u63 u64 MP:Value) (wx:World),FnI R w1 gF t loc p0 all M wx→Q (.exit 0) ⟨(List.toArray (s0::(.pointer (some ⟨R.gr,0,none⟩))::(.pointer (some ⟨gF,0,none⟩))::s3::u4::u5::u6::s7::s8::s9::s10::s11::s12::s13::Fw::s15::s16::En::EN::GZ::s20::Eo::Ga::EO::s24::EP::Ep::Ea::Eb::Ec::Ed::(.int .i64 (M:Int))::(.int .i64 (M:Int))::u33::u34::u35::u36::u37::u38::Rl::u40::MH::u42::MI::u44::u45::u46::MJ::u48::u49::Ou::u51::MK::u53::Ro::u55::Rp::ML::u58::u59::u60::MN::MO::u63::u64::MP::Ee::Er::s68::Fx::Fy::Fz::s72::F4::F5::F6::F7::F8::F9::GA::GD::GH::s82::s83:: [])),[]⟩ wx)):
 Code.wp prog (Code.loop z_) Q ⟨(List.toArray (s0::(.pointer (some ⟨R.gr,0,none⟩))::(.pointer (some ⟨gF,0,none⟩))::s3::u4::u5::u6::s7::s8::s9::s10::s11::s12::s13::Fw::s15::s16::En::EN::GZ::s20::Eo::Ga::EO::s24::EP::Ep::Ea::Eb::Ec::Ed::(.int .i64 (M:Int))::(.int .i64 0)::u33::u34::u35::u36::u37::u38::Rl::u40::MH::u42::MI::u44::u45::u46::MJ::u48::u49::Ou::u51::MK::u53::Ro::u55::Rp::ML::u58::u59::u60::MN::MO::u63::u64::MP::Ee::Er::s68::Fx::Fy::Fz::s72::F4::F5::F6::F7::F8::F9::GA::GD::GH::s82::s83:: [])),[]⟩ Wt:=by
 refine wp_loop (fun a wx=> ∃(U:Nat→Value) (k:Nat),k≤M∧FnI R w1 gF t loc p0 all k wx∧a=⟨(List.toArray (s0::(.pointer (some ⟨R.gr,0,none⟩))::(.pointer (some ⟨gF,0,none⟩))::s3::(U 0)::(U 1)::(U 2)::s7::s8::s9::s10::s11::s12::s13::Fw::s15::s16::En::EN::GZ::s20::Eo::Ga::EO::s24::EP::Ep::Ea::Eb::Ec::Ed::(.int .i64 (M:Int))::(.int .i64 (k:Int))::(U 3)::(U 4)::(U 5)::(U 6)::(U 7)::(U 8)::(U 9)::(U 10)::(U 11)::(U 12)::(U 13)::(U 14)::(U 15)::(U 16)::(U 17)::(U 18)::(U 19)::(U 20)::(U 21)::(U 22)::(U 23)::(U 24)::(U 25)::(U 26)::(U 27)::(U 28)::(U 29)::(U 30)::(U 31)::(U 32)::(U 33)::(U 34)::(U 35)::Ee::Er::s68::Fx::Fy::Fz::s72::F4::F5::F6::F7::F8::F9::GA::GD::GH::s82::s83:: [])),[]⟩) (fun a _=>M-(intOf (a.tmps.getD 32 undef)).toNat) ?_ ?_
 ·exact⟨fun i=> [u4,u5,u6,u33,u34,u35,u36,u37,u38,Rl,u40,MH,u42,MI,u44,u45,u46,MJ,u48,u49,Ou,u51,MK,u53,Ro,u55,Rp,ML,u58,u59,u60,MN,MO,u63,u64,MP].getD i undef,0,Nat.zero_le _,HP.out,rfl⟩
 intro a wr hI
 clear HP u4 u5 u6 u33 u34 u35 u36 u37 u38 Rl u40 MH u42 MI u44 u45 u46 MJ u48 u49 Ou u51 MK u53 Ro u55 Rp ML u58 u59 u60 MN MO u63 u64 MP
 obtain⟨U,k,hk,hp,rfl⟩:=hI
 have HP:=AA hp
 clear hp
 refine Qc (fun K=> ∀(u4 u5 u6 u33 u34 u35 u36 u37 u38 Rl u40 MH u42 MI u44 u45 u46 MJ u48 u49 Ou u51 MK u53 Ro u55 Rp ML u58 u59 u60 MN MO u63 u64 MP:Value) (wx:World),k<M→FnI R w1 gF t loc p0 all (k+1) wx→K ⟨(List.toArray (s0::(.pointer (some ⟨R.gr,0,none⟩))::(.pointer (some ⟨gF,0,none⟩))::s3::u4::u5::u6::s7::s8::s9::s10::s11::s12::s13::Fw::s15::s16::En::EN::GZ::s20::Eo::Ga::EO::s24::EP::Ep::Ea::Eb::Ec::Ed::(.int .i64 (M:Int))::(.int .i64 ((k:Int)+1))::u33::u34::u35::u36::u37::u38::Rl::u40::MH::u42::MI::u44::u45::u46::MJ::u48::u49::Ou::u51::MK::u53::Ro::u55::Rp::ML::u58::u59::u60::MN::MO::u63::u64::MP::Ee::Er::s68::Fx::Fy::Fz::s72::F4::F5::F6::F7::F8::F9::GA::GD::GH::s82::s83:: [])),[]⟩ wx) ?_ ?_
 ·intro u4 u5 u6 u33 u34 u35 u36 u37 u38 Rl u40 MH u42 MI u44 u45 u46 MJ u48 u49 Ou u51 MK u53 Ro u55 Rp ML u58 u59 u60 MN MO u63 u64 MP wy hlt hp2
  refine⟨⟨fun i=> [u4,u5,u6,u33,u34,u35,u36,u37,u38,Rl,u40,MH,u42,MI,u44,u45,u46,MJ,u48,u49,Ou,u51,MK,u53,Ro,u55,Rp,ML,u58,u59,u60,MN,MO,u63,u64,MP].getD i undef,k+1,hlt,hp2,rfl⟩,?_⟩
  show M-(intOf (.int .i64 ((k+1:Nat):Int))).toNat<M-(intOf (.int .i64 (k:Int))).toNat
  simp [intOf]
  omega
 intro K HK
 conv=>arg 2;whnf
 have hk0:(0:Int)≤k:=by omega
 by_cases hlt:k<M
 ·have KU:(k:Int)<M:=by omega
  clear HX
  obtain⟨code,q,Ac,cc,cells,hp,hF,hc,hl,ha,hck⟩:=HP.out
  have P0:=AA hp;have HF:=AA hF;have HC:=AA hc;have HA:=AA ha;have HCK:=AA hck;have Wu:=AA hl
  have kN:=AA (hp.hr HH.out)
  have hrl:=HH.out.kG;have hol:=HH.out.qJ;have hgB:=HH.out.gB;have htop:=HH.out.top;have hi1:=HH.out.i1;have hi2:=HH.out.i2
  have hsr:=hp.kp.size
  have hFlt:=hF.lt
  clear hp hF hc hl ha hck
  go_upto_region 6 with fail
  go_cut [4,5,6] from 34 to 46 (fun a4 a5 a6 wx=>cZ R wr all q a4 a5 a6 wx)
  case first=>
   refine Aa ?_
   have PC:=AA (kN.out.pr.drew)
   refine wp_region_held_drew (S:=fun W=>W.cell? ⟨R.gr,0,none⟩=some (.pointer (some ⟨R.rg,0,none⟩))∧W.cell? ⟨R.rg,2,none⟩=some (.slice R.A R.n R.c)∧W.cell? ⟨R.rg,3,none⟩=some (.int .i64 (q:Nat))) (by kernel_rfl) ⟨Ao.gr kN.out PC.out,PC.out.r2,PC.out.r3⟩ (fun hHeld=> ?_)
   have HTW:Hid (∀W,Below wr.heap.size wr.drew W→Lib.TabIs prog W "strings.asciiSpace" .u8 Lib.asciiSpaceTab):=AA (fun W hW=>vN.out _ (((PC.out.OW kN.out).below hBi (fun k hk=>⟨.inl (by omega),by omega,by omega⟩)).trans (hW.mono (by omega))))
   have HWZ:Hid (wr.drew.heap.size=wr.heap.size):=AA rfl
   generalize wr.drew=CP at*
   refine AB (i:=0) (v:= ?_) rfl (by kernel_rfl) (fun _ _ _ h=>h) (by intro w hSw;(try dsimp only at hSw);go_simp;try with_reducible rfl) hHeld ?_
   refine AB (i:=1) (v:= ?_) rfl (by kernel_rfl) (fun _ _ _ h=>h) (by intro w hSw;(try dsimp only at hSw);go_simp;try with_reducible rfl) hHeld ?_
   refine AB (i:=2) (v:= ?_) rfl (by kernel_rfl) (fun _ _ _ h=>h) (by intro w hSw;(try dsimp only at hSw);go_simp;try with_reducible rfl) hHeld ?_
   refine AB (i:=3) (v:= ?_) rfl (by kernel_rfl) (fun _ _ _ h=>h) (by intro w hSw;(try dsimp only at hSw);go_simp;try with_reducible rfl) hHeld ?_
   refine AB (i:=4) (v:= ?_) rfl (by kernel_rfl) (fun _ _ _ h=>h) (by intro w hSw;(try dsimp only at hSw);go_simp;try with_reducible rfl) hHeld ?_
   refine AB (i:=5) (v:= ?_) rfl (by kernel_rfl) (fun _ _ _ h=>h) (by intro w hSw;(try dsimp only at hSw);go_simp;try with_reducible rfl) hHeld ?_
   refine AB (i:=6) (v:= ?_) rfl (by kernel_rfl) (fun _ _ _ h=>h) (by intro w hSw;(try dsimp only at hSw);go_simp;try with_reducible rfl) hHeld ?_
   refine AB (i:=7) (v:= ?_) rfl (by kernel_rfl) (fun _ _ _ h=>h) (by intro w hSw;(try dsimp only at hSw);go_simp;try with_reducible rfl) hHeld ?_
   refine wpAnyH_ready (rs:= [8,13]) (by kernel_rfl) (by simp) ?_
   refine AllReadyH.cons rfl (fun K hK=> ?_) (AllReadyH.cons rfl (fun K hK=> ?_) AllReadyH.nil)
   ·go_simp
    go_at_call 154
    refine(Wx (l:=R.l) (p:=q) (Ao.inp kN.out PC.out) HA.out.le (by have:=PC.out.kp.size;omega) (HTW.out _ (Below.refl _ _))).mono ?_
    rintro e Js ⟨hb,v,nx,er,rfl,hcase⟩
    obtain⟨o_,a_,L_,k_,c_,rfl,hres⟩: ∃(o_ a_:Int) (L_:Option Addr) (k_ c_:Nat),v= .agg #[.int .u8 o_,.int .i64 a_,.slice L_ k_ c_]∧(er≠0∨(er=0∧ ∃(q2:Nat) (x:DL),nx=q2∧o_=(x.op.toNat:Int)∧a_=x.a∧JA.R Js CP.heap.size Js.heap.size [.int .u8 (x.op.toNat:Int),.int .i64 x.a,.slice L_ k_ c_] x∧Ai x=0∧K_ R.l q (Iw x) q2)):=by
     rcases hcase with⟨h1,rfl⟩ | ⟨h1,q2,h2,x,L_,k_,c_,rfl,h3,h4,h5⟩
     ·exact⟨0,0,none,0,0,rfl,.inl h1⟩
     ·exact⟨_,_,L_,k_,c_,rfl,.inr ⟨h1,q2,x,h2,rfl,rfl,h3,h4,h5⟩⟩
    have Zr:=AA hres;have HB20:=AA hb;have PD:=AA (PC.out.below hb);have hsz:CP.heap.size≤Js.heap.size:=hb.size
    refine hK.out _ _ ⟨Ao.gr kN.out PD.out,PD.out.r2,PD.out.r3⟩ (fun Ag=> ?_)
    clear hK K hres hcase hb
    refine AB (i:=9) (v:= ?_) rfl (by kernel_rfl) (fun _ _ _ h=>h) (by intro w hSw;(try dsimp only at hSw);go_simp;try with_reducible rfl) Ag ?_
    refine AB (i:=10) (v:= ?_) rfl (by kernel_rfl) (fun _ _ _ h=>h) (by intro w hSw;(try dsimp only at hSw);go_simp;try with_reducible rfl) Ag ?_
    refine AB (i:=11) (v:= ?_) rfl (by kernel_rfl) (fun _ _ _ h=>h) (by intro w hSw;(try dsimp only at hSw);go_simp;try with_reducible rfl) Ag ?_
    refine AB (i:=12) (v:= ?_) rfl (by kernel_rfl) (fun _ _ _ h=>h) (by intro w hSw;(try dsimp only at hSw);go_simp;try with_reducible rfl) Ag ?_
    refine wpAnyH_ready (rs:= [13]) (by kernel_rfl) (by simp) ?_
    refine AllReadyH.cons rfl (fun K hK=> ?_) AllReadyH.nil
    go_simp
    have PA:=AA (PD.out.alloc (.cells #[.int .u8 0,.int .i64 0,.slice none 0 0] 53))
    have Wz:Hid (AL (Js.alloc (.cells #[.int .u8 0,.int .i64 0,.slice none 0 0] 53)) Js.heap.size 53 [.int .u8 0,.int .i64 0,.slice none 0 0]):=AA (AL.new Js _ _)
    have hgx:wr.heap.size≤Js.heap.size:=PD.out.kp.size
    have HTA:Hid (Below Js.heap.size Js (Js.alloc (.cells #[.int .u8 0,.int .i64 0,.slice none 0 0] 53))):=AA ((Below.refl _ _).alloc (Nat.le_refl _) _)
    have hza:Js.heap.size<(Js.alloc (.cells #[.int .u8 0,.int .i64 0,.slice none 0 0] 53)).heap.size:=by simp
    refine hK.out _ _ ⟨Ao.gr kN.out PA.out,PA.out.r2,PA.out.r3⟩ (fun CO=> ?_)
    clear hK K
    generalize hwn:Js.alloc (.cells #[.int .u8 0,.int .i64 0,.slice none 0 0] 53)=wA at*
    clear hwn
    generalize hgn:Js.heap.size=gx at*
    refine wpAnyH_ready (rs:= [14]) (by kernel_rfl) (by simp) ?_
    refine AllReadyH.cons rfl (fun K hK=> ?_) AllReadyH.nil
    have hgr:gx≠R.rg:=by omega
    have s0:=Wz.out.cell 0;have s1:=Wz.out.cell 1;have s2:=Wz.out.cell 2;have t0:=Wz.out.frozen 0;have t1:=Wz.out.frozen 1;have t2:=Wz.out.frozen 2
    go_simp
    have PS:Hid (Ao R wr (((wA.setCell ⟨gx,0,none⟩ (.int .u8 o_)).setCell ⟨gx,1,none⟩ (.int .i64 a_)).setCell ⟨gx,2,none⟩ (.slice L_ k_ c_)) all q):=AA (Ao.set (a:=⟨gx,2,none⟩) (Ao.set (a:=⟨gx,1,none⟩) (Ao.set (a:=⟨gx,0,none⟩) PA.out hgx hgr (.int .u8 o_)) hgx hgr (.int .i64 a_)) hgx hgr (.slice L_ k_ c_))
    refine hK.out _ _ ⟨Ao.gr kN.out PS.out,PS.out.r2,PS.out.r3⟩ (fun JY=> ?_)
    clear hK K s0 s1 s2 t0 t1 t2
    refine AB (i:=15) (v:= ?_) rfl (by kernel_rfl) (fun _ _ _ h=>h) (by intro w hSw;(try dsimp only at hSw);go_simp;try with_reducible rfl) JY ?_
    refine AB (i:=16) (v:= ?_) rfl (by kernel_rfl) (fun _ _ _ h=>h) (by intro w hSw;(try dsimp only at hSw);go_simp;try with_reducible rfl) JY ?_
    refine wpAnyH_done (by kernel_rfl) ?_ _
    refine BG.normal ?_
    have cu:Hid (cZ R wr all q (.pointer (some ⟨gx,0,none⟩)) (.int .i64 nx) (.int .i64 er) (((wA.setCell ⟨gx,0,none⟩ (.int .u8 o_)).setCell ⟨gx,1,none⟩ (.int .i64 a_)).setCell ⟨gx,2,none⟩ (.slice L_ k_ c_))):=AA ⟨gx,nx,er,o_,a_,L_,k_,c_,rfl,rfl,rfl,PS.out,hgx,(((Wz.out.set 0 _).set 1 _).set 2 _),by
     rcases Zr.out with h | ⟨h1,q2,x,h2,h3,h4,h5,h6,h7⟩
     ·exact .inl h
     ·exact .inr ⟨h1,q2,x,CP.heap.size,_,h2,h3,h4,(Nat.le_of_eq HWZ.out.symm),(by simp only [World.size_setCell];omega),Rd.GX (Rd.below h5 HTA.out (Nat.le_refl _)) ((((Keep.refl (fun k=>k≠gx) _).setCell (fun h=>h rfl) _).setCell (fun h=>h rfl) _).setCell (fun h=>h rfl) _) (by omega) (fun k h1 h2=>by show k≠gx;omega),h6,h7⟩⟩
    go_wp2_with fail
    go_meet
    exact cu.out
   ·go_simp
    have PA:=AA (PC.out.alloc (.cells #[.int .u8 0,.int .i64 0,.slice none 0 0] 53))
    have Wz:Hid (AL (CP.alloc (.cells #[.int .u8 0,.int .i64 0,.slice none 0 0] 53)) CP.heap.size 53 [.int .u8 0,.int .i64 0,.slice none 0 0]):=AA (AL.new CP _ _)
    have hgx:wr.heap.size≤CP.heap.size:=PC.out.kp.size
    have HTA:Hid (Below CP.heap.size CP (CP.alloc (.cells #[.int .u8 0,.int .i64 0,.slice none 0 0] 53))):=AA ((Below.refl _ _).alloc (Nat.le_refl _) _)
    have hza:CP.heap.size<(CP.alloc (.cells #[.int .u8 0,.int .i64 0,.slice none 0 0] 53)).heap.size:=by simp
    refine hK.out _ _ ⟨Ao.gr kN.out PA.out,PA.out.r2,PA.out.r3⟩ (fun Ag=> ?_)
    clear hK K
    generalize hwn:CP.alloc (.cells #[.int .u8 0,.int .i64 0,.slice none 0 0] 53)=wA at*
    clear hwn
    generalize hgn:CP.heap.size=gx at*
    refine wpAnyH_ready (rs:= [8]) (by kernel_rfl) (by simp) ?_
    refine AllReadyH.cons rfl (fun K hK=> ?_) AllReadyH.nil
    go_simp
    go_at_call 154
    refine(Wx (l:=R.l) (p:=q) (Ao.inp kN.out PA.out) HA.out.le (by have:=PA.out.kp.size;omega) (HTW.out _ (HTA.out.mono (by omega)))).mono ?_
    rintro e Js ⟨hb,v,nx,er,rfl,hcase⟩
    obtain⟨o_,a_,L_,k_,c_,rfl,hres⟩: ∃(o_ a_:Int) (L_:Option Addr) (k_ c_:Nat),v= .agg #[.int .u8 o_,.int .i64 a_,.slice L_ k_ c_]∧(er≠0∨(er=0∧ ∃(q2:Nat) (x:DL),nx=q2∧o_=(x.op.toNat:Int)∧a_=x.a∧JA.R Js wA.heap.size Js.heap.size [.int .u8 (x.op.toNat:Int),.int .i64 x.a,.slice L_ k_ c_] x∧Ai x=0∧K_ R.l q (Iw x) q2)):=by
     rcases hcase with⟨h1,rfl⟩ | ⟨h1,q2,h2,x,L_,k_,c_,rfl,h3,h4,h5⟩
     ·exact⟨0,0,none,0,0,rfl,.inl h1⟩
     ·exact⟨_,_,L_,k_,c_,rfl,.inr ⟨h1,q2,x,h2,rfl,rfl,h3,h4,h5⟩⟩
    have Zr:=AA hres;have HB20:=AA hb;have PD:=AA (PA.out.below hb);have hsz:wA.heap.size≤Js.heap.size:=hb.size
    have HXB:=AA (Wz.out.below hb Wz.out.lt)
    refine hK.out _ _ ⟨Ao.gr kN.out PD.out,PD.out.r2,PD.out.r3⟩ (fun CO=> ?_)
    clear hK K hres hcase hb
    refine AB (i:=9) (v:= ?_) rfl (by kernel_rfl) (fun _ _ _ h=>h) (by intro w hSw;(try dsimp only at hSw);go_simp;try with_reducible rfl) CO ?_
    refine AB (i:=10) (v:= ?_) rfl (by kernel_rfl) (fun _ _ _ h=>h) (by intro w hSw;(try dsimp only at hSw);go_simp;try with_reducible rfl) CO ?_
    refine AB (i:=11) (v:= ?_) rfl (by kernel_rfl) (fun _ _ _ h=>h) (by intro w hSw;(try dsimp only at hSw);go_simp;try with_reducible rfl) CO ?_
    refine AB (i:=12) (v:= ?_) rfl (by kernel_rfl) (fun _ _ _ h=>h) (by intro w hSw;(try dsimp only at hSw);go_simp;try with_reducible rfl) CO ?_
    refine wpAnyH_ready (rs:= [14]) (by kernel_rfl) (by simp) ?_
    refine AllReadyH.cons rfl (fun K hK=> ?_) AllReadyH.nil
    have hgr:gx≠R.rg:=by omega
    have s0:=HXB.out.cell 0;have s1:=HXB.out.cell 1;have s2:=HXB.out.cell 2;have t0:=HXB.out.frozen 0;have t1:=HXB.out.frozen 1;have t2:=HXB.out.frozen 2
    go_simp
    have PS:Hid (Ao R wr (((Js.setCell ⟨gx,0,none⟩ (.int .u8 o_)).setCell ⟨gx,1,none⟩ (.int .i64 a_)).setCell ⟨gx,2,none⟩ (.slice L_ k_ c_)) all q):=AA (Ao.set (a:=⟨gx,2,none⟩) (Ao.set (a:=⟨gx,1,none⟩) (Ao.set (a:=⟨gx,0,none⟩) PD.out hgx hgr (.int .u8 o_)) hgx hgr (.int .i64 a_)) hgx hgr (.slice L_ k_ c_))
    refine hK.out _ _ ⟨Ao.gr kN.out PS.out,PS.out.r2,PS.out.r3⟩ (fun JY=> ?_)
    clear hK K s0 s1 s2 t0 t1 t2
    refine AB (i:=15) (v:= ?_) rfl (by kernel_rfl) (fun _ _ _ h=>h) (by intro w hSw;(try dsimp only at hSw);go_simp;try with_reducible rfl) JY ?_
    refine AB (i:=16) (v:= ?_) rfl (by kernel_rfl) (fun _ _ _ h=>h) (by intro w hSw;(try dsimp only at hSw);go_simp;try with_reducible rfl) JY ?_
    refine wpAnyH_done (by kernel_rfl) ?_ _
    refine BG.normal ?_
    have cu:Hid (cZ R wr all q (.pointer (some ⟨gx,0,none⟩)) (.int .i64 nx) (.int .i64 er) (((Js.setCell ⟨gx,0,none⟩ (.int .u8 o_)).setCell ⟨gx,1,none⟩ (.int .i64 a_)).setCell ⟨gx,2,none⟩ (.slice L_ k_ c_))):=AA ⟨gx,nx,er,o_,a_,L_,k_,c_,rfl,rfl,rfl,PS.out,hgx,(((HXB.out.set 0 _).set 1 _).set 2 _),by
     rcases Zr.out with h | ⟨h1,q2,x,h2,h3,h4,h5,h6,h7⟩
     ·exact .inl h
     ·exact .inr ⟨h1,q2,x,wA.heap.size,_,h2,h3,h4,(by omega),(by simp only [World.size_setCell];omega),Rd.GX h5 ((((Keep.refl (fun k=>k≠gx) _).setCell (fun h=>h rfl) _).setCell (fun h=>h rfl) _).setCell (fun h=>h rfl) _) (Nat.le_refl _) (fun k h1 h2=>by show k≠gx;omega),h6,h7⟩⟩
    go_wp2_with fail
    go_meet
    exact cu.out
  case rest=>
   obtain⟨gx,nx,er,o_,a_,L_,k_,c_,rfl,rfl,rfl,hp,hgx,hx,hres⟩:=hcut
   have P1:=AA hp;have iE:=AA hx
   have ag:=Ao.gr kN.out hp
   have aq:=hp.r3
   by_cases her:er=0
   case neg=>
    have hd:(er==0)=false:=beq_eq_false_iff_ne.2 her
    have Z9:=AA her
    have JF:=AA (hp.OW kN.out)
    clear her hres hp hx
    go_wp2_with fail
    refine(Ah _ _ _).mono ?_
    rintro e w' ⟨rfl,rfl⟩
    go_wp2_with fail
    exact HT.out _ _ _ _ Z9.out rfl JF.out
   subst her
   rcases hres with h | ⟨_,q2,x,lo,hi,rfl,rfl,rfl,hlo,hhi,hR,JE,YJ⟩
   ·exact absurd rfl h
   have hd:((0:Int)==0)=true:=rfl
   have HR1:=AA hR;have HCH:=AA JE;have HAD:=AA YJ
   have af:=AL.frozen hp.rd 3
   clear hR JE YJ hx
   go_wp2_with fail
   refine(Af _ _ _).mono ?_
   rintro e w' ⟨rfl,rfl⟩
   go_upto_region 9 with fail
   generalize hw7:World.setCell _ _ _=w7
   have P7:Hid (Ao R wr w7 all q2):=AA (by rw [←hw7];exact hp.go q2)
   have hrk:Keep (fun k=>k≠R.rg) wc w7:=by rw [←hw7];exact(Keep.refl _ _).setCell (fun h=>h rfl) _
   have UD:=AA (iE.out.keep hrk (show gx≠R.rg by omega))
   have HF7:=AA (HF.out.keep P7.out.kp (show gF≠R.rg by omega))
   have jX:=AA (Rd.GX HR1.out hrk hhi (fun k h1 h2=>by show k≠R.rg;omega))
   have ACE:hi≤w7.heap.size:=Nat.le_trans hhi hrk.size
   clear hw7 ag aq af hrk hp
   obtain⟨i0,hi0,hz,hs',hby⟩:=info_parts NG
   have x0:=UD.out.cell 0
   have x1:=UD.out.cell 1
   have x2:=UD.out.cell 2
   have hX7:=UD.out.lt
   have hF7:=HF7.out.lt
   have g2:=HF7.out.q 2 rfl
   have EM:Below w7.heap.size w7 (w7.alloc (.cells #[.int .u8 (x.op.toNat:Int),.int .i64 x.a,.slice L_ k_ c_] 53)):=(Below.refl _ _).alloc (Nat.le_refl _) _
   have KQ:=AA EM
   have P8:Hid (Ao R wr (w7.alloc (.cells #[.int .u8 (x.op.toNat:Int),.int .i64 x.a,.slice L_ k_ c_] 53)) all q2):=AA (P7.out.below EM)
   have HF8:=AA (HF7.out.below EM hF7)
   have Uy:=AA (BD HC.out.own P8.out.kp (fun k hk=>by have:=(HC.out.lt k hk).1;show k≠R.rg;omega))
   have GK:Hid (Row (w7.alloc (.cells #[.int .u8 (x.op.toNat:Int),.int .i64 x.a,.slice L_ k_ c_] 53)) (w7.heap.size+1) (some ⟨w7.heap.size,0,none⟩) [.int .u8 (x.op.toNat:Int),.int .i64 x.a,.slice L_ k_ c_]):=AA (Ak w7 [.int .u8 (x.op.toNat:Int),.int .i64 x.a,.slice L_ k_ c_] 53)
   have hw7r:wr.heap.size≤w7.heap.size:=P7.out.kp.size
   clear EM
   go_wp2_with (at_builtin;refine MR _ rfl (.tmp 60) (.tmp 62) 54 rfl (gF+1) 53 i0 _ 3 40 underlying54 hi0 hz hs' hby rfl (by omega) _ k cells rfl Uy.out (w7.heap.size+1) _ 1 1 [.int .u8 (x.op.toNat:Int),.int .i64 x.a,.slice L_ k_ c_] rfl rfl GK.out (by intro u hu;simp at hu;rcases hu with rfl | rfl | rfl<;>rfl) (by unfold maxLen;omega) (by omega) (by simp;omega) ?_;intro A4 c4 w9 h2 h3 h4;have hF9:AL w9 gF 56 [.int .i64 t,.string loc,.slice Ac k cc]:=(h3.block _ HF8.out.lt (fun e=>by have:=(HC.out.lt _ e.symm).1;omega)).trans HF8.out;have TJ:=hF9.frozen 2;have hc4:=hF9.cell 2;have H2:=AA h2;have H3:=AA h3;have H4:=AA h4;have HF9:=AA hF9;clear h2 h3 h4 hF9)
   have hfin:FnI R w1 gF t loc p0 all (k+1) (w9.setCell ⟨gF,2,none⟩ (.slice A4 (k+1) c4)):=by
    have zA:Keep (fun k=>k≠gF) w9 (w9.setCell ⟨gF,2,none⟩ (.slice A4 (k+1) c4)):=(Keep.refl _ _).setCell (fun h=>h rfl) _
    have hsn:=HC.out.Vd P8.out.kp (show R.rg<gF+1 by omega) (show gF+1≤wr.heap.size by omega) (Rd.below jX.out KQ.out ACE) hlo (Nat.le_trans ACE KQ.out.size) H2.out H3.out H4.out (S':=fun _=>True) (fun _ _ _=>trivial) (fun _ _=>trivial)
    have hr9:Rg w9 R.rg R.og all R.A R.n R.c q2:=(H3.out.block _ P8.out.rd.lt (fun e=>by have:=(HC.out.lt _ e.symm).1;omega)).trans P8.out.rd
    have hkp9:Keep (fun k=>k≠R.rg) w1 w9:=by
     have h1:Keep (fun k=>k≠R.rg∧k<gF+1) (w7.alloc (.cells #[.int .u8 (x.op.toNat:Int),.int .i64 x.a,.slice L_ k_ c_] 53)) w9:=⟨H3.out.os,H3.out.tape,H3.out.output,H3.out.size,fun q hq hk=>H3.out.block q hq (fun e=>by have:=(HC.out.lt q e.symm).1;have:=hk.2;omega)⟩
     have h2:=P0.out.kp.trans P8.out.kp
     exact⟨h1.os.trans h2.os,h1.tape.trans h2.tape,h1.output.trans h2.output,Nat.le_trans h2.size h1.size,fun q hq hk=>(h1.block q (Nat.lt_of_lt_of_le hq h2.size) ⟨hk,by omega⟩).trans (h2.block q hq hk)⟩
    refine⟨code++ [x],q2,A4,c4,_,⟨hkp9.qI (p:=⟨gF,2,none⟩) aY _,AL.far hr9 (p:=⟨gF,2,none⟩) (show R.rg≠gF by omega) _⟩,HF9.out.set 2 _,hsn.keep zA (fun k h1 h2 _=>by show k≠gF;omega) (fun _ _ h=>h),by rw [List.length_append,Wu.out];rfl,?_,fun y hy=> ?_⟩
    ·rw [DK]
     exact HA.out.trans HAD.out
    ·rcases List.mem_append.1 hy with h | h
     ·exact HCK.out y h
     ·rw [List.mem_singleton] at h;rw [h];exact HCH.out
   have Dz:=AA hfin
   clear hfin TJ hc4
   go_wp2_with fail
   apply HK.out
   ·exact hlt
   ·exact Dz.out
 ·obtain rfl:k=M:=by omega
  have Sj:=HP
  clear HK
  go_wp2_with fail
  apply HX.out
  exact Sj.out
def qY (R:RC) (wr:World) (m:AP) (all:Int) (q:Nat) (a2:Value) (wx:World):Prop:= ∃(gF u q1:Nat),a2= .pointer (some ⟨gF,0,none⟩)∧Ao R wr wx all q1∧wr.heap.size≤gF∧AL wx gF 56 [.int .i64 (u:Int),.string ⟨#[]⟩,.slice none 0 0]∧u<m.types.length∧K_ R.l q (enc u) q1
set_option maxRecDepth 1000000 in
theorem Zt {R:RC} {w:World} {m:AP} {all:Int} {q:Nat} (hA:R.At w) (h:HQ R w m all q) (hBi:R.Bi≤R.w0.heap.size) (vN:Hid (∀W,Below R.Bi R.w0 W→Lib.TabIs prog W "strings.asciiSpace" .u8 Lib.asciiSpaceTab))
 (htl:m.types.length≤64) (htp: ∀t∈m.types,t.p.size≤8) (hfl:m.fns.length≤128) (h0:0≤all) (h1:all≤16384):
 Calls prog 108 #[.pointer (some ⟨R.rg,0,none⟩)] w (fun e w'=>Keep (KD R.B R.og R.rg R.Z0) R.w0 w'∧((∃(f:GR) (q':Nat),e= .returned (.tuple #[])∧HQ R w' {m with fns:=m.fns++ [f]} (all+f.code.length) q'∧K_ R.l q (XF f) q'∧(0≤f.t∧f.t<m.types.length)∧Bq f.loc (64-J3 m f.t)=0∧f.code.length≤2048∧all+f.code.length≤16384∧ ∀x∈f.code,Ai x=0)∨Zn e)):=by
 have HH:=AA (h.box hA)
 have hg:=hA.gr
 clear h hA
 go_enter func108,ntmps108
 go_upto_region 1 with fail
 rw [←hg] at*
 generalize hw1:World.alloc _ _=wr at*
 clear hw1 hg
 have P0:=AA HH.out.pr
 have hrl:=HH.out.kG;have hol:=HH.out.qJ;have hgB:=HH.out.gB;have htop:=HH.out.top
 obtain⟨col,v1,v2,v3,v6,v7,v8,hds⟩:=HH.out.ds
 obtain⟨A2,c2,BJ,e2,hP⟩:=hds.six.p6
 subst e2
 obtain⟨T0,d0,zY,e1,hPT⟩:=hds.six.p1
 subst e1
 clear hPT
 have V7:=AA hds;have NT:=AA hP;have HO:=AA hds.out;have ME:=AA hds.ne
 have Vi:Hid (∀k,(Value.slice A2 m.fns.length c2).ownBlock=some k→k≠R.rg):=AA (fun k hk e=>by have h1:=(hP.lt k hk).1;have h2:=hds.l2;omega)
 have UC:=AA (HH.out.kH (hP.far (by decide) hds.zz))
 have HOW:Hid (∀k,(Value.slice A2 m.fns.length c2).ownBlock=some k→k<wr.heap.size):=AA (fun k hk=>(hP.lt k hk).2)
 clear hds hP
 go_cut [2] from 7 to 18 (fun a2 wx=>qY R wr m all q a2 wx)
 case first=>
  refine Aa ?_
  have PC:=AA (P0.out.drew)
  refine wp_region_held_drew (S:=fun W=>W.cell? ⟨R.gr,0,none⟩=some (.pointer (some ⟨R.rg,0,none⟩))∧W.cell? ⟨R.rg,0,none⟩=some (.pointer (some ⟨R.og,0,none⟩))∧W.cell? ⟨R.og,0,none⟩=some (.slice T0 m.types.length d0)) (by kernel_rfl) ⟨Ao.gr HH.out PC.out,PC.out.r0,(HO.out.keep PC.out.kp ME.out).cell 0⟩ (fun hHeld=> ?_)
  generalize wr.drew=CP at*
  refine AB (i:=0) (v:= ?_) rfl (by kernel_rfl) (fun _ _ _ h=>h) (by intro w hSw;(try dsimp only at hSw);go_simp;try with_reducible rfl) hHeld ?_
  refine AB (i:=1) (v:= ?_) rfl (by kernel_rfl) (fun _ _ _ h=>h) (by intro w hSw;(try dsimp only at hSw);go_simp;try with_reducible rfl) hHeld ?_
  refine AB (i:=2) (v:= ?_) rfl (by kernel_rfl) (fun _ _ _ h=>h) (by intro w hSw;(try dsimp only at hSw);go_simp;try with_reducible rfl) hHeld ?_
  refine AB (i:=3) (v:= ?_) rfl (by kernel_rfl) (fun _ _ _ h=>h) (by intro w hSw;(try dsimp only at hSw);go_simp;try with_reducible rfl) hHeld ?_
  refine AB (i:=4) (v:= ?_) rfl (by kernel_rfl) (fun _ _ _ h=>h) (by intro w hSw;(try dsimp only at hSw);go_simp;try with_reducible rfl) hHeld ?_
  refine AB (i:=5) (v:= ?_) rfl (by kernel_rfl) (fun _ _ _ h=>h) (by intro w hSw;(try dsimp only at hSw);go_simp;try with_reducible rfl) hHeld ?_
  refine AB (i:=6) (v:= ?_) rfl (by kernel_rfl) (fun _ _ _ h=>h) (by intro w hSw;(try dsimp only at hSw);go_simp;try with_reducible rfl) hHeld ?_
  refine AB (i:=7) (v:= ?_) rfl (by kernel_rfl) (fun _ _ _ h=>h) (by intro w hSw;(try dsimp only at hSw);go_simp;try with_reducible rfl) hHeld ?_
  refine AB (i:=8) (v:= ?_) rfl (by kernel_rfl) (fun _ _ _ h=>h) (by intro w hSw;(try dsimp only at hSw);go_simp;try with_reducible rfl) hHeld ?_
  refine AB (i:=9) (v:= ?_) rfl (by kernel_rfl) (fun _ _ _ h=>h) (by intro w hSw;(try dsimp only at hSw);go_simp;try with_reducible rfl) hHeld ?_
  refine wpAnyH_ready (rs:= [10,12]) (by kernel_rfl) (by simp) ?_
  refine AllReadyH.cons rfl (fun K hK=> ?_) (AllReadyH.cons rfl (fun K hK=> ?_) AllReadyH.nil)
  ·go_simp
   go_at_call 103
   refine(NQ (l:=R.l) (p:=q) m.types.length (by omega) (Ao.inp HH.out PC.out) PC.out.rd HH.out.i2).mono ?_
   rintro e Js ⟨hk,⟨v,bs,q1,rfl,⟨u,rfl,rfl,hu⟩,ha,hr⟩ | ⟨en,a1,h1,rfl⟩⟩
   case inr=>
    have JF:=AA (HH.out.OW (PC.out.kp.trans hk))
    exact BG.thrown (fun ax hd=>And.intro hd (And.intro JF.out (Or.inr ⟨_,_,h1,rfl⟩)))
   have PD:=AA (PC.out.V6 hk hr)
   have HUU:=AA hu;have HAU:=AA ha
   refine hK.out _ _ ⟨Ao.gr HH.out PD.out,PD.out.r0,(HO.out.keep PD.out.kp ME.out).cell 0⟩ (fun Ag=> ?_)
   clear hK K hk hr hu ha
   refine AB (i:=11) (v:= ?_) rfl (by kernel_rfl) (fun _ _ _ h=>h) (by intro w hSw;(try dsimp only at hSw);go_simp;try with_reducible rfl) Ag ?_
   refine wpAnyH_ready (rs:= [12]) (by kernel_rfl) (by simp) ?_
   refine AllReadyH.cons rfl (fun K hK=> ?_) AllReadyH.nil
   go_simp
   have PA:=AA (PD.out.alloc (.cells #[.int .i64 0,.string ⟨#[]⟩,.slice none 0 0] 56))
   have Wz:Hid (AL (Js.alloc (.cells #[.int .i64 0,.string ⟨#[]⟩,.slice none 0 0] 56)) Js.heap.size 56 [.int .i64 0,.string ⟨#[]⟩,.slice none 0 0]):=AA (AL.new Js _ _)
   have aY:wr.heap.size≤Js.heap.size:=PD.out.kp.size
   refine hK.out _ _ ⟨Ao.gr HH.out PA.out,PA.out.r0,(HO.out.keep PA.out.kp ME.out).cell 0⟩ (fun CO=> ?_)
   clear hK K
   generalize hwn:Js.alloc (.cells #[.int .i64 0,.string ⟨#[]⟩,.slice none 0 0] 56)=wA at*
   clear hwn
   generalize hgn:Js.heap.size=gF at*
   refine wpAnyH_ready (rs:= [13]) (by kernel_rfl) (by simp) ?_
   refine AllReadyH.cons rfl (fun K hK=> ?_) AllReadyH.nil
   have hgr:gF≠R.rg:=by omega
   have s0:=Wz.out.cell 0;have s1:=Wz.out.cell 1;have s2:=Wz.out.cell 2;have t0:=Wz.out.frozen 0;have t1:=Wz.out.frozen 1;have t2:=Wz.out.frozen 2
   go_simp
   have PS:Hid (Ao R wr (((wA.setCell ⟨gF,0,none⟩ (.int .i64 (u:Int))).setCell ⟨gF,1,none⟩ (.string ⟨#[]⟩)).setCell ⟨gF,2,none⟩ (.slice none 0 0)) all q1):=AA (Ao.set (a:=⟨gF,2,none⟩) (Ao.set (a:=⟨gF,1,none⟩) (Ao.set (a:=⟨gF,0,none⟩) PA.out aY hgr (.int .i64 (u:Int))) aY hgr (.string ⟨#[]⟩)) aY hgr (.slice none 0 0))
   refine hK.out _ _ ⟨Ao.gr HH.out PS.out,PS.out.r0,(HO.out.keep PS.out.kp ME.out).cell 0⟩ (fun JY=> ?_)
   clear hK K s0 s1 s2 t0 t1 t2
   refine wpAnyH_done (by kernel_rfl) ?_ _
   refine BG.normal ?_
   have cu:Hid (qY R wr m all q (.pointer (some ⟨gF,0,none⟩)) (((wA.setCell ⟨gF,0,none⟩ (.int .i64 (u:Int))).setCell ⟨gF,1,none⟩ (.string ⟨#[]⟩)).setCell ⟨gF,2,none⟩ (.slice none 0 0))):=AA ⟨gF,u,q1,rfl,PS.out,aY,(((Wz.out.set 0 _).set 1 _).set 2 _),HUU.out,HAU.out⟩
   go_wp2_with fail
   go_meet
   exact cu.out
  ·go_simp
   have PA:=AA (PC.out.alloc (.cells #[.int .i64 0,.string ⟨#[]⟩,.slice none 0 0] 56))
   have Wz:Hid (AL (CP.alloc (.cells #[.int .i64 0,.string ⟨#[]⟩,.slice none 0 0] 56)) CP.heap.size 56 [.int .i64 0,.string ⟨#[]⟩,.slice none 0 0]):=AA (AL.new CP _ _)
   have aY:wr.heap.size≤CP.heap.size:=PC.out.kp.size
   refine hK.out _ _ ⟨Ao.gr HH.out PA.out,PA.out.r0,(HO.out.keep PA.out.kp ME.out).cell 0⟩ (fun Ag=> ?_)
   clear hK K
   generalize hwn:CP.alloc (.cells #[.int .i64 0,.string ⟨#[]⟩,.slice none 0 0] 56)=wA at*
   clear hwn
   generalize hgn:CP.heap.size=gF at*
   refine wpAnyH_ready (rs:= [10]) (by kernel_rfl) (by simp) ?_
   refine AllReadyH.cons rfl (fun K hK=> ?_) AllReadyH.nil
   go_simp
   go_at_call 103
   refine(NQ (l:=R.l) (p:=q) m.types.length (by omega) (Ao.inp HH.out PA.out) PA.out.rd HH.out.i2).mono ?_
   rintro e Js ⟨hk,⟨v,bs,q1,rfl,⟨u,rfl,rfl,hu⟩,ha,hr⟩ | ⟨en,a1,h1,rfl⟩⟩
   case inr=>
    have JF:=AA (HH.out.OW (PA.out.kp.trans hk))
    exact BG.thrown (fun ax hd=>And.intro hd (And.intro JF.out (Or.inr ⟨_,_,h1,rfl⟩)))
   have PD:=AA (PA.out.V6 hk hr)
   have HUU:=AA hu;have HAU:=AA ha
   have HXB:=AA (Wz.out.keep hk (show gF≠R.rg by omega))
   refine hK.out _ _ ⟨Ao.gr HH.out PD.out,PD.out.r0,(HO.out.keep PD.out.kp ME.out).cell 0⟩ (fun CO=> ?_)
   clear hK K hk hr hu ha
   refine AB (i:=11) (v:= ?_) rfl (by kernel_rfl) (fun _ _ _ h=>h) (by intro w hSw;(try dsimp only at hSw);go_simp;try with_reducible rfl) CO ?_
   refine wpAnyH_ready (rs:= [13]) (by kernel_rfl) (by simp) ?_
   refine AllReadyH.cons rfl (fun K hK=> ?_) AllReadyH.nil
   have hgr:gF≠R.rg:=by omega
   have s0:=HXB.out.cell 0;have s1:=HXB.out.cell 1;have s2:=HXB.out.cell 2;have t0:=HXB.out.frozen 0;have t1:=HXB.out.frozen 1;have t2:=HXB.out.frozen 2
   go_simp
   have PS:Hid (Ao R wr (((Js.setCell ⟨gF,0,none⟩ (.int .i64 (u:Int))).setCell ⟨gF,1,none⟩ (.string ⟨#[]⟩)).setCell ⟨gF,2,none⟩ (.slice none 0 0)) all q1):=AA (Ao.set (a:=⟨gF,2,none⟩) (Ao.set (a:=⟨gF,1,none⟩) (Ao.set (a:=⟨gF,0,none⟩) PD.out aY hgr (.int .i64 (u:Int))) aY hgr (.string ⟨#[]⟩)) aY hgr (.slice none 0 0))
   refine hK.out _ _ ⟨Ao.gr HH.out PS.out,PS.out.r0,(HO.out.keep PS.out.kp ME.out).cell 0⟩ (fun JY=> ?_)
   clear hK K s0 s1 s2 t0 t1 t2
   refine wpAnyH_done (by kernel_rfl) ?_ _
   refine BG.normal ?_
   have cu:Hid (qY R wr m all q (.pointer (some ⟨gF,0,none⟩)) (((Js.setCell ⟨gF,0,none⟩ (.int .i64 (u:Int))).setCell ⟨gF,1,none⟩ (.string ⟨#[]⟩)).setCell ⟨gF,2,none⟩ (.slice none 0 0))):=AA ⟨gF,u,q1,rfl,PS.out,aY,(((HXB.out.set 0 _).set 1 _).set 2 _),HUU.out,HAU.out⟩
   go_wp2_with fail
   go_meet
   exact cu.out
 case rest=>
  obtain⟨gF,u,q1,rfl,hp1,aY,hF1,hu,hau⟩:=hcut
  have P1:=AA hp1;have ZX:=AA hF1;have HU1:=AA hu;have HAU:=AA hau
  obtain⟨ty,hty⟩: ∃ty,m.types[u]?=some ty:=⟨_,List.getElem?_eq_getElem hu⟩
  have HTY:=AA hty
  clear hp1 hF1 hu hau hty
  go_upto_region 2 with fail
  refine Aa ?_
  have PC:=AA (P1.out.drew)
  have HFC:Hid (AL wc.drew gF 56 [.int .i64 (u:Int),.string ⟨#[]⟩,.slice none 0 0]):=AA (ZX.out.drewN 1)
  refine wp_region_held_drew (S:=fun W=>W.cell? ⟨R.gr,0,none⟩=some (.pointer (some ⟨R.rg,0,none⟩))∧W.cell? ⟨gF,0,none⟩=some (.int .i64 (u:Int))) (by kernel_rfl) ⟨Ao.gr HH.out PC.out,HFC.out.cell 0⟩ (fun hHeld=> ?_)
  generalize wc.drew=CP at*
  refine AB (i:=0) (v:= ?_) rfl (by kernel_rfl) (fun _ _ _ h=>h) (by intro w hSw;(try dsimp only at hSw);go_simp;try with_reducible rfl) hHeld ?_
  refine AB (i:=1) (v:= ?_) rfl (by kernel_rfl) (fun _ _ _ h=>h) (by intro w hSw;(try dsimp only at hSw);go_simp;try with_reducible rfl) hHeld ?_
  refine AB (i:=2) (v:= ?_) rfl (by kernel_rfl) (fun _ _ _ h=>h) (by intro w hSw;(try dsimp only at hSw);go_simp;try with_reducible rfl) hHeld ?_
  refine AB (i:=3) (v:= ?_) rfl (by kernel_rfl) (fun _ _ _ h=>h) (by intro w hSw;(try dsimp only at hSw);go_simp;try with_reducible rfl) hHeld ?_
  refine AB (i:=4) (v:= ?_) rfl (by kernel_rfl) (fun _ _ _ h=>h) (by intro w hSw;(try dsimp only at hSw);go_simp;try with_reducible rfl) hHeld ?_
  refine AB (i:=5) (v:= ?_) rfl (by kernel_rfl) (fun _ _ _ h=>h) (by intro w hSw;(try dsimp only at hSw);go_simp;try with_reducible rfl) hHeld ?_
  refine wpAnyH_ready (rs:= [6]) (by kernel_rfl) (by simp) ?_
  refine AllReadyH.cons rfl (fun K hK=> ?_) AllReadyH.nil
  obtain⟨x1,x2,x3,x6,x7,x8,hbk,hrt,_,_,⟨T,d,rfl,hcp⟩,_⟩:=(PC.out.hr HH.out).out
  go_simp
  go_at_call 120
  refine(u_ R.rg R.og R.B m.types T d u ty _ PC.out.r0 (hbk.cell 0) hrt HTY.out (by have:=htp _ (List.mem_of_getElem? HTY.out);omega)).mono ?_
  rintro e w' ⟨rfl,rfl⟩
  refine hK.out _ _ hHeld (fun Ag=> ?_)
  clear hK K hbk hrt hcp
  refine wpAnyH_ready (rs:= [7]) (by kernel_rfl) (by simp) ?_
  refine AllReadyH.cons rfl (fun K hK=> ?_) AllReadyH.nil
  go_simp
  go_at_call 101
  refine(PG (l:=R.l) (64-ty.p.size) (by omega) (Ao.inp HH.out PC.out) PC.out.rd HH.out.i2).mono ?_
  rintro e Rn ⟨hk,⟨v,bs,q2,rfl,⟨s,rfl,rfl,hs,hsz⟩,ha,hr⟩ | ⟨en,a1,h1,rfl⟩⟩
  case inr=>
   have JF:=AA (HH.out.OW (PC.out.kp.trans hk))
   exact BG.thrown (fun ax hd=>And.intro hd (And.intro JF.out (Or.inr ⟨_,_,h1,rfl⟩)))
  have PD:=AA (PC.out.V6 hk hr)
  have HFD:=AA (HFC.out.keep hk (show gF≠R.rg by omega))
  have HSS:=AA hs;have HSZ:=AA hsz;have HAS:=AA ha
  refine hK.out _ _ ⟨Ao.gr HH.out PD.out,HFD.out.cell 0⟩ (fun CO=> ?_)
  clear hK K hk hr ha hs hsz
  refine AB (i:=8) (v:= ?_) rfl (by kernel_rfl) (fun _ _ _ h=>h) (by intro w hSw;(try dsimp only at hSw);go_simp;try with_reducible rfl) CO ?_
  refine wpAnyH_ready (rs:= [9]) (by kernel_rfl) (by simp) ?_
  refine AllReadyH.cons rfl (fun K hK=> ?_) AllReadyH.nil
  have s1:=HFD.out.cell 1;have t1:=HFD.out.frozen 1
  go_simp
  have PE:Hid (Ao R wr (Rn.setCell ⟨gF,1,none⟩ (.string s)) all q2):=AA (Ao.set (a:=⟨gF,1,none⟩) PD.out aY (show gF≠R.rg by omega) _)
  have kV:Hid (AL (Rn.setCell ⟨gF,1,none⟩ (.string s)) gF 56 [.int .i64 (u:Int),.string s,.slice none 0 0]):=AA (HFD.out.set 1 _)
  refine hK.out _ _ ⟨Ao.gr HH.out PE.out,kV.out.cell 0⟩ (fun JY=> ?_)
  clear hK K s1 t1
  refine wpAnyH_done (by kernel_rfl) ?_ _
  refine BG.normal ?_
  generalize hwn:World.setCell _ _ _=w5 at*
  clear hwn PC PD HFC HFD hHeld Ag CO JY
  have ag:=Ao.gr HH.out PE.out
  have HNM:=AA (Sg (l:=R.l) (B:=R.Bi) (N:=153) (cap:= #[.pointer (some ⟨R.gr,0,none⟩)]) (Ao.inp HH.out PE.out) PE.out.rd zx (fun k=>k≠R.rg) (fun u w'=>u≤2048∧all+u≤16384∧w'=w5.drew.setCell ⟨R.rg,1,none⟩ (.int .i64 (all+u)))
   (fun u hu=>(zy u hu h0 h1 q2 w5.drew (Ao.gr HH.out PE.out.drew) PE.out.drew.rd).mono (fun e w' hh=>by
    rcases hh with⟨h1,h2⟩ | ⟨h1,h2⟩
    ·exact .inl ⟨h1,h2⟩
    ·exact .inr ⟨h1,((Keep.refl _ _).drew).trans h2⟩))
   (fun u w' hh=>⟨all+u,by rw [hh.2.2];exact AL.set PE.out.drew.rd 1 _⟩))
  go_wp2_with fail
  refine HNM.out.mono ?_
  rintro e w6 (⟨n1,q3,wz,huv,⟨hn1,hn2,hwz⟩,nD,rfl⟩ | ⟨⟨en,a1,hne,rfl⟩,hk⟩)
  case inr=>
   have H1:=AA hne;have JF:=AA (HH.out.OW (PE.out.kp.trans hk));clear hne hk
   go_wp2_with fail
   exact⟨rfl,JF.out,.inr ⟨_,_,H1.out,rfl⟩⟩
  have P6:Hid (Ao R wr w6 (all+n1) q3):=AA (by rw [nD,hwz];exact⟨((PE.out.kp.drew).setCell (fun h=>h rfl) _).setCell (fun h=>h rfl) _,AL.set (AL.set PE.out.drew.rd 1 _) 3 _⟩)
  have HF6:Hid (AL w6 gF 56 [.int .i64 (u:Int),.string s,.slice none 0 0]):=AA (by rw [nD,hwz];exact((kV.out.drewN 1).far (p:=⟨R.rg,1,none⟩) (show gF≠R.rg by omega) _).far (p:=⟨R.rg,3,none⟩) (show gF≠R.rg by omega) _)
  have HAN:=AA (NP huv)
  have hz:wrap64 (n1:Int)=n1:=by unfold wrap64;omega
  have NS:=AA hn1;have HN2:=AA hn2
  have HI0:Hid (FnI R wr gF (u:Int) s q3 (all+n1) 0 w6):=AA ⟨[],q3,none,0,[],P6.out,HF6.out,Gc.nil _ _ _ _ _,rfl,K_.refl HAN.out.le,fun x hx=>absurd hx (by simp)⟩
  rw [hz]
  clear hz huv hn1 hn2 hwz nD ag PE kV HNM
  go_wp2_with fail
  refine vM HH aY hBi vN (t:=(u:Int)) (loc:=s) (p0:=q3) (all:=all+n1) (M:=n1) NS.out HI0 _ _ _ _ _ _ _ _ _ _ _ _ _ _ _ _ _ _ _ _ _ _ _ _ _ _ _ _ _ _ _ _ _ _ _ _ _ _ _ _ _ _ _ _ _ _ _ _ _ _ _ _ _ _ _ _ _ _ _ _ _ _ _ _ _ _ _ _ _ _ _ _ _ _ _ _ _ _ _ _ _ (AA ?_) (AA ?_)
  ·intro en a1 ax wx hne hd hk
   exact And.intro hd (And.intro hk (Or.inr ⟨en,a1,hne,rfl⟩))
  intro t0 t1 t2 t3 t4 t5 t6 t7 t8 t9 t10 t11 t12 t13 t14 t15 t16 t17 t18 t19 t20 t21 t22 t23 t24 t25 t26 t27 t28 t29 t30 t31 t32 t33 t34 t35 tw hpt
  have wm:=AA hpt
  clear hpt
  obtain⟨code,q4,Ac,cc,Gd,zM,hF7,hc7,hcl,hac,hck⟩:=wm.out
  have P7:=AA zM;have HF7:=AA hF7;have HCR:=AA hc7.reads;have HLC:=AA hcl;have HAC:=AA hac;have HCK:=AA hck
  have hnc:n1≤2048:=NS.out
  have NR:Hid (K_ R.l q (XF ⟨(u:Int),s,code⟩) q4):=AA (by unfold XF;dsimp only;rw [hcl];exact((HAU.out.trans HAS.out).trans HAN.out).trans hac)
  have Qv:Hid (Bq s (64-J3 m (u:Int))=0):=AA (by
   have hpl:J3 m (u:Int)=ty.p.size:=by unfold J3;rw [Int.toNat_natCast,HTY.out]
   rw [hpl];exact HSS.out)
  have HC1:Hid (code.length≤2048):=AA (by rw [hcl];exact NS.out)
  have jr:Hid (all+(code.length:Int)≤16384):=AA (by rw [hcl];exact HN2.out)
  have Tv:Hid ((Value.slice A2 m.fns.length c2).ownBlock≠some gF):=AA (fun e=>by have:=HOW.out _ e;omega)
  have LA:Hid (gF≠R.og):=AA (by omega)
  have HBT:Hid (Below tw.heap.size tw tw):=AA (Below.refl _ _)
  clear zM hF7 hc7 hcl hac hck wm HI0 P6 HF6
  go_upto_region 11 with fail
  obtain⟨i0,hi0,hz,hs',hby⟩:=info_parts Y_
  refine Aa ?_
  have GN:Hid (Ao R wr tw.drew (all+n1) q4):=AA P7.out.drew
  have DJ:Hid (AL tw.drew (gF) 56 [.int .i64 (u:Int),.string s,.slice Ac n1 cc]):=AA (HF7.out.drewN 1)
  refine wp_region_held_drew (S:=fun W=>W.cell? ⟨R.gr,0,none⟩=some (.pointer (some ⟨R.rg,0,none⟩))∧W.cell? ⟨R.rg,0,none⟩=some (.pointer (some ⟨R.og,0,none⟩))∧W.cell? ⟨gF,0,none⟩=some (.int .i64 (u:Int))∧W.cell? ⟨gF,1,none⟩=some (.string s)∧W.cell? ⟨gF,2,none⟩=some (.slice Ac n1 cc)) (by kernel_rfl) ⟨Ao.gr HH.out GN.out,GN.out.r0,DJ.out.cell 0,DJ.out.cell 1,DJ.out.cell 2⟩ (fun hHeld=> ?_)
  have vO:Hid (Below tw.heap.size tw tw.drew):=AA HBT.out.drew
  generalize tw.drew=CP at*
  refine AB (i:=0) (v:= ?_) rfl (by kernel_rfl) (fun _ _ _ h=>h) (by intro w hSw;(try dsimp only at hSw);go_simp;try with_reducible rfl) hHeld ?_
  refine AB (i:=1) (v:= ?_) rfl (by kernel_rfl) (fun _ _ _ h=>h) (by intro w hSw;(try dsimp only at hSw);go_simp;try with_reducible rfl) hHeld ?_
  refine AB (i:=2) (v:= ?_) rfl (by kernel_rfl) (fun _ _ _ h=>h) (by intro w hSw;(try dsimp only at hSw);go_simp;try with_reducible rfl) hHeld ?_
  refine AB (i:=3) (v:= ?_) rfl (by kernel_rfl) (fun _ _ _ h=>h) (by intro w hSw;(try dsimp only at hSw);go_simp;try with_reducible rfl) hHeld ?_
  refine AB (i:=4) (v:= ?_) rfl (by kernel_rfl) (fun _ _ _ h=>h) (by intro w hSw;(try dsimp only at hSw);go_simp;try with_reducible rfl) hHeld ?_
  refine AB (i:=5) (v:= ?_) rfl (by kernel_rfl) (fun _ _ _ h=>h) (by intro w hSw;(try dsimp only at hSw);go_simp;try with_reducible rfl) hHeld ?_
  refine AB (i:=6) (v:= ?_) rfl (by kernel_rfl) (fun _ _ _ h=>h) (by intro w hSw;(try dsimp only at hSw);go_simp;try with_reducible rfl) hHeld ?_
  refine AB (i:=7) (v:= ?_) rfl (by kernel_rfl) (fun _ _ _ h=>h) (by intro w hSw;(try dsimp only at hSw);go_simp;try with_reducible rfl) hHeld ?_
  refine AB (i:=8) (v:= ?_) rfl (by kernel_rfl) (fun _ _ _ h=>h) (by intro w hSw;(try dsimp only at hSw);go_simp;try with_reducible rfl) hHeld ?_
  refine AB (i:=9) (v:= ?_) rfl (by kernel_rfl) (fun _ _ _ h=>h) (by intro w hSw;(try dsimp only at hSw);go_simp;try with_reducible rfl) hHeld ?_
  refine AB (i:=10) (v:= ?_) rfl (by kernel_rfl) (fun _ _ _ h=>h) (by intro w hSw;(try dsimp only at hSw);go_simp;try with_reducible rfl) hHeld ?_
  refine AB (i:=11) (v:= ?_) rfl (by kernel_rfl) (fun _ _ _ h=>h) (by intro w hSw;(try dsimp only at hSw);go_simp;try with_reducible rfl) hHeld ?_
  refine AB (i:=13) (v:= ?_) rfl (by kernel_rfl) (fun _ _ _ h=>h) (by intro w hSw;(try dsimp only at hSw);go_simp;try with_reducible rfl) hHeld ?_
  refine wpAnyH_ready (rs:= [12,14]) (by kernel_rfl) (by simp) ?_
  refine AllReadyH.cons rfl (fun K hK=> ?_) (AllReadyH.cons rfl (fun K hK=> ?_) AllReadyH.nil)
  ·have gl:=(HO.out.keep GN.out.kp ME.out).q 5 rfl
   go_simp
   refine hK.out _ _ ⟨Ao.gr HH.out GN.out,GN.out.r0,DJ.out.cell 0,DJ.out.cell 1,DJ.out.cell 2⟩ (fun Rm=> ?_)
   clear hK K gl
   refine wpAnyH_ready (rs:= [14]) (by kernel_rfl) (by simp) ?_
   refine AllReadyH.cons rfl (fun K hK=> ?_) AllReadyH.nil
   go_simp
   have N_:Hid (Ao R wr (CP.alloc (.cells #[.int .i64 (u:Int),.string s,.slice Ac n1 cc] 56)) (all+n1) q4):=AA (GN.out.alloc _)
   have GQ:Hid (AL (CP.alloc (.cells #[.int .i64 (u:Int),.string s,.slice Ac n1 cc] 56)) (gF) 56 [.int .i64 (u:Int),.string s,.slice Ac n1 cc]):=AA (DJ.out.alloc _)
   have HRW:Hid (Row (CP.alloc (.cells #[.int .i64 (u:Int),.string s,.slice Ac n1 cc] 56)) (CP.heap.size+1) (some ⟨CP.heap.size,0,none⟩) [.int .i64 (u:Int),.string s,.slice Ac n1 cc]):=AA (Ak CP [.int .i64 (u:Int),.string s,.slice Ac n1 cc] 56)
   have ACI:Hid (Below tw.heap.size tw (CP.alloc (.cells #[.int .i64 (u:Int),.string s,.slice Ac n1 cc] 56))):=AA (vO.out.alloc vO.out.size _)
   refine hK.out _ _ ⟨Ao.gr HH.out N_.out,N_.out.r0,GQ.out.cell 0,GQ.out.cell 1,GQ.out.cell 2⟩ (fun OA=> ?_)
   clear hK K
   generalize hwn:CP.alloc (.cells #[.int .i64 (u:Int),.string s,.slice Ac n1 cc] 56)=Rn at*
   clear hwn
   refine wpAnyH_ready (rs:= [15]) (by kernel_rfl) (by simp) ?_
   refine AllReadyH.cons rfl (fun K hK=> ?_) AllReadyH.nil
   refine Au rfl (.tmp 78) (.tmp 80) 25 rfl R.B 56 i0 _ 3 48 underlying25 hi0 hz hs' hby rfl (by omega) _ m.fns.length BJ rfl (BD NT.out.own N_.out.kp Vi.out) (CP.heap.size+1) _ 1 1 [.int .i64 (u:Int),.string s,.slice Ac n1 cc] rfl rfl HRW.out (by intro u hu;simp at hu;rcases hu with rfl | rfl | rfl<;>rfl) (by unfold maxLen;omega) (by omega) (by have:=N_.out.kp.size;omega) ?_
   intro A4 c4 cO h2 h3 h4
   have EZ:=Ao.cB HH.out N_.out UC.out h3
   have LC:=EZ.2.2 _ HO.out
   have ET:Hid (AL cO (gF) 56 [.int .i64 (u:Int),.string s,.slice Ac n1 cc]):=AA ((h3.block _ GQ.out.lt (fun e=>Tv.out e.symm)).trans GQ.out)
   have Ir:=AA LC;have fq:=AA EZ;have H2:=AA h2;have H3:=AA h3;have H4:=AA h4
   refine hK.out _ _ ⟨EZ.1.cell 0,AL.cell EZ.2.1 0,ET.out.cell 0,ET.out.cell 1,ET.out.cell 2⟩ (fun Ay=> ?_)
   clear hK K h2 h3 h4 EZ LC
   refine AB (i:=16) (v:= ?_) rfl (by kernel_rfl) (fun _ _ _ h=>h) (by intro w hSw;(try dsimp only at hSw);go_simp;try with_reducible rfl) Ay ?_
   refine AB (i:=17) (v:= ?_) rfl (by kernel_rfl) (fun _ _ _ h=>h) (by intro w hSw;(try dsimp only at hSw);go_simp;try with_reducible rfl) Ay ?_
   refine wpAnyH_ready (rs:= [18]) (by kernel_rfl) (by simp) ?_
   refine AllReadyH.cons rfl (fun K hK=> ?_) AllReadyH.nil
   have ys:=Ir.out.cell 5;have yf:=Ir.out.frozen 5
   go_simp
   have HST:Hid (HR R (cO.setCell ⟨R.og,5,none⟩ (.slice A4 (m.fns.length+1) c4)) ({m with fns:=m.fns++ [⟨(u:Int),s,code⟩]}) (all+n1) q4):=AA (HH.out.step (DS.eG (m:=m) V7.out NT.out N_.out.kp N_.out.rd (lo:=gF+1) (hi:=tw.heap.size) (x:=⟨(u:Int),s,code⟩) (LG.2 ⟨_,rfl,(by have:=HU1.out;unfold Rd.ER;dsimp only;omega),(show s.size≤140737488351232 by have:=HSZ.out;omega),Rd.below HCR.out ACI.out (Nat.le_refl _)⟩) (by omega) ACI.out.size H2.out H3.out H4.out))
   refine hK.out _ _ ⟨HST.out.box.cell 0,AL.cell HST.out.rd 0,(ET.out.far (p:=⟨R.og,5,none⟩) LA.out _).cell 0,(ET.out.far (p:=⟨R.og,5,none⟩) LA.out _).cell 1,(ET.out.far (p:=⟨R.og,5,none⟩) LA.out _).cell 2⟩ (fun Iq=> ?_)
   clear hK K ys yf
   refine wpAnyH_done (by kernel_rfl) ?_ _
   refine BG.normal ?_
   have HDN:Hid (HQ R _ {m with fns:=m.fns++ [⟨(u:Int),s,code⟩]} (all+(code.length:Int)) q4):=AA (by rw [HLC.out];exact HST.out.done)
   have HKP:=AA HST.out.kp
   go_wp2_with fail
   go_end0
   first | exact⟨HKP.out,.inl ⟨⟨(u:Int),s,code⟩,q4,rfl,HDN.out,NR.out,⟨by show(0:Int)≤u;omega,by show(u:Int)<m.types.length;have:=HU1.out;omega⟩,Qv.out,HC1.out,jr.out,HCK.out⟩⟩ | exact⟨HKP.out,.inl ⟨⟨(u:Int),s,code⟩,q4,HDN.out,NR.out,⟨by show(0:Int)≤u;omega,by show(u:Int)<m.types.length;have:=HU1.out;omega⟩,Qv.out,HC1.out,jr.out,HCK.out⟩⟩
  ·go_simp
   have Pk:Hid (Ao R wr (CP.alloc (.cells #[.int .i64 (u:Int),.string s,.slice Ac n1 cc] 56)) (all+n1) q4):=AA (GN.out.alloc _)
   have Dr:Hid (AL (CP.alloc (.cells #[.int .i64 (u:Int),.string s,.slice Ac n1 cc] 56)) (gF) 56 [.int .i64 (u:Int),.string s,.slice Ac n1 cc]):=AA (DJ.out.alloc _)
   have HRW:Hid (Row (CP.alloc (.cells #[.int .i64 (u:Int),.string s,.slice Ac n1 cc] 56)) (CP.heap.size+1) (some ⟨CP.heap.size,0,none⟩) [.int .i64 (u:Int),.string s,.slice Ac n1 cc]):=AA (Ak CP [.int .i64 (u:Int),.string s,.slice Ac n1 cc] 56)
   have ACN:Hid (Below tw.heap.size tw (CP.alloc (.cells #[.int .i64 (u:Int),.string s,.slice Ac n1 cc] 56))):=AA (vO.out.alloc vO.out.size _)
   refine hK.out _ _ ⟨Ao.gr HH.out Pk.out,Pk.out.r0,Dr.out.cell 0,Dr.out.cell 1,Dr.out.cell 2⟩ (fun fu=> ?_)
   clear hK K
   generalize hwn:CP.alloc (.cells #[.int .i64 (u:Int),.string s,.slice Ac n1 cc] 56)=kI at*
   clear hwn
   refine wpAnyH_ready (rs:= [12]) (by kernel_rfl) (by simp) ?_
   refine AllReadyH.cons rfl (fun K hK=> ?_) AllReadyH.nil
   have gl:=(HO.out.keep Pk.out.kp ME.out).q 5 rfl
   go_simp
   refine hK.out _ _ ⟨Ao.gr HH.out Pk.out,Pk.out.r0,Dr.out.cell 0,Dr.out.cell 1,Dr.out.cell 2⟩ (fun OB=> ?_)
   clear hK K gl
   refine wpAnyH_ready (rs:= [15]) (by kernel_rfl) (by simp) ?_
   refine AllReadyH.cons rfl (fun K hK=> ?_) AllReadyH.nil
   refine Au rfl (.tmp 78) (.tmp 80) 25 rfl R.B 56 i0 _ 3 48 underlying25 hi0 hz hs' hby rfl (by omega) _ m.fns.length BJ rfl (BD NT.out.own Pk.out.kp Vi.out) (CP.heap.size+1) _ 1 1 [.int .i64 (u:Int),.string s,.slice Ac n1 cc] rfl rfl HRW.out (by intro u hu;simp at hu;rcases hu with rfl | rfl | rfl<;>rfl) (by unfold maxLen;omega) (by omega) (by have:=Pk.out.kp.size;omega) ?_
   intro A4 c4 wh h2 h3 h4
   have EZ:=Ao.cB HH.out Pk.out UC.out h3
   have LC:=EZ.2.2 _ HO.out
   have IC:Hid (AL wh (gF) 56 [.int .i64 (u:Int),.string s,.slice Ac n1 cc]):=AA ((h3.block _ Dr.out.lt (fun e=>Tv.out e.symm)).trans Dr.out)
   have Ir:=AA LC;have fq:=AA EZ;have H2:=AA h2;have H3:=AA h3;have H4:=AA h4
   refine hK.out _ _ ⟨EZ.1.cell 0,AL.cell EZ.2.1 0,IC.out.cell 0,IC.out.cell 1,IC.out.cell 2⟩ (fun Ay=> ?_)
   clear hK K h2 h3 h4 EZ LC
   refine AB (i:=16) (v:= ?_) rfl (by kernel_rfl) (fun _ _ _ h=>h) (by intro w hSw;(try dsimp only at hSw);go_simp;try with_reducible rfl) Ay ?_
   refine AB (i:=17) (v:= ?_) rfl (by kernel_rfl) (fun _ _ _ h=>h) (by intro w hSw;(try dsimp only at hSw);go_simp;try with_reducible rfl) Ay ?_
   refine wpAnyH_ready (rs:= [18]) (by kernel_rfl) (by simp) ?_
   refine AllReadyH.cons rfl (fun K hK=> ?_) AllReadyH.nil
   have ys:=Ir.out.cell 5;have yf:=Ir.out.frozen 5
   go_simp
   have HST:Hid (HR R (wh.setCell ⟨R.og,5,none⟩ (.slice A4 (m.fns.length+1) c4)) ({m with fns:=m.fns++ [⟨(u:Int),s,code⟩]}) (all+n1) q4):=AA (HH.out.step (DS.eG (m:=m) V7.out NT.out Pk.out.kp Pk.out.rd (lo:=gF+1) (hi:=tw.heap.size) (x:=⟨(u:Int),s,code⟩) (LG.2 ⟨_,rfl,(by have:=HU1.out;unfold Rd.ER;dsimp only;omega),(show s.size≤140737488351232 by have:=HSZ.out;omega),Rd.below HCR.out ACN.out (Nat.le_refl _)⟩) (by omega) ACN.out.size H2.out H3.out H4.out))
   refine hK.out _ _ ⟨HST.out.box.cell 0,AL.cell HST.out.rd 0,(IC.out.far (p:=⟨R.og,5,none⟩) LA.out _).cell 0,(IC.out.far (p:=⟨R.og,5,none⟩) LA.out _).cell 1,(IC.out.far (p:=⟨R.og,5,none⟩) LA.out _).cell 2⟩ (fun Iq=> ?_)
   clear hK K ys yf
   refine wpAnyH_done (by kernel_rfl) ?_ _
   refine BG.normal ?_
   have HDN:Hid (HQ R _ {m with fns:=m.fns++ [⟨(u:Int),s,code⟩]} (all+(code.length:Int)) q4):=AA (by rw [HLC.out];exact HST.out.done)
   have HKP:=AA HST.out.kp
   go_wp2_with fail
   go_end0
   first | exact⟨HKP.out,.inl ⟨⟨(u:Int),s,code⟩,q4,rfl,HDN.out,NR.out,⟨by show(0:Int)≤u;omega,by show(u:Int)<m.types.length;have:=HU1.out;omega⟩,Qv.out,HC1.out,jr.out,HCK.out⟩⟩ | exact⟨HKP.out,.inl ⟨⟨(u:Int),s,code⟩,q4,HDN.out,NR.out,⟨by show(0:Int)≤u;omega,by show(u:Int)<m.types.length;have:=HU1.out;omega⟩,Qv.out,HC1.out,jr.out,HCK.out⟩⟩
noncomputable def dA (n:Nat):Code:=((((f64.body.map Jr).getD [])[n]?).getD .skip)
abbrev MB (m:AP) (fs:List GR) (ds:List EU) (es:List Jy):AP:= {m with fns:=fs,dat:=ds,AU:=es}
def Mv (fs:List GR):Nat:=A_ (fun f:GR=>f.code.length) fs
def FsI (R:RC) (m:AP) (p0:Nat) (b0:List UInt8) (k:Nat) (W:World):Prop:= ∃fs q,HR R W (MB m fs [] []) (Mv fs:Int) q∧fs.length=k∧K_ R.l p0 (b0++fs.flatMap XF) q∧Ad fs.length (Ye (MB m fs [] []))=0∧Mv fs≤16384
def xG (R:RC) (m:AP) (fs:List GR) (all:Int) (g2 rm:Nat) (p0:Nat) (b0:List UInt8) (k:Nat) (W:World):Prop:= ∃ds q,HR R W (MB m fs ds []) all q∧AL W g2 3 [.int .i64 (rm:Int)]∧ds.length=k∧K_ R.l p0 (b0++ds.flatMap M5) q∧Ad ds.length (Nh (MB m fs ds []))=0∧ ∀y∈ds,0≤y.at_∧y.at_≤262144∧y.b.length≤262144
def xH (R:RC) (m:AP) (fs:List GR) (ds:List EU) (all:Int) (p0:Nat) (b0:List UInt8) (k:Nat) (W:World):Prop:= ∃es q,HR R W (MB m fs ds es) all q∧es.length=k∧K_ R.l p0 (b0++es.flatMap Pp) q∧Ad es.length (Po (MB m fs ds es))=0
theorem HR.wide {R:RC} {w w3:World} {m m':AP} {all all':Int} {q q':Nat} (h:HR R w m all q) (g:Nat) (hk:Keep (KD R.B R.og R.rg R.Z) w w3) (hq:HQ {R with Z0:=R.Z,gr:=g,w0:=w,Z:=fun k=>R.Z k∨k=g} w3 m' all' q'):HR R w3 m' all' q':=by
 obtain⟨col,v1,v2,v3,v6,v7,v8,d⟩:=hq.ds
 exact h.step ⟨hk,d⟩
theorem HR.thrZ {R:RC} {w w3:World} {m:AP} {all:Int} {q:Nat} (h:HR R w m all q) (hk:Keep (KD R.B R.og R.rg R.Z) w w3):Keep (KD R.B R.og R.rg R.Z0) R.w0 w3:=h.kp.trans (hk.mono fun k hk=>⟨hk.1.imp id (h.z0 k),hk.2⟩)
set_option maxRecDepth 1000000 in
theorem AAB {R:RC} {m:AP} {p0:Nat} {b0:List UInt8} (hBi:R.Bi≤R.w0.heap.size) (vN:Hid (∀W,Below R.Bi R.w0 W→Lib.TabIs prog W "strings.asciiSpace" .u8 Lib.asciiSpaceTab)) (htl:m.types.length≤64) (htp: ∀t∈m.types,t.p.size≤8) {M:Nat} (hM:M≤128) {Wt:World} (HP:Hid (FsI R m p0 b0 0 Wt))
 (s0 s2 s3 s4 s5 s6 s7 s8 s9 s16 En EN GZ s20 Eo Ga EO s24 EP Ep Ea Eb Ec Ed E9 E_ FB FC FD FE G7 G8 G9 G_ Hf Hl s43 s44 Ho Hq Hw GI s49 Hz H_ IB s53 Gh Gi Gj Gl Gm Gn Gp Gq Gs Gt Gu Gv Ee Er s68 Fx Fy Fz s72 F4 F5 F6 F7 F8 F9 GA GD GH s82 s83 Gw Gx Gy s87 FH FI FJ FK FL FM FN FP FQ Gz G5 G6 BZ Ba Bb Bc Bd Bf Bg Bh Bj Bl Bn Bo Bp CS CU CV CW CX CY Bz B_ CB CF CG CJ BL BF BM BN BO BP BQ BR BS Tg Xx Ov Ow:Value) (Q:Exit→Act→World→Prop) (HT:Hid (∀(en a1:Int) (ax:Act) (wx:World),en≠0→ax.defers= []→Keep (KD R.B R.og R.rg R.Z0) R.w0 wx→Q (.panic (thrown en a1)) ax wx))
 (HX:Hid (∀(Tg Xx Ov Ow:Value) (wx:World),FsI R m p0 b0 M wx→Q (.exit 0) ⟨(List.toArray (s0::(.pointer (some ⟨R.gr,0,none⟩))::s2::s3::s4::s5::s6::s7::s8::s9::(.int .i64 (M:Int))::(.int .i64 (M:Int))::Tg::Xx::Ov::Ow::s16::En::EN::GZ::s20::Eo::Ga::EO::s24::EP::Ep::Ea::Eb::Ec::Ed::E9::E_::FB::FC::FD::FE::G7::G8::G9::G_::Hf::Hl::s43::s44::Ho::Hq::Hw::GI::s49::Hz::H_::IB::s53::Gh::Gi::Gj::Gl::Gm::Gn::Gp::Gq::Gs::Gt::Gu::Gv::Ee::Er::s68::Fx::Fy::Fz::s72::F4::F5::F6::F7::F8::F9::GA::GD::GH::s82::s83::Gw::Gx::Gy::s87::FH::FI::FJ::FK::FL::FM::FN::FP::FQ::Gz::G5::G6::BZ::Ba::Bb::Bc::Bd::Bf::Bg::Bh::Bj::Bl::Bn::Bo::Bp::CS::CU::CV::CW::CX::CY::Bz::B_::CB::CF::CG::CJ::BL::BF::BM::BN::BO::BP::BQ::BR::BS:: [])),[]⟩ wx)):
 Code.wp prog (Code.loop (dA 0)) Q ⟨(List.toArray (s0::(.pointer (some ⟨R.gr,0,none⟩))::s2::s3::s4::s5::s6::s7::s8::s9::(.int .i64 (M:Int))::(.int .i64 0)::Tg::Xx::Ov::Ow::s16::En::EN::GZ::s20::Eo::Ga::EO::s24::EP::Ep::Ea::Eb::Ec::Ed::E9::E_::FB::FC::FD::FE::G7::G8::G9::G_::Hf::Hl::s43::s44::Ho::Hq::Hw::GI::s49::Hz::H_::IB::s53::Gh::Gi::Gj::Gl::Gm::Gn::Gp::Gq::Gs::Gt::Gu::Gv::Ee::Er::s68::Fx::Fy::Fz::s72::F4::F5::F6::F7::F8::F9::GA::GD::GH::s82::s83::Gw::Gx::Gy::s87::FH::FI::FJ::FK::FL::FM::FN::FP::FQ::Gz::G5::G6::BZ::Ba::Bb::Bc::Bd::Bf::Bg::Bh::Bj::Bl::Bn::Bo::Bp::CS::CU::CV::CW::CX::CY::Bz::B_::CB::CF::CG::CJ::BL::BF::BM::BN::BO::BP::BQ::BR::BS:: [])),[]⟩ Wt:=by
 refine wp_loop (fun a wx=> ∃(U:Nat→Value) (k:Nat),k≤M∧FsI R m p0 b0 k wx∧a=⟨(List.toArray (s0::(.pointer (some ⟨R.gr,0,none⟩))::s2::s3::s4::s5::s6::s7::s8::s9::(.int .i64 (M:Int))::(.int .i64 (k:Int))::(U 0)::(U 1)::(U 2)::(U 3)::s16::En::EN::GZ::s20::Eo::Ga::EO::s24::EP::Ep::Ea::Eb::Ec::Ed::E9::E_::FB::FC::FD::FE::G7::G8::G9::G_::Hf::Hl::s43::s44::Ho::Hq::Hw::GI::s49::Hz::H_::IB::s53::Gh::Gi::Gj::Gl::Gm::Gn::Gp::Gq::Gs::Gt::Gu::Gv::Ee::Er::s68::Fx::Fy::Fz::s72::F4::F5::F6::F7::F8::F9::GA::GD::GH::s82::s83::Gw::Gx::Gy::s87::FH::FI::FJ::FK::FL::FM::FN::FP::FQ::Gz::G5::G6::BZ::Ba::Bb::Bc::Bd::Bf::Bg::Bh::Bj::Bl::Bn::Bo::Bp::CS::CU::CV::CW::CX::CY::Bz::B_::CB::CF::CG::CJ::BL::BF::BM::BN::BO::BP::BQ::BR::BS:: [])),[]⟩) (fun a _=>M-(intOf (a.tmps.getD 11 undef)).toNat) ?_ ?_
 ·exact⟨fun i=> [Tg,Xx,Ov,Ow].getD i undef,0,Nat.zero_le _,HP.out,rfl⟩
 intro a wr hI
 clear HP Tg Xx Ov Ow
 obtain⟨U,k,hk,hp,rfl⟩:=hI
 have HP:=AA hp
 clear hp
 refine Qc (fun K=> ∀(Tg Xx Ov Ow:Value) (wx:World),k<M→FsI R m p0 b0 (k+1) wx→K ⟨(List.toArray (s0::(.pointer (some ⟨R.gr,0,none⟩))::s2::s3::s4::s5::s6::s7::s8::s9::(.int .i64 (M:Int))::(.int .i64 ((k:Int)+1))::Tg::Xx::Ov::Ow::s16::En::EN::GZ::s20::Eo::Ga::EO::s24::EP::Ep::Ea::Eb::Ec::Ed::E9::E_::FB::FC::FD::FE::G7::G8::G9::G_::Hf::Hl::s43::s44::Ho::Hq::Hw::GI::s49::Hz::H_::IB::s53::Gh::Gi::Gj::Gl::Gm::Gn::Gp::Gq::Gs::Gt::Gu::Gv::Ee::Er::s68::Fx::Fy::Fz::s72::F4::F5::F6::F7::F8::F9::GA::GD::GH::s82::s83::Gw::Gx::Gy::s87::FH::FI::FJ::FK::FL::FM::FN::FP::FQ::Gz::G5::G6::BZ::Ba::Bb::Bc::Bd::Bf::Bg::Bh::Bj::Bl::Bn::Bo::Bp::CS::CU::CV::CW::CX::CY::Bz::B_::CB::CF::CG::CJ::BL::BF::BM::BN::BO::BP::BQ::BR::BS:: [])),[]⟩ wx) ?_ ?_
 ·intro Tg Xx Ov Ow wy hlt hp2
  refine⟨⟨fun i=> [Tg,Xx,Ov,Ow].getD i undef,k+1,hlt,hp2,rfl⟩,?_⟩
  show M-(intOf (.int .i64 ((k+1:Nat):Int))).toNat<M-(intOf (.int .i64 (k:Int))).toNat
  simp [intOf]
  omega
 intro K HK
 conv=>arg 2;whnf
 have hk0:(0:Int)≤k:=by omega
 by_cases hlt:k<M
 ·have KU:(k:Int)<M:=by omega
  clear HX
  obtain⟨fs,q,hh,hl,ha,he,hall⟩:=HP.out
  have HH:=AA hh;have HA:=AA ha;have HE:=AA he;have HAL:=AA hall
  have Wu:=AA hl
  have hrl:=hh.kG;have hol:=hh.qJ;have hgB:=hh.gB;have htop:=hh.top;have hi1:=hh.i1;have hi2:=hh.i2
  have P0:=AA hh.pr
  have hkB:Below R.Bi R.w0 wr:=hh.kp.below hBi (fun k hk=>⟨.inl (by omega),by omega,by omega⟩)
  have HHT:Hid (∀W,Below R.Bi wr W→Lib.TabIs prog W "strings.asciiSpace" .u8 Lib.asciiSpaceTab):=AA (fun W hW=>vN.out W (hkB.trans hW))
  have HC:Hid (Calls prog 108 #[.pointer (some ⟨R.rg,0,none⟩)] wr (fun e w'=>Keep (KD R.B R.og R.rg R.Z) wr w'∧((∃(f:GR) (q':Nat),e= .returned (.tuple #[])∧HQ {R with Z0:=R.Z,gr:=wr.heap.size,w0:=wr,Z:=fun k=>R.Z k∨k=wr.heap.size} w' {MB m fs [] [] with fns:=fs++ [f]} ((Mv fs:Int)+f.code.length) q'∧K_ R.l q (XF f) q'∧(0≤f.t∧f.t<m.types.length)∧Bq f.loc (64-J3 m f.t)=0∧f.code.length≤2048∧(Mv fs:Int)+f.code.length≤16384∧ ∀x∈f.code,Ai x=0)∨Zn e))):=
   AA (Zt (R:= {R with Z0:=R.Z,gr:=wr.heap.size,w0:=wr,Z:=fun k=>R.Z k∨k=wr.heap.size}) (m:=MB m fs [] []) ⟨rfl,rfl,rfl⟩ ⟨hh.inp,hh.i1,hh.i2,hh.ds⟩ (show R.Bi≤wr.heap.size by omega) HHT htl htp (by show fs.length≤128;omega) (by omega) (by omega))
  clear hh ha he hl hall hkB HHT
  have ag:=Ao.gr HH.out P0.out
  go_wp2_with fail
  refine HC.out.mono ?_
  rintro e w1 ⟨hk,⟨f,q',rfl,hq,haf,ht,hlf,hc1,hc2,hck⟩ | ⟨en,a1,h1,rfl⟩⟩
  case inr=>
   have H1:=AA h1;have JF:=AA (HH.out.thrZ hk);clear h1 hk
   go_wp2_with fail
   exact HT.out _ _ _ _ H1.out rfl JF.out
  have hla:Mv (fs++ [f])=Mv fs+f.code.length:=Vf _ _ _
  have Dz:Hid (FsI R m p0 b0 (k+1) w1):=AA ⟨fs++ [f],q',by rw [hla,Int.natCast_add];exact HH.out.wide _ hk hq,by rw [List.length_append,Wu.out];rfl,by rw [DK,←List.append_assoc];exact HA.out.trans haf,qD (m:=MB m fs [] []) HE.out ht hlf hc1 (by show Mv fs+f.code.length≤16384;omega) hck,by rw [hla];omega⟩
  clear hk hq haf ht hlf hc1 hc2 hck hla HC ag
  go_wp2_with fail
  apply HK.out
  ·exact hlt
  ·exact Dz.out
 ·obtain rfl:k=M:=by omega
  have Sj:=HP
  clear HK
  go_wp2_with fail
  apply HX.out
  exact Sj.out
end Go.Proofs.YtejbcledkhioeaaGreatDoor
