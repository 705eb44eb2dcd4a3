/- Part 27 of the proof: PrtJ PrtC PrtK R6E -/
import Derived.Test.YtebgikflpgcnlaaGreatDoorP25
import Derived.Test.YtebgikflpgcnlaaGreatDoorP26
namespace Go.Proofs.YtebgikflpgcnlaaGreatDoor
set_option linter.unusedVariables false
set_option linter.unusedSimpArgs false
set_option maxRecDepth 100000
set_option maxHeartbeats 4000000
open Go.RowKit Tryz
theorem SK {W:World} {base:Nat} {e:TypeId} {A:Option Addr} {n c:Nat} {xs:List Value} (h:W.ownsRow base e 1 (.slice A n c) n xs):Row W W.heap.size A xs:=by
 intro hn
 rcases h.2 with⟨_,h0⟩ | ⟨g,cap,cur,hv,_,hg,_⟩
 ·have:=h.1
  omega
 ·injection hv with e1
  subst e1
  refine⟨g,0,rfl,(Array.getElem?_eq_some_iff.1 hg).1,fun j u hu=> ?_⟩
  have:=h.cells (g:=g) rfl j u hu
  rwa [Addr.add_lit] at this
theorem Xo (l:List UInt8):(KX l).length=2*l.length:=by
 unfold KX
 induction l with
 | nil=>rfl
 | cons a l ih=>rw [List.flatMap_cons,List.length_append,ih];simp;omega
set_option maxRecDepth 1000000 in
theorem Xp {w w2:World} {hi hj:Nat} {m:AQ} {A1 A2 A3 A6 A7 A8:Option Addr} {c1 c2 c3 c6 c7 c8:Nat} (C:Hid (M7 w w2 hi hj m A1 c1 A2 c2 A3 c3 A6 c6 A7 c7 A8 c8)) {k:Nat} {wr:World} (hk:k≤m.dat.length) (HP:Hid (PR w2 wr (Sd m++(m.dat.take k).flatMap Lm)))
 (s0 s2 s3 s4 s7 s8 s9 s10 s11 s12 s13 G5 s15 s16 G6 FW IY s20 Ea Eb FQ Eu Ev Ew Ey Ez E5 E8 E9 E_ FB GN GQ GR GU GV GX s43 s44 GY GZ Ga Gb s49 Gc Gd Gf s53 Fa Fb Fe Fg Fh Fj Fp Fq Fu Fv Fw Fx FC Fy s68 Fz F3 F4 s72 F5 F6 F7 F8 F9 GA GD GH GI s82 s83 GJ GK GL s87 FD FE FH FI FJ Ec Ed Ee Ef FR FT FU BF BG BH BI BJ BL BM BN BO BP BQ BR BS Ch Ci Cj Ck Cm Cn Co Cq Cr Ct Cw Cx BU Ay Az Bu Bv Bw Bz B_ CB CS CU CV CW CX CY CZ Cc Ce BK u21 u22 u24 MG u131 Hz H_ IB IC IE ED u138 u139 EF EG EH EI EJ EK EL EM Gq Gs MH MI u152 MJ u154 MK ML MN MO:Value) (K:Act→World→Prop) (Q:Exit→Act→World→Prop) (HK:Hid (∀(u21 u22 u24 MG u131 Hz H_ IB IC IE ED u138 u139 EF EG EH EI EJ EK EL EM Gq Gs MH MI u152 MJ u154 MK ML MN MO:Value) (wx:World),k<m.dat.length→PR w2 wx (Sd m++(m.dat.take (k+1)).flatMap Lm)→K ⟨(List.toArray (s0::(.pointer (some ⟨w.heap.size,0,none⟩))::s2::s3::s4::(.pointer (some ⟨w2.heap.size,0,none⟩))::(.func (.func 28) #[] #[.pointer (some ⟨w2.heap.size,0,none⟩)])::s7::s8::s9::s10::s11::s12::s13::G5::s15::s16::G6::FW::IY::s20::u21::u22::Ea::u24::Eb::FQ::Eu::Ev::Ew::Ey::Ez::E5::E8::E9::E_::FB::GN::GQ::GR::GU::GV::GX::s43::s44::GY::GZ::Ga::Gb::s49::Gc::Gd::Gf::s53::Fa::Fb::Fe::Fg::Fh::Fj::Fp::Fq::Fu::Fv::Fw::Fx::FC::Fy::s68::Fz::F3::F4::s72::F5::F6::F7::F8::F9::GA::GD::GH::GI::s82::s83::GJ::GK::GL::s87::FD::FE::FH::FI::FJ::Ec::Ed::Ee::Ef::FR::FT::FU::BF::BG::BH::BI::BJ::BL::BM::BN::BO::BP::BQ::BR::BS::Ch::Ci::Cj::Ck::Cm::Cn::Co::Cq::Cr::Ct::Cw::Cx::BU::Ay::(.slice A7 m.dat.length c7)::(.int .i64 m.dat.length)::(.int .i64 ((k:Int)+1))::MG::u131::Hz::H_::IB::IC::IE::ED::u138::u139::EF::EG::EH::EI::EJ::EK::EL::EM::Gq::Gs::MH::MI::u152::MJ::u154::MK::ML::MN::MO::Az::Bu::Bv::Bw::Bz::B_::CB::CS::CU::CV::CW::CX::CY::CZ::Cc::Ce::BK:: [])),[]⟩ wx)) (HX:Hid (∀(u21 u22 u24 MG u131 Hz H_ IB IC IE ED u138 u139 EF EG EH EI EJ EK EL EM Gq Gs MH MI u152 MJ u154 MK ML MN MO:Value) (wx:World),PR w2 wx (VQ m)→Q (.exit 10) ⟨(List.toArray (s0::(.pointer (some ⟨w.heap.size,0,none⟩))::s2::s3::s4::(.pointer (some ⟨w2.heap.size,0,none⟩))::(.func (.func 28) #[] #[.pointer (some ⟨w2.heap.size,0,none⟩)])::s7::s8::s9::s10::s11::s12::s13::G5::s15::s16::G6::FW::IY::s20::u21::u22::Ea::u24::Eb::FQ::Eu::Ev::Ew::Ey::Ez::E5::E8::E9::E_::FB::GN::GQ::GR::GU::GV::GX::s43::s44::GY::GZ::Ga::Gb::s49::Gc::Gd::Gf::s53::Fa::Fb::Fe::Fg::Fh::Fj::Fp::Fq::Fu::Fv::Fw::Fx::FC::Fy::s68::Fz::F3::F4::s72::F5::F6::F7::F8::F9::GA::GD::GH::GI::s82::s83::GJ::GK::GL::s87::FD::FE::FH::FI::FJ::Ec::Ed::Ee::Ef::FR::FT::FU::BF::BG::BH::BI::BJ::BL::BM::BN::BO::BP::BQ::BR::BS::Ch::Ci::Cj::Ck::Cm::Cn::Co::Cq::Cr::Ct::Cw::Cx::BU::Ay::(.slice A7 m.dat.length c7)::(.int .i64 m.dat.length)::(.int .i64 m.dat.length)::MG::u131::Hz::H_::IB::IC::IE::ED::u138::u139::EF::EG::EH::EI::EJ::EK::EL::EM::Gq::Gs::MH::MI::u152::MJ::u154::MK::ML::MN::MO::Az::Bu::Bv::Bw::Bz::B_::CB::CS::CU::CV::CW::CX::CY::CZ::Cc::Ce::BK:: [])),[]⟩ wx)):
 Code.wp prog (Jr 4) (Exit.then K Q) ⟨(List.toArray (s0::(.pointer (some ⟨w.heap.size,0,none⟩))::s2::s3::s4::(.pointer (some ⟨w2.heap.size,0,none⟩))::(.func (.func 28) #[] #[.pointer (some ⟨w2.heap.size,0,none⟩)])::s7::s8::s9::s10::s11::s12::s13::G5::s15::s16::G6::FW::IY::s20::u21::u22::Ea::u24::Eb::FQ::Eu::Ev::Ew::Ey::Ez::E5::E8::E9::E_::FB::GN::GQ::GR::GU::GV::GX::s43::s44::GY::GZ::Ga::Gb::s49::Gc::Gd::Gf::s53::Fa::Fb::Fe::Fg::Fh::Fj::Fp::Fq::Fu::Fv::Fw::Fx::FC::Fy::s68::Fz::F3::F4::s72::F5::F6::F7::F8::F9::GA::GD::GH::GI::s82::s83::GJ::GK::GL::s87::FD::FE::FH::FI::FJ::Ec::Ed::Ee::Ef::FR::FT::FU::BF::BG::BH::BI::BJ::BL::BM::BN::BO::BP::BQ::BR::BS::Ch::Ci::Cj::Ck::Cm::Cn::Co::Cq::Cr::Ct::Cw::Cx::BU::Ay::(.slice A7 m.dat.length c7)::(.int .i64 m.dat.length)::(.int .i64 k)::MG::u131::Hz::H_::IB::IC::IE::ED::u138::u139::EF::EG::EH::EI::EJ::EK::EL::EM::Gq::Gs::MH::MI::u152::MJ::u154::MK::ML::MN::MO::Az::Bu::Bv::Bw::Bz::B_::CB::CS::CU::CV::CW::CX::CY::CZ::Cc::Ce::BK:: [])),[]⟩ wr:=by
 conv=>arg 2;whnf
 have Eo:=AA (C.out.Gg.trans (HP.out.Gg.mono C.out.Gg.size))
 have hsz:w2.heap.size≤wr.heap.size:=HP.out.Gg.size
 have hsw:w.heap.size<w2.heap.size:=C.out.lt
 have mP:w2.heap.size<wr.heap.size:=by obtain⟨_,_,hb⟩:=HP.out.aQ;exact hb.blk.lt
 have hhi:=C.out.hhi
 have KQ:=C.out.KQ
 have hk0:(0:Int)≤k:=by omega
 by_cases hlt:k<m.dat.length
 ·obtain⟨x,hx⟩: ∃x,m.dat[k]?=some x:=⟨_,List.getElem?_eq_getElem hlt⟩
  have Lr:decide ((k:Int)<m.dat.length)=true:=decide_eq_true (by omega)
  have Ux:m.dat.length≤2147483647:=by have:=C.out.few;unfold Ad at this;omega
  obtain⟨bk,ok,Sb,Rl,rfl,_,Kg,hc0,hc1,Lp,hbr⟩:=Jd C.out.h7 hx
  have hc0:=(Eo.out.cell (p:=⟨bk,ok+k*2,none⟩) (show bk<w.heap.size by omega)).trans hc0
  have hc1:=(Eo.out.cell (p:=⟨bk,ok+k*2+1,none⟩) (show bk<w.heap.size by omega)).trans hc1
  have Ls:=AA (Dz (Sd m) Lm hx)
  have KZ:=AA (DC (Sd m) Lm hx)
  have K8:(Sd m++m.dat.flatMap Lm).length≤1048576:=by have:=Ou m C.out.le;first | exact this.2.1 | exact this.2.2.1 | exact this.2.2.2.1 | exact this.2.2.2.2.1 | exact this.2.2.2.2.2.1 | exact this.2.2.2.2.2.2.1 | exact this.2.2.2.2.2.2.2
  have Xl:=AA (List.mem_of_getElem? hx)
  clear hx
  have hfl:=kS Xl.out C.out.few
  have HCD:=AA hbr
  clear HX
  go_upto_region 40 with fail
  generalize hw3:World.alloc _ _=w3
  have hb3:Below wr.heap.size wr w3:=by rw [←hw3];exact(Below.refl _ _).alloc (Nat.le_refl _) _
  have IX:AV w3 wr.heap.size 59 [.int .i64 x.at_,.slice Sb x.b.length Rl]:=by rw [←hw3];exact AV.new wr _ _
  have hs3:wr.heap.size<w3.heap.size:=IX.lt
  have a0:=IX.q 0 rfl;have a1:=IX.q 1 rfl
  have Gz:=AA IX;have HB3:=AA hb3
  have fM:Hid (∀W,Below wr.heap.size wr W→Dt hj W):=AA (fun W hW=>C.out.env.to ((Eo.out.trans (hW.mono (Nat.le_of_lt (Nat.lt_of_lt_of_le hsw hsz)))).mono KQ))
  have HW3:=AA (Eo.out.trans (hb3.mono (Nat.le_of_lt (Nat.lt_of_lt_of_le hsw hsz))))
  clear hw3 hc0 hc1 hb3 IX
  go_wp2_with fail
  refine zk C (x:=x) HCD hfl w3 HW3 _ (AA ⟨Below.refl _ _,World.ownsRow_nil _ _ _ _⟩) _ _ _ _ _ _ _ _ _ _ _ _ _ _ _ _ _ _ _ _ _ _ _ _ _ _ _ _ _ _ _ _ _ _ _ _ _ _ _ _ _ _ _ _ _ _ _ _ _ _ _ _ _ _ _ _ _ _ _ _ _ _ _ _ _ _ _ _ _ _ _ _ _ _ _ _ _ _ _ _ _ _ _ _ _ _ _ _ _ _ _ _ _ _ _ _ _ _ _ _ _ _ _ _ _ _ _ _ _ _ _ _ _ _ _ _ _ _ _ _ _ _ _ _ _ _ _ _ _ _ _ _ _ _ _ _ _ _ _ _ _ _ _ _ _ _ _ _ _ _ _ _ _ _ _ _ _ _ _ _ _ _ _ _ _ _ _ _ _ _ (AA ?_)
  intro v22 v0_ v1_ v2_ v3_ v4_ v5_ v6_ v7_ v8_ v9_ v10_ v11_ v12_ v13_ wx hpx
  have hbx:=hpx.1
  have hox:=hpx.2
  have hsx:w3.heap.size≤wx.heap.size:=hbx.size
  obtain⟨A22,c22,rfl⟩:=Nu hox
  have hrow:=SK hox
  have hmx:=Gz.out.below hbx hs3
  have g0:=hmx.q 0 rfl;have g1:=hmx.q 1 rfl
  have b0:=hmx.q 0 rfl;have b1:=hmx.q 1 rfl
  have HMX2:=AA hmx
  have zl:=AA (HB3.out.trans (hbx.mono (Nat.le_of_lt hs3)))
  have HOX:=AA hox
  have cvx:=Ki (P:=prog) 41 5 9 underlying41 underlying5 underlying9 wx _ A22 (2*x.b.length) c22 (KX x.b) (Xo x.b).symm hrow
  have cvd:=Ki (P:=prog) 41 5 9 underlying41 underlying5 underlying9 wx.drew _ A22 (2*x.b.length) c22 (KX x.b) (Xo x.b).symm hrow
  clear hpx hbx hox hmx hrow a0 a1
  go_upto_region 46 with fail
  refine wp_region_noPanic ?_
  go_region_with
   (first
    | (go_at_call 32;refine(QE x.at_ Lp wx.drew (fM.out _ (zl.out.drew)) (by simp;omega)).mono ?_;rintro e wa ⟨hba,rfl⟩;have Qz:=Af hba;have iY:wx.heap.size≤wa.heap.size:=Qz.size;have hma:=HMX2.out.below Qz (by omega);have d0:=hma.q 0 rfl;have d1:=hma.q 1 rfl;have d0a: ∀o,(wa.alloc o).cell? ⟨wr.heap.size,0,none⟩=some (.int .i64 x.at_):=fun o=>(hma.alloc o).cell 0;have d1a: ∀o,(wa.alloc o).cell? ⟨wr.heap.size,1,none⟩=some (.slice Sb x.b.length Rl):=fun o=>(hma.alloc o).cell 1;have YL:=AA (zl.out.trans (Qz.mono (by omega)));have oQ:=AA hma;have cva:=Ki (P:=prog) 41 5 9 underlying41 underlying5 underlying9 wa _ A22 (2*x.b.length) c22 (KX x.b) (Xo x.b).symm (SK (CJ HOX.out Qz));clear hba Qz hma)
    | (go_at_call 28;refine(Kh [PW,BA (Lib.itoa x.at_),BA (KX x.b)] [Yq,Lib.itoa x.at_,KX x.b] rfl 3 rfl _ wa (by simp) (HP.out.aQ.below YL.out) (by omega) (Nat.le_trans KZ.out K8) (by decide)).mono ?_;rintro e w6 ⟨rfl,hA,hB,hK⟩;have Oa:=AA (PR.mk (HP.out.Gg.trans ((YL.out.mono hsz).trans hB)) (Ls.out▸hA));have OU:=hK.blk oQ.out (by omega) (by decide);have f0:=OU.q 0 rfl;have f1:=OU.q 1 rfl;clear hA hB hK OU))
  all_goals
   refine NoPanic.normal ?_
   go_wp2_with fail
   apply HK.out
   ·exact hlt
   ·exact Oa.out
 ·obtain rfl:k=m.dat.length:=by omega
  have Lr:decide ((m.dat.length:Int)<m.dat.length)=false:=decide_eq_false (by omega)
  have Qf:Hid (PR w2 wr (VQ m)):=AA (by have:=HP.out;rw [List.take_length] at this;exact this)
  clear HP HK
  go_wp2_with fail
  apply HX.out
  exact Qf.out
set_option maxRecDepth 1000000 in
theorem vJ {w w2:World} {hi hj:Nat} {m:AQ} {A1 A2 A3 A6 A7 A8:Option Addr} {c1 c2 c3 c6 c7 c8:Nat} (C:Hid (M7 w w2 hi hj m A1 c1 A2 c2 A3 c3 A6 c6 A7 c7 A8 c8)) {wr:World} (HP:Hid (PR w2 wr (Sd m)))
 (s0 s2 s3 s4 s7 s8 s9 s10 s11 s12 s13 G5 s15 s16 G6 FW IY s20 Ea Eb FQ Eu Ev Ew Ey Ez E5 E8 E9 E_ FB GN GQ GR GU GV GX s43 s44 GY GZ Ga Gb s49 Gc Gd Gf s53 Fa Fb Fe Fg Fh Fj Fp Fq Fu Fv Fw Fx FC Fy s68 Fz F3 F4 s72 F5 F6 F7 F8 F9 GA GD GH GI s82 s83 GJ GK GL s87 FD FE FH FI FJ Ec Ed Ee Ef FR FT FU BF BG BH BI BJ BL BM BN BO BP BQ BR BS Ch Ci Cj Ck Cm Cn Co Cq Cr Ct Cw Cx BU Ay Az Bu Bv Bw Bz B_ CB CS CU CV CW CX CY CZ Cc Ce BK u21 u22 u24 MG u131 Hz H_ IB IC IE ED u138 u139 EF EG EH EI EJ EK EL EM Gq Gs MH MI u152 MJ u154 MK ML MN MO:Value) (Q0:Exit→Act→World→Prop) (HX:Hid (∀(u21 u22 u24 MG u131 Hz H_ IB IC IE ED u138 u139 EF EG EH EI EJ EK EL EM Gq Gs MH MI u152 MJ u154 MK ML MN MO:Value) (wx:World),PR w2 wx (VQ m)→Q0 (.exit 10) ⟨(List.toArray (s0::(.pointer (some ⟨w.heap.size,0,none⟩))::s2::s3::s4::(.pointer (some ⟨w2.heap.size,0,none⟩))::(.func (.func 28) #[] #[.pointer (some ⟨w2.heap.size,0,none⟩)])::s7::s8::s9::s10::s11::s12::s13::G5::s15::s16::G6::FW::IY::s20::u21::u22::Ea::u24::Eb::FQ::Eu::Ev::Ew::Ey::Ez::E5::E8::E9::E_::FB::GN::GQ::GR::GU::GV::GX::s43::s44::GY::GZ::Ga::Gb::s49::Gc::Gd::Gf::s53::Fa::Fb::Fe::Fg::Fh::Fj::Fp::Fq::Fu::Fv::Fw::Fx::FC::Fy::s68::Fz::F3::F4::s72::F5::F6::F7::F8::F9::GA::GD::GH::GI::s82::s83::GJ::GK::GL::s87::FD::FE::FH::FI::FJ::Ec::Ed::Ee::Ef::FR::FT::FU::BF::BG::BH::BI::BJ::BL::BM::BN::BO::BP::BQ::BR::BS::Ch::Ci::Cj::Ck::Cm::Cn::Co::Cq::Cr::Ct::Cw::Cx::BU::Ay::(.slice A7 m.dat.length c7)::(.int .i64 m.dat.length)::(.int .i64 m.dat.length)::MG::u131::Hz::H_::IB::IC::IE::ED::u138::u139::EF::EG::EH::EI::EJ::EK::EL::EM::Gq::Gs::MH::MI::u152::MJ::u154::MK::ML::MN::MO::Az::Bu::Bv::Bw::Bz::B_::CB::CS::CU::CV::CW::CX::CY::CZ::Cc::Ce::BK:: [])),[]⟩ wx)):
 Code.wp prog (Code.loop (Jr 4)) Q0 ⟨(List.toArray (s0::(.pointer (some ⟨w.heap.size,0,none⟩))::s2::s3::s4::(.pointer (some ⟨w2.heap.size,0,none⟩))::(.func (.func 28) #[] #[.pointer (some ⟨w2.heap.size,0,none⟩)])::s7::s8::s9::s10::s11::s12::s13::G5::s15::s16::G6::FW::IY::s20::u21::u22::Ea::u24::Eb::FQ::Eu::Ev::Ew::Ey::Ez::E5::E8::E9::E_::FB::GN::GQ::GR::GU::GV::GX::s43::s44::GY::GZ::Ga::Gb::s49::Gc::Gd::Gf::s53::Fa::Fb::Fe::Fg::Fh::Fj::Fp::Fq::Fu::Fv::Fw::Fx::FC::Fy::s68::Fz::F3::F4::s72::F5::F6::F7::F8::F9::GA::GD::GH::GI::s82::s83::GJ::GK::GL::s87::FD::FE::FH::FI::FJ::Ec::Ed::Ee::Ef::FR::FT::FU::BF::BG::BH::BI::BJ::BL::BM::BN::BO::BP::BQ::BR::BS::Ch::Ci::Cj::Ck::Cm::Cn::Co::Cq::Cr::Ct::Cw::Cx::BU::Ay::(.slice A7 m.dat.length c7)::(.int .i64 m.dat.length)::(.int .i64 0)::MG::u131::Hz::H_::IB::IC::IE::ED::u138::u139::EF::EG::EH::EI::EJ::EK::EL::EM::Gq::Gs::MH::MI::u152::MJ::u154::MK::ML::MN::MO::Az::Bu::Bv::Bw::Bz::B_::CB::CS::CU::CV::CW::CX::CY::CZ::Cc::Ce::BK:: [])),[]⟩ wr:=by
 refine wp_loop (fun a wx=> ∃(u21 u22 u24 MG u131 Hz H_ IB IC IE ED u138 u139 EF EG EH EI EJ EK EL EM Gq Gs MH MI u152 MJ u154 MK ML MN MO:Value) (k:Nat),k≤m.dat.length∧PR w2 wx (Sd m++(m.dat.take k).flatMap Lm)∧a=⟨(List.toArray (s0::(.pointer (some ⟨w.heap.size,0,none⟩))::s2::s3::s4::(.pointer (some ⟨w2.heap.size,0,none⟩))::(.func (.func 28) #[] #[.pointer (some ⟨w2.heap.size,0,none⟩)])::s7::s8::s9::s10::s11::s12::s13::G5::s15::s16::G6::FW::IY::s20::u21::u22::Ea::u24::Eb::FQ::Eu::Ev::Ew::Ey::Ez::E5::E8::E9::E_::FB::GN::GQ::GR::GU::GV::GX::s43::s44::GY::GZ::Ga::Gb::s49::Gc::Gd::Gf::s53::Fa::Fb::Fe::Fg::Fh::Fj::Fp::Fq::Fu::Fv::Fw::Fx::FC::Fy::s68::Fz::F3::F4::s72::F5::F6::F7::F8::F9::GA::GD::GH::GI::s82::s83::GJ::GK::GL::s87::FD::FE::FH::FI::FJ::Ec::Ed::Ee::Ef::FR::FT::FU::BF::BG::BH::BI::BJ::BL::BM::BN::BO::BP::BQ::BR::BS::Ch::Ci::Cj::Ck::Cm::Cn::Co::Cq::Cr::Ct::Cw::Cx::BU::Ay::(.slice A7 m.dat.length c7)::(.int .i64 m.dat.length)::(.int .i64 k)::MG::u131::Hz::H_::IB::IC::IE::ED::u138::u139::EF::EG::EH::EI::EJ::EK::EL::EM::Gq::Gs::MH::MI::u152::MJ::u154::MK::ML::MN::MO::Az::Bu::Bv::Bw::Bz::B_::CB::CS::CU::CV::CW::CX::CY::CZ::Cc::Ce::BK:: [])),[]⟩) (fun a _=>m.dat.length-(intOf (a.tmps.getD 129 undef)).toNat) ?_ ?_
 ·exact⟨u21,u22,u24,MG,u131,Hz,H_,IB,IC,IE,ED,u138,u139,EF,EG,EH,EI,EJ,EK,EL,EM,Gq,Gs,MH,MI,u152,MJ,u154,MK,ML,MN,MO,0,Nat.zero_le _,by rw [List.take_zero,List.flatMap_nil,List.append_nil];exact HP.out,rfl⟩
 ·intro a wx hI
  obtain⟨u21,hI⟩:=hI
  obtain⟨u22,hI⟩:=hI
  obtain⟨u24,hI⟩:=hI
  obtain⟨MG,hI⟩:=hI
  obtain⟨u131,hI⟩:=hI
  obtain⟨Hz,hI⟩:=hI
  obtain⟨H_,hI⟩:=hI
  obtain⟨IB,hI⟩:=hI
  obtain⟨IC,hI⟩:=hI
  obtain⟨IE,hI⟩:=hI
  obtain⟨ED,hI⟩:=hI
  obtain⟨u138,hI⟩:=hI
  obtain⟨u139,hI⟩:=hI
  obtain⟨EF,hI⟩:=hI
  obtain⟨EG,hI⟩:=hI
  obtain⟨EH,hI⟩:=hI
  obtain⟨EI,hI⟩:=hI
  obtain⟨EJ,hI⟩:=hI
  obtain⟨EK,hI⟩:=hI
  obtain⟨EL,hI⟩:=hI
  obtain⟨EM,hI⟩:=hI
  obtain⟨Gq,hI⟩:=hI
  obtain⟨Gs,hI⟩:=hI
  obtain⟨MH,hI⟩:=hI
  obtain⟨MI,hI⟩:=hI
  obtain⟨u152,hI⟩:=hI
  obtain⟨MJ,hI⟩:=hI
  obtain⟨u154,hI⟩:=hI
  obtain⟨MK,hI⟩:=hI
  obtain⟨ML,hI⟩:=hI
  obtain⟨MN,hI⟩:=hI
  obtain⟨MO,hI⟩:=hI
  obtain⟨k,hk,hp,rfl⟩:=hI
  refine Xp C hk (AA hp) _ _ _ _ _ _ _ _ _ _ _ _ _ _ _ _ _ _ _ _ _ _ _ _ _ _ _ _ _ _ _ _ _ _ _ _ _ _ _ _ _ _ _ _ _ _ _ _ _ _ _ _ _ _ _ _ _ _ _ _ _ _ _ _ _ _ _ _ _ _ _ _ _ _ _ _ _ _ _ _ _ _ _ _ _ _ _ _ _ _ _ _ _ _ _ _ _ _ _ _ _ _ _ _ _ _ _ _ _ _ _ _ _ _ _ _ _ _ _ _ _ _ _ _ _ _ _ _ _ _ _ _ _ _ _ _ _ _ _ _ _ _ _ _ _ _ _ _ _ _ _ _ _ _ _ _ _ _ _ _ _ _ _ _ _ _ _ _ _ _ _ _ (AA ?_) HX
  intro u21 u22 u24 MG u131 Hz H_ IB IC IE ED u138 u139 EF EG EH EI EJ EK EL EM Gq Gs MH MI u152 MJ u154 MK ML MN MO wy hlt hp2
  refine⟨⟨u21,u22,u24,MG,u131,Hz,H_,IB,IC,IE,ED,u138,u139,EF,EG,EH,EI,EJ,EK,EL,EM,Gq,Gs,MH,MI,u152,MJ,u154,MK,ML,MN,MO,k+1,hlt,hp2,rfl⟩,?_⟩
  show m.dat.length-(intOf (.int .i64 ((k+1:Nat):Int))).toNat<m.dat.length-(intOf (.int .i64 (k:Int))).toNat
  simp [intOf]
  omega
set_option maxRecDepth 1000000 in
theorem Vg {w w2:World} {hi hj:Nat} {m:AQ} {A1 A2 A3 A6 A7 A8:Option Addr} {c1 c2 c3 c6 c7 c8:Nat} (C:Hid (M7 w w2 hi hj m A1 c1 A2 c2 A3 c3 A6 c6 A7 c7 A8 c8)) {k:Nat} {wr:World} (hk:k≤m.types.length) (HP:Hid (PR w2 wr (YM m++(m.types.take k).flatMap Pk)))
 (s0 s2 s3 s4 s7 s11 s12 s13 G5 s15 s16 G6 FW IY s20 FP Gx Ea s24 Eb FQ Eu Ev Ew Ey Ez E5 E8 E9 E_ FB s53 Fa Fb Fe Fg Fh Fj Fp Fq Fu Fv Fw Fx FC Fy s68 Fz F3 F4 s72 F5 F6 F7 F8 F9 GA GD GH GI s82 s83 GJ GK GL s87 FD FE FH FI FJ Ec Ed Ee Ef FR FT FU BF BG BH BI BJ BL BM BN BO BP BQ BR BS Ch Ci Cj Ck Cm Cn Co Cq Cr Ct Cw Cx BU Ay BX BZ Bf Bg CO CP CQ DJ DK DL DN DR DT DU DV DW DX DY DZ Da Db Cy Cz Bh Bj Bl Bn Bo Bp Bq Br Bt Az Bu Bv Bw Bz B_ CB CS CU CV CW CX CY CZ Cc Ce BK u8 u9 iX u40 Tk u42 Tn u44 u45 u46 Tp u48 u49 Tq u51 Tt:Value) (K:Act→World→Prop) (Q:Exit→Act→World→Prop) (HK:Hid (∀(u8 u9 iX u40 Tk u42 Tn u44 u45 u46 Tp u48 u49 Tq u51 Tt:Value) (wx:World),k<m.types.length→PR w2 wx (YM m++(m.types.take (k+1)).flatMap Pk)→K ⟨(List.toArray (s0::(.pointer (some ⟨w.heap.size,0,none⟩))::s2::s3::s4::(.pointer (some ⟨w2.heap.size,0,none⟩))::(.func (.func 28) #[] #[.pointer (some ⟨w2.heap.size,0,none⟩)])::s7::u8::u9::iX::s11::s12::s13::G5::s15::s16::G6::FW::IY::s20::FP::Gx::Ea::s24::Eb::FQ::Eu::Ev::Ew::Ey::Ez::E5::E8::E9::E_::FB::(.slice A1 m.types.length c1)::(.int .i64 m.types.length)::(.int .i64 ((k:Int)+1))::u40::Tk::u42::Tn::u44::u45::u46::Tp::u48::u49::Tq::u51::Tt::s53::Fa::Fb::Fe::Fg::Fh::Fj::Fp::Fq::Fu::Fv::Fw::Fx::FC::Fy::s68::Fz::F3::F4::s72::F5::F6::F7::F8::F9::GA::GD::GH::GI::s82::s83::GJ::GK::GL::s87::FD::FE::FH::FI::FJ::Ec::Ed::Ee::Ef::FR::FT::FU::BF::BG::BH::BI::BJ::BL::BM::BN::BO::BP::BQ::BR::BS::Ch::Ci::Cj::Ck::Cm::Cn::Co::Cq::Cr::Ct::Cw::Cx::BU::Ay::BX::BZ::Bf::Bg::CO::CP::CQ::DJ::DK::DL::DN::DR::DT::DU::DV::DW::DX::DY::DZ::Da::Db::Cy::Cz::Bh::Bj::Bl::Bn::Bo::Bp::Bq::Br::Bt::Az::Bu::Bv::Bw::Bz::B_::CB::CS::CU::CV::CW::CX::CY::CZ::Cc::Ce::BK:: [])),[]⟩ wx)) (HX:Hid (∀(u8 u9 iX u40 Tk u42 Tn u44 u45 u46 Tp u48 u49 Tq u51 Tt:Value) (wx:World),PR w2 wx (Ve m)→Q (.exit 0) ⟨(List.toArray (s0::(.pointer (some ⟨w.heap.size,0,none⟩))::s2::s3::s4::(.pointer (some ⟨w2.heap.size,0,none⟩))::(.func (.func 28) #[] #[.pointer (some ⟨w2.heap.size,0,none⟩)])::s7::u8::u9::iX::s11::s12::s13::G5::s15::s16::G6::FW::IY::s20::FP::Gx::Ea::s24::Eb::FQ::Eu::Ev::Ew::Ey::Ez::E5::E8::E9::E_::FB::(.slice A1 m.types.length c1)::(.int .i64 m.types.length)::(.int .i64 m.types.length)::u40::Tk::u42::Tn::u44::u45::u46::Tp::u48::u49::Tq::u51::Tt::s53::Fa::Fb::Fe::Fg::Fh::Fj::Fp::Fq::Fu::Fv::Fw::Fx::FC::Fy::s68::Fz::F3::F4::s72::F5::F6::F7::F8::F9::GA::GD::GH::GI::s82::s83::GJ::GK::GL::s87::FD::FE::FH::FI::FJ::Ec::Ed::Ee::Ef::FR::FT::FU::BF::BG::BH::BI::BJ::BL::BM::BN::BO::BP::BQ::BR::BS::Ch::Ci::Cj::Ck::Cm::Cn::Co::Cq::Cr::Ct::Cw::Cx::BU::Ay::BX::BZ::Bf::Bg::CO::CP::CQ::DJ::DK::DL::DN::DR::DT::DU::DV::DW::DX::DY::DZ::Da::Db::Cy::Cz::Bh::Bj::Bl::Bn::Bo::Bp::Bq::Br::Bt::Az::Bu::Bv::Bw::Bz::B_::CB::CS::CU::CV::CW::CX::CY::CZ::Cc::Ce::BK:: [])),[]⟩ wx)):
 Code.wp prog (Jr 0) (Exit.then K Q) ⟨(List.toArray (s0::(.pointer (some ⟨w.heap.size,0,none⟩))::s2::s3::s4::(.pointer (some ⟨w2.heap.size,0,none⟩))::(.func (.func 28) #[] #[.pointer (some ⟨w2.heap.size,0,none⟩)])::s7::u8::u9::iX::s11::s12::s13::G5::s15::s16::G6::FW::IY::s20::FP::Gx::Ea::s24::Eb::FQ::Eu::Ev::Ew::Ey::Ez::E5::E8::E9::E_::FB::(.slice A1 m.types.length c1)::(.int .i64 m.types.length)::(.int .i64 k)::u40::Tk::u42::Tn::u44::u45::u46::Tp::u48::u49::Tq::u51::Tt::s53::Fa::Fb::Fe::Fg::Fh::Fj::Fp::Fq::Fu::Fv::Fw::Fx::FC::Fy::s68::Fz::F3::F4::s72::F5::F6::F7::F8::F9::GA::GD::GH::GI::s82::s83::GJ::GK::GL::s87::FD::FE::FH::FI::FJ::Ec::Ed::Ee::Ef::FR::FT::FU::BF::BG::BH::BI::BJ::BL::BM::BN::BO::BP::BQ::BR::BS::Ch::Ci::Cj::Ck::Cm::Cn::Co::Cq::Cr::Ct::Cw::Cx::BU::Ay::BX::BZ::Bf::Bg::CO::CP::CQ::DJ::DK::DL::DN::DR::DT::DU::DV::DW::DX::DY::DZ::Da::Db::Cy::Cz::Bh::Bj::Bl::Bn::Bo::Bp::Bq::Br::Bt::Az::Bu::Bv::Bw::Bz::B_::CB::CS::CU::CV::CW::CX::CY::CZ::Cc::Ce::BK:: [])),[]⟩ wr:=by
 conv=>arg 2;whnf
 have Eo:=AA (C.out.Gg.trans (HP.out.Gg.mono C.out.Gg.size))
 have hsz:w2.heap.size≤wr.heap.size:=HP.out.Gg.size
 have hsw:w.heap.size<w2.heap.size:=C.out.lt
 have mP:w2.heap.size<wr.heap.size:=by obtain⟨_,_,hb⟩:=HP.out.aQ;exact hb.blk.lt
 have hhi:=C.out.hhi
 have KQ:=C.out.KQ
 have hk0:(0:Int)≤k:=by omega
 by_cases hlt:k<m.types.length
 ·obtain⟨x,hx⟩: ∃x,m.types[k]?=some x:=⟨_,List.getElem?_eq_getElem hlt⟩
  have Lr:decide ((k:Int)<m.types.length)=true:=decide_eq_true (by omega)
  have Ux:m.types.length≤2147483647:=by have:=C.out.few;unfold Ad at this;omega
  obtain⟨bk,ok,rfl,_,Kg,hc0,hc1,ho0,ho1⟩:=Ii (Rd.below C.out.h1 Eo.out hhi) hx
  have Ls:=AA (Dz (YM m) Pk hx)
  have KZ:=AA (DC (YM m) Pk hx)
  have K8:(YM m++m.types.flatMap Pk).length≤1048576:=by have:=Ou m C.out.le;first | exact this.2.1 | exact this.2.2.1 | exact this.2.2.2.1 | exact this.2.2.2.2.1 | exact this.2.2.2.2.2.1 | exact this.2.2.2.2.2.2.1 | exact this.2.2.2.2.2.2.2
  have Xl:=AA (List.mem_of_getElem? hx)
  clear hx
  have HW:=AA (dz (C.out.fine.types x Xl.out).1)
  clear HX
  go_wp2_with fail
  refine(gH x.p x.r ho0 ho1 _).mono ?_
  rintro e w5 ⟨hb5,rfl⟩
  have hb5:Below wr.heap.size wr w5:=((Below.refl _ _).alloc (Nat.le_refl _) _).trans (hb5.mono (by simp))
  have hs5:wr.heap.size≤w5.heap.size:=hb5.size
  rw [HW.out]
  go_wp2_with fail
  refine(Kh [PU,BA (UY x)] [Sn,UY x] (by rw [List.map_cons,List.map_cons,List.map_nil];simp [BA];rfl) 2 rfl _ w5 (by simp) (HP.out.aQ.below hb5) (by omega) (Nat.le_trans KZ.out K8) (by decide)).mono ?_
  rintro e w6 ⟨rfl,hA,hB,hK⟩
  have Oa:=AA (PR.mk (HP.out.Gg.trans ((hb5.mono hsz).trans hB)) (Ls.out▸hA))
  clear hA hB hK
  go_wp2_with fail
  apply HK.out
  ·exact hlt
  ·exact Oa.out
 ·obtain rfl:k=m.types.length:=by omega
  have Lr:decide ((m.types.length:Int)<m.types.length)=false:=decide_eq_false (by omega)
  have Qf:Hid (PR w2 wr (Ve m)):=AA (by have:=HP.out;rw [List.take_length] at this;exact this)
  clear HP HK
  go_wp2_with fail
  apply HX.out
  exact Qf.out
set_option maxRecDepth 1000000 in
theorem oO {w w2:World} {hi hj:Nat} {m:AQ} {A1 A2 A3 A6 A7 A8:Option Addr} {c1 c2 c3 c6 c7 c8:Nat} (C:Hid (M7 w w2 hi hj m A1 c1 A2 c2 A3 c3 A6 c6 A7 c7 A8 c8)) {wr:World} (HP:Hid (PR w2 wr (YM m)))
 (s0 s2 s3 s4 s7 s11 s12 s13 G5 s15 s16 G6 FW IY s20 FP Gx Ea s24 Eb FQ Eu Ev Ew Ey Ez E5 E8 E9 E_ FB s53 Fa Fb Fe Fg Fh Fj Fp Fq Fu Fv Fw Fx FC Fy s68 Fz F3 F4 s72 F5 F6 F7 F8 F9 GA GD GH GI s82 s83 GJ GK GL s87 FD FE FH FI FJ Ec Ed Ee Ef FR FT FU BF BG BH BI BJ BL BM BN BO BP BQ BR BS Ch Ci Cj Ck Cm Cn Co Cq Cr Ct Cw Cx BU Ay BX BZ Bf Bg CO CP CQ DJ DK DL DN DR DT DU DV DW DX DY DZ Da Db Cy Cz Bh Bj Bl Bn Bo Bp Bq Br Bt Az Bu Bv Bw Bz B_ CB CS CU CV CW CX CY CZ Cc Ce BK u8 u9 iX u40 Tk u42 Tn u44 u45 u46 Tp u48 u49 Tq u51 Tt:Value) (Q0:Exit→Act→World→Prop) (HX:Hid (∀(u8 u9 iX u40 Tk u42 Tn u44 u45 u46 Tp u48 u49 Tq u51 Tt:Value) (wx:World),PR w2 wx (Ve m)→Q0 (.exit 0) ⟨(List.toArray (s0::(.pointer (some ⟨w.heap.size,0,none⟩))::s2::s3::s4::(.pointer (some ⟨w2.heap.size,0,none⟩))::(.func (.func 28) #[] #[.pointer (some ⟨w2.heap.size,0,none⟩)])::s7::u8::u9::iX::s11::s12::s13::G5::s15::s16::G6::FW::IY::s20::FP::Gx::Ea::s24::Eb::FQ::Eu::Ev::Ew::Ey::Ez::E5::E8::E9::E_::FB::(.slice A1 m.types.length c1)::(.int .i64 m.types.length)::(.int .i64 m.types.length)::u40::Tk::u42::Tn::u44::u45::u46::Tp::u48::u49::Tq::u51::Tt::s53::Fa::Fb::Fe::Fg::Fh::Fj::Fp::Fq::Fu::Fv::Fw::Fx::FC::Fy::s68::Fz::F3::F4::s72::F5::F6::F7::F8::F9::GA::GD::GH::GI::s82::s83::GJ::GK::GL::s87::FD::FE::FH::FI::FJ::Ec::Ed::Ee::Ef::FR::FT::FU::BF::BG::BH::BI::BJ::BL::BM::BN::BO::BP::BQ::BR::BS::Ch::Ci::Cj::Ck::Cm::Cn::Co::Cq::Cr::Ct::Cw::Cx::BU::Ay::BX::BZ::Bf::Bg::CO::CP::CQ::DJ::DK::DL::DN::DR::DT::DU::DV::DW::DX::DY::DZ::Da::Db::Cy::Cz::Bh::Bj::Bl::Bn::Bo::Bp::Bq::Br::Bt::Az::Bu::Bv::Bw::Bz::B_::CB::CS::CU::CV::CW::CX::CY::CZ::Cc::Ce::BK:: [])),[]⟩ wx)):
 Code.wp prog (Code.loop (Jr 0)) Q0 ⟨(List.toArray (s0::(.pointer (some ⟨w.heap.size,0,none⟩))::s2::s3::s4::(.pointer (some ⟨w2.heap.size,0,none⟩))::(.func (.func 28) #[] #[.pointer (some ⟨w2.heap.size,0,none⟩)])::s7::u8::u9::iX::s11::s12::s13::G5::s15::s16::G6::FW::IY::s20::FP::Gx::Ea::s24::Eb::FQ::Eu::Ev::Ew::Ey::Ez::E5::E8::E9::E_::FB::(.slice A1 m.types.length c1)::(.int .i64 m.types.length)::(.int .i64 0)::u40::Tk::u42::Tn::u44::u45::u46::Tp::u48::u49::Tq::u51::Tt::s53::Fa::Fb::Fe::Fg::Fh::Fj::Fp::Fq::Fu::Fv::Fw::Fx::FC::Fy::s68::Fz::F3::F4::s72::F5::F6::F7::F8::F9::GA::GD::GH::GI::s82::s83::GJ::GK::GL::s87::FD::FE::FH::FI::FJ::Ec::Ed::Ee::Ef::FR::FT::FU::BF::BG::BH::BI::BJ::BL::BM::BN::BO::BP::BQ::BR::BS::Ch::Ci::Cj::Ck::Cm::Cn::Co::Cq::Cr::Ct::Cw::Cx::BU::Ay::BX::BZ::Bf::Bg::CO::CP::CQ::DJ::DK::DL::DN::DR::DT::DU::DV::DW::DX::DY::DZ::Da::Db::Cy::Cz::Bh::Bj::Bl::Bn::Bo::Bp::Bq::Br::Bt::Az::Bu::Bv::Bw::Bz::B_::CB::CS::CU::CV::CW::CX::CY::CZ::Cc::Ce::BK:: [])),[]⟩ wr:=by
 refine wp_loop (fun a wx=> ∃(u8 u9 iX u40 Tk u42 Tn u44 u45 u46 Tp u48 u49 Tq u51 Tt:Value) (k:Nat),k≤m.types.length∧PR w2 wx (YM m++(m.types.take k).flatMap Pk)∧a=⟨(List.toArray (s0::(.pointer (some ⟨w.heap.size,0,none⟩))::s2::s3::s4::(.pointer (some ⟨w2.heap.size,0,none⟩))::(.func (.func 28) #[] #[.pointer (some ⟨w2.heap.size,0,none⟩)])::s7::u8::u9::iX::s11::s12::s13::G5::s15::s16::G6::FW::IY::s20::FP::Gx::Ea::s24::Eb::FQ::Eu::Ev::Ew::Ey::Ez::E5::E8::E9::E_::FB::(.slice A1 m.types.length c1)::(.int .i64 m.types.length)::(.int .i64 k)::u40::Tk::u42::Tn::u44::u45::u46::Tp::u48::u49::Tq::u51::Tt::s53::Fa::Fb::Fe::Fg::Fh::Fj::Fp::Fq::Fu::Fv::Fw::Fx::FC::Fy::s68::Fz::F3::F4::s72::F5::F6::F7::F8::F9::GA::GD::GH::GI::s82::s83::GJ::GK::GL::s87::FD::FE::FH::FI::FJ::Ec::Ed::Ee::Ef::FR::FT::FU::BF::BG::BH::BI::BJ::BL::BM::BN::BO::BP::BQ::BR::BS::Ch::Ci::Cj::Ck::Cm::Cn::Co::Cq::Cr::Ct::Cw::Cx::BU::Ay::BX::BZ::Bf::Bg::CO::CP::CQ::DJ::DK::DL::DN::DR::DT::DU::DV::DW::DX::DY::DZ::Da::Db::Cy::Cz::Bh::Bj::Bl::Bn::Bo::Bp::Bq::Br::Bt::Az::Bu::Bv::Bw::Bz::B_::CB::CS::CU::CV::CW::CX::CY::CZ::Cc::Ce::BK:: [])),[]⟩) (fun a _=>m.types.length-(intOf (a.tmps.getD 39 undef)).toNat) ?_ ?_
 ·exact⟨u8,u9,iX,u40,Tk,u42,Tn,u44,u45,u46,Tp,u48,u49,Tq,u51,Tt,0,Nat.zero_le _,by rw [List.take_zero,List.flatMap_nil,List.append_nil];exact HP.out,rfl⟩
 ·intro a wx hI
  obtain⟨u8,hI⟩:=hI
  obtain⟨u9,hI⟩:=hI
  obtain⟨iX,hI⟩:=hI
  obtain⟨u40,hI⟩:=hI
  obtain⟨Tk,hI⟩:=hI
  obtain⟨u42,hI⟩:=hI
  obtain⟨Tn,hI⟩:=hI
  obtain⟨u44,hI⟩:=hI
  obtain⟨u45,hI⟩:=hI
  obtain⟨u46,hI⟩:=hI
  obtain⟨Tp,hI⟩:=hI
  obtain⟨u48,hI⟩:=hI
  obtain⟨u49,hI⟩:=hI
  obtain⟨Tq,hI⟩:=hI
  obtain⟨u51,hI⟩:=hI
  obtain⟨Tt,hI⟩:=hI
  obtain⟨k,hk,hp,rfl⟩:=hI
  refine Vg C hk (AA hp) _ _ _ _ _ _ _ _ _ _ _ _ _ _ _ _ _ _ _ _ _ _ _ _ _ _ _ _ _ _ _ _ _ _ _ _ _ _ _ _ _ _ _ _ _ _ _ _ _ _ _ _ _ _ _ _ _ _ _ _ _ _ _ _ _ _ _ _ _ _ _ _ _ _ _ _ _ _ _ _ _ _ _ _ _ _ _ _ _ _ _ _ _ _ _ _ _ _ _ _ _ _ _ _ _ _ _ _ _ _ _ _ _ _ _ _ _ _ _ _ _ _ _ _ _ _ _ _ _ _ _ _ _ _ _ _ _ _ _ _ _ _ _ _ _ _ _ _ _ _ _ _ _ _ _ _ _ _ _ _ _ _ _ _ _ _ _ _ _ _ _ _ (AA ?_) HX
  intro u8 u9 iX u40 Tk u42 Tn u44 u45 u46 Tp u48 u49 Tq u51 Tt wy hlt hp2
  refine⟨⟨u8,u9,iX,u40,Tk,u42,Tn,u44,u45,u46,Tp,u48,u49,Tq,u51,Tt,k+1,hlt,hp2,rfl⟩,?_⟩
  show m.types.length-(intOf (.int .i64 ((k+1:Nat):Int))).toNat<m.types.length-(intOf (.int .i64 (k:Int))).toNat
  simp [intOf]
  omega
theorem zm {B b:Nat} {w:World} {l:List UInt8} (h:Ot B b w l):Lib.IsBuilderF 71 5 B b (Lib.byteCells l) w:=by
 obtain⟨p,v,h⟩:=h
 refine Lib.IsBuilderF.of ?_
 have h2:Lib.BuilderAt 71 5 B b p (Lib.byteCells l) w:=⟨h.low,v,h.blk,by rw [Z6,List.length_map];exact h.own,h.ne⟩
 rcases h.ptr with rfl | rfl
 ·exact .inl h2
 ·exact .inr h2
def QS (w:World) (m:AQ) (e:Ending) (w':World):Prop:=Below w.heap.size w w'∧e= .returned (.tuple #[.string (if FM m=0 then BA (Il m) else none_),.int .i64 (FM m)])
theorem ZH (cs:List Value) (hi hj:Nat) (m:AQ) (w:World) (h:IZ.R w 0 hi cs m) (hhi:hi≤w.heap.size) (hle:Ad m≤2147483647) (hE:Dt hj w) (KQ:hj≤w.heap.size):
 Calls prog 10 #[.agg cs.toArray] w (QS w m):=by
 have LU:=Uv h
 obtain⟨v1,v2,v3,v6,v7,v8,rfl,h1,h2,h3,h4,h5,h6,h7,h8⟩:=DF.1 h
 obtain⟨A1,c1,rfl⟩:=AU h1
 obtain⟨A2,c2,rfl⟩:=AU h2
 obtain⟨A3,c3,rfl⟩:=AU h3
 obtain⟨A6,c6,rfl⟩:=AU h6
 obtain⟨A7,c7,rfl⟩:=AU h7
 obtain⟨A8,c8,rfl⟩:=AU h8
 have HH:=AA h;have HE:=AA hE;have HN:=AA LU
 have H1:=AA h1;have H2:=AA h2;have H3:=AA h3;have H6:=AA h6;have H7:=AA h7;have H8:=AA h8
 clear h hE LU h1 h2 h3 h4 h5 h6 h7 h8
 go_enter func10,ntmps10
 go_wp2_with fail
 generalize hw1:World.alloc _ _=w1
 have hb1:Below w.heap.size w w1:=by rw [←hw1];exact(Below.refl _ _).alloc (Nat.le_refl _) _
 have hm1:AV w1 w.heap.size 29 [.slice A1 m.types.length c1,.slice A2 m.hosts.length c2,.slice A3 m.globs.length c3,.int .i64 m.first,.int .i64 m.most,.slice A6 m.fns.length c6,.slice A7 m.dat.length c7,.slice A8 m.AO.length c8]:=by rw [←hw1];exact AV.new w _ _
 clear hw1
 refine(ZE [.slice A1 m.types.length c1,.slice A2 m.hosts.length c2,.slice A3 m.globs.length c3,.int .i64 m.first,.int .i64 m.most,.slice A6 m.fns.length c6,.slice A7 m.dat.length c7,.slice A8 m.AO.length c8] w.heap.size m w1 (IZ.more (Nat.le_refl _) hhi (IZ.below HH.out hb1 hhi)) hb1.size hle HN.out (fun w' hb=>HE.out.asc w' ((hb1.mono KQ).trans (hb.mono KQ)))).mono ?_
 rintro e w2 ⟨hb2,rfl⟩
 have VF:=AA (hm1.below hb2 hm1.lt)
 have HB2:=AA (hb1.trans (hb2.mono hb1.size))
 clear hb1 hm1 hb2
 by_cases hz:FM m=0
 case' neg=>
  have hz0:(FM m !=0)=true:=bne_iff_ne.2 hz
  have HZ:Hid (QS w m (.returned (.tuple #[.string ⟨#[]⟩,.int .i64 (FM m)])) w2):=AA ⟨HB2.out,by rw [if_neg hz];rfl⟩
  clear hz
  go_wp2_with fail
  go_ret2
  exact HZ.out
 have HF:=AA (WO hz HN.out)
 have HLEN:=AA (Uj hz HN.out)
 have hz0:(FM m !=0)=false:=by rw [hz];rfl
 have HZ:=AA hz
 have HT:Hid (∀W,PR w2 W (Il m)→QS w m (.returned (.tuple #[.string (BA (Il m)),.int .i64 0])) W):=AA (fun W hW=>⟨HB2.out.trans (hW.Gg.mono HB2.out.size),by rw [hz,if_pos rfl]⟩)
 clear hz
 go_wp2_with fail
 have C:Hid (M7 w w2 hi hj m A1 c1 A2 c2 A3 c3 A6 c6 A7 c7 A8 c8):=AA ⟨hhi,KQ,HB2.out,VF.out.lt,HE.out,HF.out,HLEN.out,hle,VF.out,H1.out,H2.out,H3.out,H6.out,H7.out,H8.out⟩
 have OY:=AA (Ou m HLEN.out)
 have hbn:=(Below.refl w2.heap.size w2).alloc (Nat.le_refl _) (.cells #[.pointer none,.slice none 0 0] 71)
 refine(Kh [Jj] [Mi] rfl 1 rfl _ (w2.alloc (.cells #[.pointer none,.slice none 0 0] 71)) (by simp) (Ot.new w2) (by simp) OY.out.1 (by decide)).mono ?_
 rintro e w4 ⟨rfl,hA,hB,hK⟩
 have P4:Hid (PR w2 w4 (YM m)):=AA ⟨hbn.trans hB,hA⟩
 have Yp:=C.out.blk.below P4.out.Gg C.out.lt
 have e4:=Yp.q 0 rfl
 clear hA hB hK hbn Yp
 go_wp2_with fail
 refine oO C P4 _ _ _ _ _ _ _ _ _ _ _ _ _ _ _ _ _ _ _ _ _ _ _ _ _ _ _ _ _ _ _ _ _ _ _ _ _ _ _ _ _ _ _ _ _ _ _ _ _ _ _ _ _ _ _ _ _ _ _ _ _ _ _ _ _ _ _ _ _ _ _ _ _ _ _ _ _ _ _ _ _ _ _ _ _ _ _ _ _ _ _ _ _ _ _ _ _ _ _ _ _ _ _ _ _ _ _ _ _ _ _ _ _ _ _ _ _ _ _ _ _ _ _ _ _ _ _ _ _ _ _ _ _ _ _ _ _ _ _ _ _ _ _ _ _ _ _ _ _ _ _ _ _ _ _ _ _ _ _ _ _ _ _ _ _ _ _ _ _ _ _ (AA ?_)
 intro v0_0 v0_1 v0_2 v0_3 v0_4 v0_5 v0_6 v0_7 v0_8 v0_9 v0_10 v0_11 v0_12 v0_13 v0_14 v0_15 w5 hp5
 have P5:=AA hp5
 have kI:=C.out.blk.below hp5.Gg C.out.lt
 have e5:=kI.q 1 rfl
 clear hp5 kI e4
 go_wp2_with fail
 refine oP C P5 _ _ _ _ _ _ _ _ _ _ _ _ _ _ _ _ _ _ _ _ _ _ _ _ _ _ _ _ _ _ _ _ _ _ _ _ _ _ _ _ _ _ _ _ _ _ _ _ _ _ _ _ _ _ _ _ _ _ _ _ _ _ _ _ _ _ _ _ _ _ _ _ _ _ _ _ _ _ _ _ _ _ _ _ _ _ _ _ _ _ _ _ _ _ _ _ _ _ _ _ _ _ _ _ _ _ _ _ _ _ _ _ _ _ _ _ _ _ _ _ _ _ _ _ _ _ _ _ _ _ _ _ _ _ _ _ _ _ _ _ _ _ _ _ _ _ _ _ _ _ _ _ _ _ _ _ _ _ _ _ _ _ _ _ _ _ _ _ _ _ _ (AA ?_)
 intro v1_0 v1_1 v1_2 v1_3 v1_4 v1_5 v1_6 v1_7 v1_8 v1_9 w6 hp6
 have P6:=AA hp6
 have OU:=C.out.blk.below hp6.Gg C.out.lt
 have e6:=OU.q 2 rfl
 clear hp6 OU e5
 go_wp2_with fail
 refine oU C P6 _ _ _ _ _ _ _ _ _ _ _ _ _ _ _ _ _ _ _ _ _ _ _ _ _ _ _ _ _ _ _ _ _ _ _ _ _ _ _ _ _ _ _ _ _ _ _ _ _ _ _ _ _ _ _ _ _ _ _ _ _ _ _ _ _ _ _ _ _ _ _ _ _ _ _ _ _ _ _ _ _ _ _ _ _ _ _ _ _ _ _ _ _ _ _ _ _ _ _ _ _ _ _ _ _ _ _ _ _ _ _ _ _ _ _ _ _ _ _ _ _ _ _ _ _ _ _ _ _ _ _ _ _ _ _ _ _ _ _ _ _ _ _ _ _ _ _ _ _ _ _ _ _ _ _ _ _ _ _ _ _ _ _ _ _ _ _ _ _ _ _ (AA ?_)
 intro v2_0 v2_1 v2_2 v2_3 v2_4 v2_5 v2_6 v2_7 v2_8 v2_9 v2_10 v2_11 v2_12 v2_13 v2_14 v2_15 v2_16 v2_17 v2_18 w7 hp7
 have P7:=AA hp7
 have qD:=C.out.blk.below hp7.Gg C.out.lt
 have a0:=qD.q 3 rfl;have a1:=qD.q 4 rfl
 have b0:=qD.q 3 rfl;have b1:=qD.q 4 rfl
 have HM7:=AA qD
 have hl7:w.heap.size<w7.heap.size:=qD.lt
 have hl2:w2.heap.size≤w7.heap.size:=hp7.Gg.size
 have fM:Hid (∀W,Below w7.heap.size w7 W→Dt hj W):=AA (fun W hW=>C.out.env.to ((C.out.Gg.trans ((P7.out.Gg.trans (hW.mono hl2)).mono C.out.Gg.size)).mono KQ))
 have hfi:=HF.out.first
 have hmo:=HF.out.most
 clear hp7 qD e6
 go_upto_region 26 with fail
 go_region_held3 (fun w'=>w'.cell? ⟨w.heap.size,3,none⟩=some (.int .i64 m.first)∧w'.cell? ⟨w.heap.size,4,none⟩=some (.int .i64 m.most))
  (first | exact⟨a0,a1⟩ | exact⟨b0,b1⟩ | exact⟨d0,d1⟩ | exact⟨g0,g1⟩ | exact⟨g0a _,g1a _⟩ | exact⟨f0,f1⟩)
  (first
   | (go_at_call 32;refine(QE m.first hfi w7.drew (fM.out _ ((Below.refl _ _).drew)) (by simp;omega)).mono ?_;rintro e wa ⟨hba,rfl⟩;have Qz:=Af hba;have iY:w7.heap.size≤wa.heap.size:=Qz.size;have hma:=HM7.out.below Qz hl7;have d0:=hma.q 3 rfl;have d1:=hma.q 4 rfl;have YL:=AA Qz;have oQ:=AA hma;clear hba Qz hma)
   | (go_at_call 32;refine(QE m.most hmo wa (fM.out _ YL.out) (by omega)).mono ?_;rintro e wb ⟨hbb,rfl⟩;have zf:wa.heap.size≤wb.heap.size:=hbb.size;have hmb:=oQ.out.below hbb (by omega);have g0:=hmb.q 3 rfl;have g1:=hmb.q 4 rfl;have g0a: ∀o,(wb.alloc o).cell? ⟨w.heap.size,3,none⟩=some (.int .i64 m.first):=fun o=>(hmb.alloc o).cell 3;have g1a: ∀o,(wb.alloc o).cell? ⟨w.heap.size,4,none⟩=some (.int .i64 m.most):=fun o=>(hmb.alloc o).cell 4;have kU:=AA (YL.out.trans (hbb.mono iY));have HMb:=AA hmb;clear hbb hmb)
   | (go_at_call 28;refine(Kh [Jl,BA (Lib.itoa m.first),BA (Lib.itoa m.most)] [Ik,Lib.itoa m.first,Lib.itoa m.most] rfl 3 rfl _ wb (by simp) (P7.out.aQ.below kU.out) (by omega) OY.out.2.2.2.2.1 (by decide)).mono ?_;rintro e w8 ⟨rfl,hA,hB,hK⟩;have P8:Hid (PR w2 w8 (Tj m)):=AA ⟨P7.out.Gg.trans ((kU.out.mono hl2).trans hB),hA⟩;have hm8:=C.out.blk.below P8.out.Gg C.out.lt;have f0:=hm8.q 3 rfl;have f1:=hm8.q 4 rfl;have HM8:=AA hm8;clear hA hB hK hm8))
 have e8:=HM8.out.q 5 rfl
 clear a0 a1 b0 b1 d0 d1 g0 g1 g0a g1a f0 f1
 go_wp2_with fail
 refine zh C P8 _ _ _ _ _ _ _ _ _ _ _ _ _ _ _ _ _ _ _ _ _ _ _ _ _ _ _ _ _ _ _ _ _ _ _ _ _ _ _ _ _ _ _ _ _ _ _ _ _ _ _ _ _ _ _ _ _ _ _ _ _ _ _ _ _ _ _ _ _ _ _ _ _ _ _ _ _ _ _ _ _ _ _ _ _ _ _ _ _ _ _ _ _ _ _ _ _ _ _ _ _ _ _ _ _ _ _ _ _ _ _ _ _ _ _ _ _ _ _ _ _ _ _ _ _ _ _ _ _ _ _ _ _ _ _ _ _ _ _ _ _ _ _ _ _ _ _ _ _ _ _ _ _ _ _ _ _ _ _ _ _ _ _ _ _ _ _ _ _ _ _ (AA ?_)
 intro v3_0 v3_1 v3_2 v3_3 v3_4 v3_5 v3_6 v3_7 v3_8 v3_9 v3_10 v3_11 v3_12 v3_13 v3_14 v3_15 v3_16 v3_17 v3_18 v3_19 v3_20 v3_21 v3_22 v3_23 v3_24 v3_25 v3_26 v3_27 w9 hp9
 have P9:=AA hp9
 have hm9:=C.out.blk.below hp9.Gg C.out.lt
 have e9:=hm9.q 6 rfl
 clear hp9 hm9 e8
 go_wp2_with fail
 refine vJ C P9 _ _ _ _ _ _ _ _ _ _ _ _ _ _ _ _ _ _ _ _ _ _ _ _ _ _ _ _ _ _ _ _ _ _ _ _ _ _ _ _ _ _ _ _ _ _ _ _ _ _ _ _ _ _ _ _ _ _ _ _ _ _ _ _ _ _ _ _ _ _ _ _ _ _ _ _ _ _ _ _ _ _ _ _ _ _ _ _ _ _ _ _ _ _ _ _ _ _ _ _ _ _ _ _ _ _ _ _ _ _ _ _ _ _ _ _ _ _ _ _ _ _ _ _ _ _ _ _ _ _ _ _ _ _ _ _ _ _ _ _ _ _ _ _ _ _ _ _ _ _ _ _ _ _ _ _ _ _ _ _ _ _ _ _ _ _ _ _ _ _ _ (AA ?_)
 intro v4_0 v4_1 v4_2 v4_3 v4_4 v4_5 v4_6 v4_7 v4_8 v4_9 v4_10 v4_11 v4_12 v4_13 v4_14 v4_15 v4_16 v4_17 v4_18 v4_19 v4_20 v4_21 v4_22 v4_23 v4_24 v4_25 v4_26 v4_27 v4_28 v4_29 v4_30 v4_31 uX ACY
 have P10:=AA ACY
 have AEi:=C.out.blk.below ACY.Gg C.out.lt
 have e10:=AEi.q 7 rfl
 clear ACY AEi e9
 go_wp2_with fail
 refine vK C P10 _ _ _ _ _ _ _ _ _ _ _ _ _ _ _ _ _ _ _ _ _ _ _ _ _ _ _ _ _ _ _ _ _ _ _ _ _ _ _ _ _ _ _ _ _ _ _ _ _ _ _ _ _ _ _ _ _ _ _ _ _ _ _ _ _ _ _ _ _ _ _ _ _ _ _ _ _ _ _ _ _ _ _ _ _ _ _ _ _ _ _ _ _ _ _ _ _ _ _ _ _ _ _ _ _ _ _ _ _ _ _ _ _ _ _ _ _ _ _ _ _ _ _ _ _ _ _ _ _ _ _ _ _ _ _ _ _ _ _ _ _ _ _ _ _ _ _ _ _ _ _ _ _ _ _ _ _ _ _ _ _ _ _ _ _ _ _ _ _ _ _ (AA ?_)
 intro v5_0 v5_1 v5_2 v5_3 v5_4 v5_5 v5_6 v5_7 v5_8 v5_9 AEj AEk AEl fQ ACZ
 have P11:=AA ACZ
 have hm11:=C.out.blk.below ACZ.Gg C.out.lt
 clear ACZ hm11 e10
 have hbs:=zm P11.out.aQ
 have HST:=AA (Builder_String_any_k w2.heap.size w2.heap.size (oN m) fQ hbs P11.out.Gg.size)
 clear hbs
 go_wp2_with fail
 refine HST.out.mono ?_
 rintro e w12 ⟨rfl,_,I5,_⟩
 have TK:Hid (QS w m (.returned (.tuple #[.string ⟨(oN m).toArray⟩,.int .i64 0])) w12):=AA ⟨HB2.out.trans ((P11.out.Gg.trans I5).mono HB2.out.size),by rw [HZ.out,if_pos rfl,←iW];rfl⟩
 clear HST I5
 go_wp2_with fail
 go_ret2
 exact TK.out
set_option maxRecDepth 1000000 in
theorem oz {w w2:World} {hi hj:Nat} {m:AQ} {A1 A2 A3 A6 A7 A8:Option Addr} {c1 c2 c3 c6 c7 c8:Nat} (C:Hid (M7 w w2 hi hj m A1 c1 A2 c2 A3 c3 A6 c6 A7 c7 A8 c8)) {A0:Option Addr} {n0 c0:Nat} {WV:World} (HP:Hid (A_ w2 WV A0 n0 c0 (YM m)))
 (s0 s2 s3 s4 s9 s10 s11 s12 s13 G5 s15 s16 G6 FW IY s20 FP Gx Ea s24 Eb FQ Gb s49 Gc Gd Gf s53 Fa Fb Fe Fg Fh Fj Fp Fq Fu Fv Fw Fx FC Fy s68 Fz F3 F4 s72 F5 F6 F7 F8 F9 GA GD GH GI s82 s83 GJ GK GL s87 FD FE FH FI FJ Ec Ed Ee Ef FR FT FU BF BG BH BI BJ BL BM BN BO BP BQ BR BS Ch Ci Cj Ck Cm Cn Co Cq Cr Ct Cw Cx BU Ay BX BZ Bf Bg CO CP CQ DJ DK DL DN DR DT DU DV DW DX DY DZ Da Db Cy Cz Bh Bj Bl Bn Bo Bp Bq Br Bt Az Bu Bv Bw Bz B_ CB CS CU CV CW CX CY CZ Cc Ce BK LX LY LZ La Lb Lc Ld Le Lf Lg Lh Li Lj Js Jt Ju Jv Jw Jy Jz J2 J3 J4 J5 J6 J7 J8 J9 J_ KA KC KD KF KG KH KI KJ KL KM KN KO KP Ir Iu u7 u8 u27 u28 u29 u30 u31 u32 u33 u34 u35 u36 u37 u38 qI u40 Tk u42 Tn u44 u45 u46 Tp:Value) (Q:Exit→Act→World→Prop) (HX:Hid (∀(u7 u8 u27 u28 u29 u30 u31 u32 u33 u34 u35 u36 u37 u38 qI u40 Tk u42 Tn u44 u45 u46 Tp:Value) (A':Option Addr) (n' c':Nat) (wx:World),A_ w2 wx A' n' c' (Ve m)→Q (.exit 0) ⟨(List.toArray (s0::(.pointer (some ⟨w.heap.size,0,none⟩))::s2::s3::s4::(.slice A' n' c')::(.int .i64 m.types.length)::u7::u8::s9::s10::s11::s12::s13::G5::s15::s16::G6::FW::IY::s20::FP::Gx::Ea::s24::Eb::FQ::u27::u28::u29::u30::u31::u32::u33::u34::u35::u36::u37::u38::qI::u40::Tk::u42::Tn::u44::u45::u46::Tp::Gb::s49::Gc::Gd::Gf::s53::Fa::Fb::Fe::Fg::Fh::Fj::Fp::Fq::Fu::Fv::Fw::Fx::FC::Fy::s68::Fz::F3::F4::s72::F5::F6::F7::F8::F9::GA::GD::GH::GI::s82::s83::GJ::GK::GL::s87::FD::FE::FH::FI::FJ::Ec::Ed::Ee::Ef::FR::FT::FU::BF::BG::BH::BI::BJ::BL::BM::BN::BO::BP::BQ::BR::BS::Ch::Ci::Cj::Ck::Cm::Cn::Co::Cq::Cr::Ct::Cw::Cx::BU::Ay::BX::BZ::Bf::Bg::CO::CP::CQ::DJ::DK::DL::DN::DR::DT::DU::DV::DW::DX::DY::DZ::Da::Db::Cy::Cz::Bh::Bj::Bl::Bn::Bo::Bp::Bq::Br::Bt::Az::Bu::Bv::Bw::Bz::B_::CB::CS::CU::CV::CW::CX::CY::CZ::Cc::Ce::BK::LX::LY::LZ::La::Lb::Lc::Ld::Le::Lf::Lg::Lh::Li::Lj::Js::Jt::Ju::Jv::Jw::Jy::Jz::J2::J3::J4::J5::J6::J7::J8::J9::J_::KA::KC::KD::KF::KG::KH::KI::KJ::KL::KM::KN::KO::KP::Ir::Iu:: [])),[]⟩ wx)):
 Code.wp prog (Code.loop (SQ 0)) Q ⟨(List.toArray (s0::(.pointer (some ⟨w.heap.size,0,none⟩))::s2::s3::s4::(.slice A0 n0 c0)::(.int .i64 0)::u7::u8::s9::s10::s11::s12::s13::G5::s15::s16::G6::FW::IY::s20::FP::Gx::Ea::s24::Eb::FQ::u27::u28::u29::u30::u31::u32::u33::u34::u35::u36::u37::u38::qI::u40::Tk::u42::Tn::u44::u45::u46::Tp::Gb::s49::Gc::Gd::Gf::s53::Fa::Fb::Fe::Fg::Fh::Fj::Fp::Fq::Fu::Fv::Fw::Fx::FC::Fy::s68::Fz::F3::F4::s72::F5::F6::F7::F8::F9::GA::GD::GH::GI::s82::s83::GJ::GK::GL::s87::FD::FE::FH::FI::FJ::Ec::Ed::Ee::Ef::FR::FT::FU::BF::BG::BH::BI::BJ::BL::BM::BN::BO::BP::BQ::BR::BS::Ch::Ci::Cj::Ck::Cm::Cn::Co::Cq::Cr::Ct::Cw::Cx::BU::Ay::BX::BZ::Bf::Bg::CO::CP::CQ::DJ::DK::DL::DN::DR::DT::DU::DV::DW::DX::DY::DZ::Da::Db::Cy::Cz::Bh::Bj::Bl::Bn::Bo::Bp::Bq::Br::Bt::Az::Bu::Bv::Bw::Bz::B_::CB::CS::CU::CV::CW::CX::CY::CZ::Cc::Ce::BK::LX::LY::LZ::La::Lb::Lc::Ld::Le::Lf::Lg::Lh::Li::Lj::Js::Jt::Ju::Jv::Jw::Jy::Jz::J2::J3::J4::J5::J6::J7::J8::J9::J_::KA::KC::KD::KF::KG::KH::KI::KJ::KL::KM::KN::KO::KP::Ir::Iu:: [])),[]⟩ WV:=by
 refine wp_loop (fun a wx=> ∃(u7 u8 u27 u28 u29 u30 u31 u32 u33 u34 u35 u36 u37 u38 qI u40 Tk u42 Tn u44 u45 u46 Tp:Value) (A':Option Addr) (n' c' k:Nat),k≤m.types.length∧A_ w2 wx A' n' c' (YM m++(m.types.take k).flatMap Pk)∧a=⟨(List.toArray (s0::(.pointer (some ⟨w.heap.size,0,none⟩))::s2::s3::s4::(.slice A' n' c')::(.int .i64 k)::u7::u8::s9::s10::s11::s12::s13::G5::s15::s16::G6::FW::IY::s20::FP::Gx::Ea::s24::Eb::FQ::u27::u28::u29::u30::u31::u32::u33::u34::u35::u36::u37::u38::qI::u40::Tk::u42::Tn::u44::u45::u46::Tp::Gb::s49::Gc::Gd::Gf::s53::Fa::Fb::Fe::Fg::Fh::Fj::Fp::Fq::Fu::Fv::Fw::Fx::FC::Fy::s68::Fz::F3::F4::s72::F5::F6::F7::F8::F9::GA::GD::GH::GI::s82::s83::GJ::GK::GL::s87::FD::FE::FH::FI::FJ::Ec::Ed::Ee::Ef::FR::FT::FU::BF::BG::BH::BI::BJ::BL::BM::BN::BO::BP::BQ::BR::BS::Ch::Ci::Cj::Ck::Cm::Cn::Co::Cq::Cr::Ct::Cw::Cx::BU::Ay::BX::BZ::Bf::Bg::CO::CP::CQ::DJ::DK::DL::DN::DR::DT::DU::DV::DW::DX::DY::DZ::Da::Db::Cy::Cz::Bh::Bj::Bl::Bn::Bo::Bp::Bq::Br::Bt::Az::Bu::Bv::Bw::Bz::B_::CB::CS::CU::CV::CW::CX::CY::CZ::Cc::Ce::BK::LX::LY::LZ::La::Lb::Lc::Ld::Le::Lf::Lg::Lh::Li::Lj::Js::Jt::Ju::Jv::Jw::Jy::Jz::J2::J3::J4::J5::J6::J7::J8::J9::J_::KA::KC::KD::KF::KG::KH::KI::KJ::KL::KM::KN::KO::KP::Ir::Iu:: [])),[]⟩) (fun a _=>m.types.length-(intOf (a.tmps.getD 6 undef)).toNat) ?_ ?_
 ·exact⟨u7,u8,u27,u28,u29,u30,u31,u32,u33,u34,u35,u36,u37,u38,qI,u40,Tk,u42,Tn,u44,u45,u46,Tp,A0,n0,c0,0,Nat.zero_le _,by rw [List.take_zero,List.flatMap_nil,List.append_nil];exact HP.out,rfl⟩
 intro a wr hI
 clear HP u7 u8 u27 u28 u29 u30 u31 u32 u33 u34 u35 u36 u37 u38 qI u40 Tk u42 Tn u44 u45 u46 Tp
 obtain⟨u7,u8,u27,u28,u29,u30,u31,u32,u33,u34,u35,u36,u37,u38,qI,u40,Tk,u42,Tn,u44,u45,u46,Tp,A,n,c,k,hk,hp,rfl⟩:=hI
 have HP:=AA hp
 clear hp
 refine Iz (fun K=> ∀(u7 u8 u27 u28 u29 u30 u31 u32 u33 u34 u35 u36 u37 u38 qI u40 Tk u42 Tn u44 u45 u46 Tp:Value) (A':Option Addr) (n' c':Nat) (wx:World),k<m.types.length→A_ w2 wx A' n' c' (YM m++(m.types.take (k+1)).flatMap Pk)→K ⟨(List.toArray (s0::(.pointer (some ⟨w.heap.size,0,none⟩))::s2::s3::s4::(.slice A' n' c')::(.int .i64 ((k:Int)+1))::u7::u8::s9::s10::s11::s12::s13::G5::s15::s16::G6::FW::IY::s20::FP::Gx::Ea::s24::Eb::FQ::u27::u28::u29::u30::u31::u32::u33::u34::u35::u36::u37::u38::qI::u40::Tk::u42::Tn::u44::u45::u46::Tp::Gb::s49::Gc::Gd::Gf::s53::Fa::Fb::Fe::Fg::Fh::Fj::Fp::Fq::Fu::Fv::Fw::Fx::FC::Fy::s68::Fz::F3::F4::s72::F5::F6::F7::F8::F9::GA::GD::GH::GI::s82::s83::GJ::GK::GL::s87::FD::FE::FH::FI::FJ::Ec::Ed::Ee::Ef::FR::FT::FU::BF::BG::BH::BI::BJ::BL::BM::BN::BO::BP::BQ::BR::BS::Ch::Ci::Cj::Ck::Cm::Cn::Co::Cq::Cr::Ct::Cw::Cx::BU::Ay::BX::BZ::Bf::Bg::CO::CP::CQ::DJ::DK::DL::DN::DR::DT::DU::DV::DW::DX::DY::DZ::Da::Db::Cy::Cz::Bh::Bj::Bl::Bn::Bo::Bp::Bq::Br::Bt::Az::Bu::Bv::Bw::Bz::B_::CB::CS::CU::CV::CW::CX::CY::CZ::Cc::Ce::BK::LX::LY::LZ::La::Lb::Lc::Ld::Le::Lf::Lg::Lh::Li::Lj::Js::Jt::Ju::Jv::Jw::Jy::Jz::J2::J3::J4::J5::J6::J7::J8::J9::J_::KA::KC::KD::KF::KG::KH::KI::KJ::KL::KM::KN::KO::KP::Ir::Iu:: [])),[]⟩ wx) ?_ ?_
 ·intro u7 u8 u27 u28 u29 u30 u31 u32 u33 u34 u35 u36 u37 u38 qI u40 Tk u42 Tn u44 u45 u46 Tp A2 n2 c2 wy hlt hp2
  refine⟨⟨u7,u8,u27,u28,u29,u30,u31,u32,u33,u34,u35,u36,u37,u38,qI,u40,Tk,u42,Tn,u44,u45,u46,Tp,A2,n2,c2,k+1,hlt,hp2,rfl⟩,?_⟩
  show m.types.length-(intOf (.int .i64 ((k+1:Nat):Int))).toNat<m.types.length-(intOf (.int .i64 (k:Int))).toNat
  simp [intOf]
  omega
 intro K HK
 conv=>arg 2;whnf
 have Eo:=AA (C.out.Gg.trans (HP.out.2.mono C.out.Gg.size))
 have fT:=AA (C.out.blk.below HP.out.2 C.out.lt)
 have hsz:w2.heap.size≤wr.heap.size:=HP.out.2.size
 have hsw:w.heap.size<w2.heap.size:=C.out.lt
 have hhi:=C.out.hhi
 have hk0:(0:Int)≤k:=by omega
 have q0:=fT.out.q 0 rfl
 by_cases hlt:k<m.types.length
 ·obtain⟨x,hx⟩: ∃x,m.types[k]?=some x:=⟨_,List.getElem?_eq_getElem hlt⟩
  have Lr:(k:Int)<m.types.length:=by omega
  have Ux:m.types.length≤2147483647:=by have:=C.out.few;unfold Ad at this;omega
  obtain⟨bk,ok,rfl,_,Kg,hc0,hc1,ho0,ho1⟩:=Ii (Rd.below C.out.h1 Eo.out hhi) hx
  have Ls:=AA (Dz (YM m) Pk hx)
  have KZ:=AA (DC (YM m) Pk hx)
  have K8:(YM m++m.types.flatMap Pk).length≤1048576:=by have:=Ou m C.out.le;first | exact this.2.1 | exact this.2.2.1 | exact this.2.2.2.1 | exact this.2.2.2.2.1 | exact this.2.2.2.2.2.1 | exact this.2.2.2.2.2.2.1 | exact this.2.2.2.2.2.2.2
  have HL2:Hid ((YM m++(m.types.take k).flatMap Pk).length+(Pk x).length≤140737488351232):=AA (by have:=KZ.out;rw [List.length_append] at this;omega)
  have vk:Hid ((Pk x).length≤1048576):=AA (by have:=KZ.out;rw [List.length_append] at this;omega)
  have Xl:=AA (List.mem_of_getElem? hx)
  clear hx
  have HW:=AA (dz (C.out.fine.types x Xl.out).1)
  clear HX
  go_wp2_with fail
  refine(qy x.p x.r ho0 ho1 _).mono ?_
  rintro e w5 ⟨hb5,rfl⟩
  have I8:Hid (Below wr.heap.size wr w5):=AA hb5
  have ow:=AA (HP.out.below I8.out)
  rw [HW.out]
  have hz:(BA (UY x)).size≤1048576:=by rw [JY];have:=vk.out;unfold Pk at this;rw [PS] at this;simp only [List.length_append,List.length_cons] at this;omega
  generalize hd:BA (UY x)=ds at hz⊢
  have X4:Hid ((⟨#[116,121,112,101,32]⟩++ds++⟨#[10]⟩:ByteArray).data.toList=Pk x):=AA (by rw [str3 _ _ _ (UY x) hd.symm];unfold Pk;rw [PS];simp [Sn])
  clear hb5 hd HW hc0 hc1
  go_wp2_with (at_builtin;refine SN w2 (w7:=w5) (r7:=(Value.slice A n c).ownBlock) _ rfl _ _ rfl A n c _ rfl ow.out (Aside.refl w5 _) _ _ X4.out rfl HL2.out ?_;intro A6 n6 c6 w6 h6 Rf;have Oa:=AA h6;clear h6 Rf)
  apply HK.out
  ·exact hlt
  ·rw [←Ls.out];exact Oa.out
 ·obtain rfl:k=m.types.length:=by omega
  have Qf:Hid (A_ w2 wr A n c (Ve m)):=AA (by have:=HP.out;rw [List.take_length] at this;exact this)
  clear HP HK
  go_wp2_with fail
  apply HX.out
  exact Qf.out
end Go.Proofs.YtebgikflpgcnlaaGreatDoor
