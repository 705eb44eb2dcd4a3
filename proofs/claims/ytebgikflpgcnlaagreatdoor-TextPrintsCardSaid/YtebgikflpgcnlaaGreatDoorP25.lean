/- Part 25 of the proof: R6F PrtH PrtE -/
import Derived.Test.YtebgikflpgcnlaaGreatDoorP16
namespace Go.Proofs.YtebgikflpgcnlaaGreatDoor
set_option linter.unusedVariables false
set_option linter.unusedSimpArgs false
set_option maxRecDepth 100000
set_option maxHeartbeats 4000000
open Go.RowKit Tryz
set_option maxRecDepth 1000000 in
theorem o7 {w w2:World} {hi hj:Nat} {m:AQ} {A1 A2 A3 A6 A7 A8:Option Addr} {c1 c2 c3 c6 c7 c8:Nat} (C:Hid (M7 w w2 hi hj m A1 c1 A2 c2 A3 c3 A6 c6 A7 c7 A8 c8)) {A0:Option Addr} {n0 c0:Nat} {WV:World} (HP:Hid (A_ w2 WV A0 n0 c0 (Ve m)))
 (s0 s2 s3 s4 s6 s7 s8 s10 s11 s12 s13 G5 s15 s16 G6 FW IY s20 FP Gx Ea s24 Eb FQ Eu Ev Ew Ey Ez E5 E8 E9 E_ FB GN GQ GR GU GV GX s43 s44 GY GZ Ga Fx FC Fy s68 Fz F3 F4 s72 F5 F6 F7 F8 F9 GA GD GH GI s82 s83 GJ GK GL s87 FD FE FH FI FJ Ec Ed Ee Ef FR FT FU BF BG BH BI BJ BL BM BN BO BP BQ BR BS Ch Ci Cj Ck Cm Cn Co Cq Cr Ct Cw Cx BU Ay BX BZ Bf Bg CO CP CQ DJ DK DL DN DR DT DU DV DW DX DY DZ Da Db Cy Cz Bh Bj Bl Bn Bo Bp Bq Br Bt Az Bu Bv Bw Bz B_ CB CS CU CV CW CX CY CZ Cc Ce BK LX LY LZ La Lb Lc Ld Le Lf Lg Lh Li Lj Js Jt Ju Jv Jw Jy Jz J2 J3 J4 J5 J6 J7 J8 J9 J_ KA KC KD KF KG KH KI KJ KL KM KN KO KP Ir Iu u48 u49 Tq u51 Tt u53 qJ u55 qK Tw u58 u59 u60 Tx Tz u63 u64:Value) (Q:Exit→Act→World→Prop) (HX:Hid (∀(u48 u49 Tq u51 Tt u53 qJ u55 qK Tw u58 u59 u60 Tx Tz u63 u64:Value) (A':Option Addr) (n' c':Nat) (wx:World),A_ w2 wx A' n' c' (Vf m)→Q (.exit 2) ⟨(List.toArray (s0::(.pointer (some ⟨w.heap.size,0,none⟩))::s2::s3::s4::(.slice A' n' c')::s6::s7::s8::(.int .i64 m.hosts.length)::s10::s11::s12::s13::G5::s15::s16::G6::FW::IY::s20::FP::Gx::Ea::s24::Eb::FQ::Eu::Ev::Ew::Ey::Ez::E5::E8::E9::E_::FB::GN::GQ::GR::GU::GV::GX::s43::s44::GY::GZ::Ga::u48::u49::Tq::u51::Tt::u53::qJ::u55::qK::Tw::u58::u59::u60::Tx::Tz::u63::u64::Fx::FC::Fy::s68::Fz::F3::F4::s72::F5::F6::F7::F8::F9::GA::GD::GH::GI::s82::s83::GJ::GK::GL::s87::FD::FE::FH::FI::FJ::Ec::Ed::Ee::Ef::FR::FT::FU::BF::BG::BH::BI::BJ::BL::BM::BN::BO::BP::BQ::BR::BS::Ch::Ci::Cj::Ck::Cm::Cn::Co::Cq::Cr::Ct::Cw::Cx::BU::Ay::BX::BZ::Bf::Bg::CO::CP::CQ::DJ::DK::DL::DN::DR::DT::DU::DV::DW::DX::DY::DZ::Da::Db::Cy::Cz::Bh::Bj::Bl::Bn::Bo::Bp::Bq::Br::Bt::Az::Bu::Bv::Bw::Bz::B_::CB::CS::CU::CV::CW::CX::CY::CZ::Cc::Ce::BK::LX::LY::LZ::La::Lb::Lc::Ld::Le::Lf::Lg::Lh::Li::Lj::Js::Jt::Ju::Jv::Jw::Jy::Jz::J2::J3::J4::J5::J6::J7::J8::J9::J_::KA::KC::KD::KF::KG::KH::KI::KJ::KL::KM::KN::KO::KP::Ir::Iu:: [])),[]⟩ wx)):
 Code.wp prog (Code.loop (SQ 1)) Q ⟨(List.toArray (s0::(.pointer (some ⟨w.heap.size,0,none⟩))::s2::s3::s4::(.slice A0 n0 c0)::s6::s7::s8::(.int .i64 0)::s10::s11::s12::s13::G5::s15::s16::G6::FW::IY::s20::FP::Gx::Ea::s24::Eb::FQ::Eu::Ev::Ew::Ey::Ez::E5::E8::E9::E_::FB::GN::GQ::GR::GU::GV::GX::s43::s44::GY::GZ::Ga::u48::u49::Tq::u51::Tt::u53::qJ::u55::qK::Tw::u58::u59::u60::Tx::Tz::u63::u64::Fx::FC::Fy::s68::Fz::F3::F4::s72::F5::F6::F7::F8::F9::GA::GD::GH::GI::s82::s83::GJ::GK::GL::s87::FD::FE::FH::FI::FJ::Ec::Ed::Ee::Ef::FR::FT::FU::BF::BG::BH::BI::BJ::BL::BM::BN::BO::BP::BQ::BR::BS::Ch::Ci::Cj::Ck::Cm::Cn::Co::Cq::Cr::Ct::Cw::Cx::BU::Ay::BX::BZ::Bf::Bg::CO::CP::CQ::DJ::DK::DL::DN::DR::DT::DU::DV::DW::DX::DY::DZ::Da::Db::Cy::Cz::Bh::Bj::Bl::Bn::Bo::Bp::Bq::Br::Bt::Az::Bu::Bv::Bw::Bz::B_::CB::CS::CU::CV::CW::CX::CY::CZ::Cc::Ce::BK::LX::LY::LZ::La::Lb::Lc::Ld::Le::Lf::Lg::Lh::Li::Lj::Js::Jt::Ju::Jv::Jw::Jy::Jz::J2::J3::J4::J5::J6::J7::J8::J9::J_::KA::KC::KD::KF::KG::KH::KI::KJ::KL::KM::KN::KO::KP::Ir::Iu:: [])),[]⟩ WV:=by
 refine wp_loop (fun a wx=> ∃(u48 u49 Tq u51 Tt u53 qJ u55 qK Tw u58 u59 u60 Tx Tz u63 u64:Value) (A':Option Addr) (n' c' k:Nat),k≤m.hosts.length∧A_ w2 wx A' n' c' (Ve m++(m.hosts.take k).flatMap LW)∧a=⟨(List.toArray (s0::(.pointer (some ⟨w.heap.size,0,none⟩))::s2::s3::s4::(.slice A' n' c')::s6::s7::s8::(.int .i64 k)::s10::s11::s12::s13::G5::s15::s16::G6::FW::IY::s20::FP::Gx::Ea::s24::Eb::FQ::Eu::Ev::Ew::Ey::Ez::E5::E8::E9::E_::FB::GN::GQ::GR::GU::GV::GX::s43::s44::GY::GZ::Ga::u48::u49::Tq::u51::Tt::u53::qJ::u55::qK::Tw::u58::u59::u60::Tx::Tz::u63::u64::Fx::FC::Fy::s68::Fz::F3::F4::s72::F5::F6::F7::F8::F9::GA::GD::GH::GI::s82::s83::GJ::GK::GL::s87::FD::FE::FH::FI::FJ::Ec::Ed::Ee::Ef::FR::FT::FU::BF::BG::BH::BI::BJ::BL::BM::BN::BO::BP::BQ::BR::BS::Ch::Ci::Cj::Ck::Cm::Cn::Co::Cq::Cr::Ct::Cw::Cx::BU::Ay::BX::BZ::Bf::Bg::CO::CP::CQ::DJ::DK::DL::DN::DR::DT::DU::DV::DW::DX::DY::DZ::Da::Db::Cy::Cz::Bh::Bj::Bl::Bn::Bo::Bp::Bq::Br::Bt::Az::Bu::Bv::Bw::Bz::B_::CB::CS::CU::CV::CW::CX::CY::CZ::Cc::Ce::BK::LX::LY::LZ::La::Lb::Lc::Ld::Le::Lf::Lg::Lh::Li::Lj::Js::Jt::Ju::Jv::Jw::Jy::Jz::J2::J3::J4::J5::J6::J7::J8::J9::J_::KA::KC::KD::KF::KG::KH::KI::KJ::KL::KM::KN::KO::KP::Ir::Iu:: [])),[]⟩) (fun a _=>m.hosts.length-(intOf (a.tmps.getD 9 undef)).toNat) ?_ ?_
 ·exact⟨u48,u49,Tq,u51,Tt,u53,qJ,u55,qK,Tw,u58,u59,u60,Tx,Tz,u63,u64,A0,n0,c0,0,Nat.zero_le _,by rw [List.take_zero,List.flatMap_nil,List.append_nil];exact HP.out,rfl⟩
 intro a wr hI
 clear HP u48 u49 Tq u51 Tt u53 qJ u55 qK Tw u58 u59 u60 Tx Tz u63 u64
 obtain⟨u48,u49,Tq,u51,Tt,u53,qJ,u55,qK,Tw,u58,u59,u60,Tx,Tz,u63,u64,A,n,c,k,hk,hp,rfl⟩:=hI
 have HP:=AA hp
 clear hp
 refine Iz (fun K=> ∀(u48 u49 Tq u51 Tt u53 qJ u55 qK Tw u58 u59 u60 Tx Tz u63 u64:Value) (A':Option Addr) (n' c':Nat) (wx:World),k<m.hosts.length→A_ w2 wx A' n' c' (Ve m++(m.hosts.take (k+1)).flatMap LW)→K ⟨(List.toArray (s0::(.pointer (some ⟨w.heap.size,0,none⟩))::s2::s3::s4::(.slice A' n' c')::s6::s7::s8::(.int .i64 ((k:Int)+1))::s10::s11::s12::s13::G5::s15::s16::G6::FW::IY::s20::FP::Gx::Ea::s24::Eb::FQ::Eu::Ev::Ew::Ey::Ez::E5::E8::E9::E_::FB::GN::GQ::GR::GU::GV::GX::s43::s44::GY::GZ::Ga::u48::u49::Tq::u51::Tt::u53::qJ::u55::qK::Tw::u58::u59::u60::Tx::Tz::u63::u64::Fx::FC::Fy::s68::Fz::F3::F4::s72::F5::F6::F7::F8::F9::GA::GD::GH::GI::s82::s83::GJ::GK::GL::s87::FD::FE::FH::FI::FJ::Ec::Ed::Ee::Ef::FR::FT::FU::BF::BG::BH::BI::BJ::BL::BM::BN::BO::BP::BQ::BR::BS::Ch::Ci::Cj::Ck::Cm::Cn::Co::Cq::Cr::Ct::Cw::Cx::BU::Ay::BX::BZ::Bf::Bg::CO::CP::CQ::DJ::DK::DL::DN::DR::DT::DU::DV::DW::DX::DY::DZ::Da::Db::Cy::Cz::Bh::Bj::Bl::Bn::Bo::Bp::Bq::Br::Bt::Az::Bu::Bv::Bw::Bz::B_::CB::CS::CU::CV::CW::CX::CY::CZ::Cc::Ce::BK::LX::LY::LZ::La::Lb::Lc::Ld::Le::Lf::Lg::Lh::Li::Lj::Js::Jt::Ju::Jv::Jw::Jy::Jz::J2::J3::J4::J5::J6::J7::J8::J9::J_::KA::KC::KD::KF::KG::KH::KI::KJ::KL::KM::KN::KO::KP::Ir::Iu:: [])),[]⟩ wx) ?_ ?_
 ·intro u48 u49 Tq u51 Tt u53 qJ u55 qK Tw u58 u59 u60 Tx Tz u63 u64 A2 n2 c2 wy hlt hp2
  refine⟨⟨u48,u49,Tq,u51,Tt,u53,qJ,u55,qK,Tw,u58,u59,u60,Tx,Tz,u63,u64,A2,n2,c2,k+1,hlt,hp2,rfl⟩,?_⟩
  show m.hosts.length-(intOf (.int .i64 ((k+1:Nat):Int))).toNat<m.hosts.length-(intOf (.int .i64 (k:Int))).toNat
  simp [intOf]
  omega
 intro K HK
 conv=>arg 2;whnf
 have Eo:=AA (C.out.Gg.trans (HP.out.2.mono C.out.Gg.size))
 have fT:=AA (C.out.blk.below HP.out.2 C.out.lt)
 have hsz:w2.heap.size≤wr.heap.size:=HP.out.2.size
 have hsw:w.heap.size<w2.heap.size:=C.out.lt
 have hhi:=C.out.hhi
 have hk0:(0:Int)≤k:=by omega
 have q0:=fT.out.q 1 rfl
 by_cases hlt:k<m.hosts.length
 ·obtain⟨x,hx⟩: ∃x,m.hosts[k]?=some x:=⟨_,List.getElem?_eq_getElem hlt⟩
  have Lr:(k:Int)<m.hosts.length:=by omega
  have Ux:m.hosts.length≤2147483647:=by have:=C.out.few;unfold Ad at this;omega
  obtain⟨bk,ok,rfl,_,Kg,hc0,Lp⟩:=ints_at (Rd.below C.out.h2 Eo.out hhi) hx
  have Ls:=AA (Dz (Ve m) LW hx)
  have KZ:=AA (DC (Ve m) LW hx)
  have K8:(Ve m++m.hosts.flatMap LW).length≤1048576:=by have:=Ou m C.out.le;first | exact this.2.1 | exact this.2.2.1 | exact this.2.2.2.1 | exact this.2.2.2.2.1 | exact this.2.2.2.2.2.1 | exact this.2.2.2.2.2.2.1 | exact this.2.2.2.2.2.2.2
  have HL2:Hid ((Ve m++(m.hosts.take k).flatMap LW).length+(LW x).length≤140737488351232):=AA (by have:=KZ.out;rw [List.length_append] at this;omega)
  have vk:Hid ((LW x).length≤1048576):=AA (by have:=KZ.out;rw [List.length_append] at this;omega)
  have Xl:=AA (List.mem_of_getElem? hx)
  clear hx
  have X3:=AA (Iq x Lp wr)
  have hz:(BA (Lib.itoa x)).size≤20:=by rw [JY];exact Dc x Lp
  clear HX
  go_wp2_with fail
  refine X3.out.mono ?_
  rintro e w5 ⟨hb5,rfl⟩
  have ow:=AA (HP.out.below hb5)
  generalize hd:BA (Lib.itoa x)=ds at hz⊢
  have X4:Hid ((⟨#[101,120,116,101,114,110,32]⟩++ds++⟨#[10]⟩:ByteArray).data.toList=LW x):=AA (by rw [str3 _ _ _ (Lib.itoa x) hd.symm];unfold LW;rw [PS];simp [Nj])
  clear hb5 hd X3 hc0
  go_wp2_with (at_builtin;refine SN w2 (w7:=w5) (r7:=(Value.slice A n c).ownBlock) _ rfl _ _ rfl A n c _ rfl ow.out (Aside.refl w5 _) _ _ X4.out rfl HL2.out ?_;intro A6 n6 c6 w6 h6 Rf;have Oa:=AA h6;clear h6 Rf)
  apply HK.out
  ·exact hlt
  ·rw [←Ls.out];exact Oa.out
 ·obtain rfl:k=m.hosts.length:=by omega
  have Qf:Hid (A_ w2 wr A n c (Vf m)):=AA (by have:=HP.out;rw [List.take_length] at this;exact this)
  clear HP HK
  go_wp2_with fail
  apply HX.out
  exact Qf.out
set_option maxRecDepth 1000000 in
theorem Xq {w w2:World} {hi hj:Nat} {m:AQ} {A1 A2 A3 A6 A7 A8:Option Addr} {c1 c2 c3 c6 c7 c8:Nat} (C:Hid (M7 w w2 hi hj m A1 c1 A2 c2 A3 c3 A6 c6 A7 c7 A8 c8)) {k:Nat} {wr:World} (hk:k≤m.AO.length) (HP:Hid (PR w2 wr (VQ m++(m.AO.take k).flatMap NA)))
 (s0 s2 s3 s4 s7 s8 s9 s10 s11 s12 s13 G5 s15 s16 G6 FW IY s20 FP Gx Ea s24 Eb Eu Ev Ew Ey Ez E5 E8 E9 E_ FB GN GQ GR GU GV GX s43 s44 GY GZ Ga Gb s49 Gc Gd Gf s53 Fa Fb Fe Fg Fh Fj Fp Fq Fu Fv Fw Fx FC Fy s68 Fz F3 F4 s72 F5 F6 F7 F8 F9 GA GD GH GI s82 s83 GJ GK GL s87 FD FE FH FI FJ Ec Ed Ee Ef FR FT FU BF BG BH BI BJ BL BM BN BO BP BQ BR BS Ch Ci Cj Ck Cm Cn Co Cq Cr Ct Cw Cx BU Ay BX BZ Bf Bg CO CP CQ DJ DK DL DN DR DT DU DV DW DX DY DZ Da Db Cy Cz Bh Bj Bl Bn Bo Bp Bq Br Bt Az BK u26 MP u164 MQ IG II IJ IK IL IQ IU IV IW:Value) (K:Act→World→Prop) (Q:Exit→Act→World→Prop) (HK:Hid (∀(u26 MP u164 MQ IG II IJ IK IL IQ IU IV IW:Value) (wx:World),k<m.AO.length→PR w2 wx (VQ m++(m.AO.take (k+1)).flatMap NA)→K ⟨(List.toArray (s0::(.pointer (some ⟨w.heap.size,0,none⟩))::s2::s3::s4::(.pointer (some ⟨w2.heap.size,0,none⟩))::(.func (.func 28) #[] #[.pointer (some ⟨w2.heap.size,0,none⟩)])::s7::s8::s9::s10::s11::s12::s13::G5::s15::s16::G6::FW::IY::s20::FP::Gx::Ea::s24::Eb::u26::Eu::Ev::Ew::Ey::Ez::E5::E8::E9::E_::FB::GN::GQ::GR::GU::GV::GX::s43::s44::GY::GZ::Ga::Gb::s49::Gc::Gd::Gf::s53::Fa::Fb::Fe::Fg::Fh::Fj::Fp::Fq::Fu::Fv::Fw::Fx::FC::Fy::s68::Fz::F3::F4::s72::F5::F6::F7::F8::F9::GA::GD::GH::GI::s82::s83::GJ::GK::GL::s87::FD::FE::FH::FI::FJ::Ec::Ed::Ee::Ef::FR::FT::FU::BF::BG::BH::BI::BJ::BL::BM::BN::BO::BP::BQ::BR::BS::Ch::Ci::Cj::Ck::Cm::Cn::Co::Cq::Cr::Ct::Cw::Cx::BU::Ay::BX::BZ::Bf::Bg::CO::CP::CQ::DJ::DK::DL::DN::DR::DT::DU::DV::DW::DX::DY::DZ::Da::Db::Cy::Cz::Bh::Bj::Bl::Bn::Bo::Bp::Bq::Br::Bt::Az::(.slice A8 m.AO.length c8)::(.int .i64 m.AO.length)::(.int .i64 ((k:Int)+1))::MP::u164::MQ::IG::II::IJ::IK::IL::IQ::IU::IV::IW::BK:: [])),[]⟩ wx)) (HX:Hid (∀(u26 MP u164 MQ IG II IJ IK IL IQ IU IV IW:Value) (wx:World),PR w2 wx (oN m)→Q (.exit 14) ⟨(List.toArray (s0::(.pointer (some ⟨w.heap.size,0,none⟩))::s2::s3::s4::(.pointer (some ⟨w2.heap.size,0,none⟩))::(.func (.func 28) #[] #[.pointer (some ⟨w2.heap.size,0,none⟩)])::s7::s8::s9::s10::s11::s12::s13::G5::s15::s16::G6::FW::IY::s20::FP::Gx::Ea::s24::Eb::u26::Eu::Ev::Ew::Ey::Ez::E5::E8::E9::E_::FB::GN::GQ::GR::GU::GV::GX::s43::s44::GY::GZ::Ga::Gb::s49::Gc::Gd::Gf::s53::Fa::Fb::Fe::Fg::Fh::Fj::Fp::Fq::Fu::Fv::Fw::Fx::FC::Fy::s68::Fz::F3::F4::s72::F5::F6::F7::F8::F9::GA::GD::GH::GI::s82::s83::GJ::GK::GL::s87::FD::FE::FH::FI::FJ::Ec::Ed::Ee::Ef::FR::FT::FU::BF::BG::BH::BI::BJ::BL::BM::BN::BO::BP::BQ::BR::BS::Ch::Ci::Cj::Ck::Cm::Cn::Co::Cq::Cr::Ct::Cw::Cx::BU::Ay::BX::BZ::Bf::Bg::CO::CP::CQ::DJ::DK::DL::DN::DR::DT::DU::DV::DW::DX::DY::DZ::Da::Db::Cy::Cz::Bh::Bj::Bl::Bn::Bo::Bp::Bq::Br::Bt::Az::(.slice A8 m.AO.length c8)::(.int .i64 m.AO.length)::(.int .i64 m.AO.length)::MP::u164::MQ::IG::II::IJ::IK::IL::IQ::IU::IV::IW::BK:: [])),[]⟩ wx)):
 Code.wp prog (Jr 5) (Exit.then K Q) ⟨(List.toArray (s0::(.pointer (some ⟨w.heap.size,0,none⟩))::s2::s3::s4::(.pointer (some ⟨w2.heap.size,0,none⟩))::(.func (.func 28) #[] #[.pointer (some ⟨w2.heap.size,0,none⟩)])::s7::s8::s9::s10::s11::s12::s13::G5::s15::s16::G6::FW::IY::s20::FP::Gx::Ea::s24::Eb::u26::Eu::Ev::Ew::Ey::Ez::E5::E8::E9::E_::FB::GN::GQ::GR::GU::GV::GX::s43::s44::GY::GZ::Ga::Gb::s49::Gc::Gd::Gf::s53::Fa::Fb::Fe::Fg::Fh::Fj::Fp::Fq::Fu::Fv::Fw::Fx::FC::Fy::s68::Fz::F3::F4::s72::F5::F6::F7::F8::F9::GA::GD::GH::GI::s82::s83::GJ::GK::GL::s87::FD::FE::FH::FI::FJ::Ec::Ed::Ee::Ef::FR::FT::FU::BF::BG::BH::BI::BJ::BL::BM::BN::BO::BP::BQ::BR::BS::Ch::Ci::Cj::Ck::Cm::Cn::Co::Cq::Cr::Ct::Cw::Cx::BU::Ay::BX::BZ::Bf::Bg::CO::CP::CQ::DJ::DK::DL::DN::DR::DT::DU::DV::DW::DX::DY::DZ::Da::Db::Cy::Cz::Bh::Bj::Bl::Bn::Bo::Bp::Bq::Br::Bt::Az::(.slice A8 m.AO.length c8)::(.int .i64 m.AO.length)::(.int .i64 k)::MP::u164::MQ::IG::II::IJ::IK::IL::IQ::IU::IV::IW::BK:: [])),[]⟩ wr:=by
 conv=>arg 2;whnf
 have Eo:=AA (C.out.Gg.trans (HP.out.Gg.mono C.out.Gg.size))
 have hsz:w2.heap.size≤wr.heap.size:=HP.out.Gg.size
 have hsw:w.heap.size<w2.heap.size:=C.out.lt
 have mP:w2.heap.size<wr.heap.size:=by obtain⟨_,_,hb⟩:=HP.out.aQ;exact hb.blk.lt
 have hhi:=C.out.hhi
 have KQ:=C.out.KQ
 have hk0:(0:Int)≤k:=by omega
 by_cases hlt:k<m.AO.length
 ·obtain⟨x,hx⟩: ∃x,m.AO[k]?=some x:=⟨_,List.getElem?_eq_getElem hlt⟩
  have Lr:decide ((k:Int)<m.AO.length)=true:=decide_eq_true (by omega)
  have Ux:m.AO.length≤2147483647:=by have:=C.out.few;unfold Ad at this;omega
  obtain⟨bk,ok,rfl,_,Kg,hc0,hc1,ho0,Lp⟩:=LB (Rd.below C.out.h8 Eo.out hhi) hx
  have Ls:=AA (Dz (VQ m) NA hx)
  have KZ:=AA (DC (VQ m) NA hx)
  have K8:(VQ m++m.AO.flatMap NA).length≤1048576:=by have:=Ou m C.out.le;first | exact this.2.1 | exact this.2.2.1 | exact this.2.2.2.1 | exact this.2.2.2.2.1 | exact this.2.2.2.2.2.1 | exact this.2.2.2.2.2.2.1 | exact this.2.2.2.2.2.2.2
  have Xl:=AA (List.mem_of_getElem? hx)
  clear hx
  clear HX
  go_upto_region 51 with fail
  generalize hw3:World.alloc _ _=w3
  have hb3:Below wr.heap.size wr w3:=by rw [←hw3];exact(Below.refl _ _).alloc (Nat.le_refl _) _
  have IX:AV w3 wr.heap.size 61 [.string x.n,.int .i64 x.f]:=by rw [←hw3];exact AV.new wr _ _
  have hs3:wr.heap.size<w3.heap.size:=IX.lt
  have hm3d:AV w3.drew wr.heap.size 61 [.string x.n,.int .i64 x.f]:=IX
  have a0:=IX.q 0 rfl
  have a1:=IX.q 1 rfl
  have b0:=IX.q 0 rfl
  have b1:=IX.q 1 rfl
  have Gz:=AA IX;have HB3:=AA hb3
  have HED:=AA (C.out.env.to (((Eo.out.trans (hb3.mono (Nat.le_of_lt (Nat.lt_of_lt_of_le hsw hsz)))).drew).mono KQ))
  clear hw3 hc0 hc1 hb3 IX hm3d
  go_region_held3 (fun w'=>w'.cell? ⟨wr.heap.size,0,none⟩=some (.string x.n)∧w'.cell? ⟨wr.heap.size,1,none⟩=some (.int .i64 x.f))
   (first | exact⟨a0,a1⟩ | exact⟨b0,b1⟩ | exact⟨d0,d1⟩ | exact⟨d0a _,d1a _⟩ | exact⟨f0,f1⟩)
   (first
    | (go_at_call 32;refine(QE x.f Lp w3.drew HED.out (by simp;omega)).mono ?_;rintro e w5 ⟨hb5,rfl⟩;have hS:=Af hb5;have hS5:w3.heap.size≤w5.heap.size:=hS.size;have kI:=Gz.out.below hS hs3;have d0:=kI.q 0 rfl;have d1:=kI.q 1 rfl;have I8:=AA (HB3.out.trans (hS.mono (Nat.le_of_lt hs3)));have d0a: ∀o,(w5.alloc o).cell? ⟨wr.heap.size,0,none⟩=some (.string x.n):=fun o=>(kI.alloc o).cell 0;have d1a: ∀o,(w5.alloc o).cell? ⟨wr.heap.size,1,none⟩=some (.int .i64 x.f):=fun o=>(kI.alloc o).cell 1;have Ya:=AA kI;clear hb5 hS kI)
    | (go_at_call 28;refine(Kh [Jm,x.n,BA (Lib.itoa x.f)] [RB,x.n.data.toList,Lib.itoa x.f] (by rw [List.map_cons,List.map_cons,List.map_cons,List.map_nil];simp [BA];rfl) 3 rfl _ w5 (by simp) (HP.out.aQ.below I8.out) (by omega) (Nat.le_trans KZ.out K8) (by decide)).mono ?_;rintro e w6 ⟨rfl,hA,hB,hK⟩;have Oa:=AA (PR.mk (HP.out.Gg.trans ((I8.out.mono hsz).trans hB)) (Ls.out▸hA));have OU:=hK.blk Ya.out (by omega) (by decide);have f0:=OU.q 0 rfl;have f1:=OU.q 1 rfl;clear hA hB hK OU))
  go_wp2_with fail
  apply HK.out
  ·exact hlt
  ·exact Oa.out
 ·obtain rfl:k=m.AO.length:=by omega
  have Lr:decide ((m.AO.length:Int)<m.AO.length)=false:=decide_eq_false (by omega)
  have Qf:Hid (PR w2 wr (oN m)):=AA (by have:=HP.out;rw [List.take_length] at this;exact this)
  clear HP HK
  go_wp2_with fail
  apply HX.out
  exact Qf.out
set_option maxRecDepth 1000000 in
theorem vK {w w2:World} {hi hj:Nat} {m:AQ} {A1 A2 A3 A6 A7 A8:Option Addr} {c1 c2 c3 c6 c7 c8:Nat} (C:Hid (M7 w w2 hi hj m A1 c1 A2 c2 A3 c3 A6 c6 A7 c7 A8 c8)) {wr:World} (HP:Hid (PR w2 wr (VQ m)))
 (s0 s2 s3 s4 s7 s8 s9 s10 s11 s12 s13 G5 s15 s16 G6 FW IY s20 FP Gx Ea s24 Eb Eu Ev Ew Ey Ez E5 E8 E9 E_ FB GN GQ GR GU GV GX s43 s44 GY GZ Ga Gb s49 Gc Gd Gf s53 Fa Fb Fe Fg Fh Fj Fp Fq Fu Fv Fw Fx FC Fy s68 Fz F3 F4 s72 F5 F6 F7 F8 F9 GA GD GH GI s82 s83 GJ GK GL s87 FD FE FH FI FJ Ec Ed Ee Ef FR FT FU BF BG BH BI BJ BL BM BN BO BP BQ BR BS Ch Ci Cj Ck Cm Cn Co Cq Cr Ct Cw Cx BU Ay BX BZ Bf Bg CO CP CQ DJ DK DL DN DR DT DU DV DW DX DY DZ Da Db Cy Cz Bh Bj Bl Bn Bo Bp Bq Br Bt Az BK u26 MP u164 MQ IG II IJ IK IL IQ IU IV IW:Value) (Q0:Exit→Act→World→Prop) (HX:Hid (∀(u26 MP u164 MQ IG II IJ IK IL IQ IU IV IW:Value) (wx:World),PR w2 wx (oN m)→Q0 (.exit 14) ⟨(List.toArray (s0::(.pointer (some ⟨w.heap.size,0,none⟩))::s2::s3::s4::(.pointer (some ⟨w2.heap.size,0,none⟩))::(.func (.func 28) #[] #[.pointer (some ⟨w2.heap.size,0,none⟩)])::s7::s8::s9::s10::s11::s12::s13::G5::s15::s16::G6::FW::IY::s20::FP::Gx::Ea::s24::Eb::u26::Eu::Ev::Ew::Ey::Ez::E5::E8::E9::E_::FB::GN::GQ::GR::GU::GV::GX::s43::s44::GY::GZ::Ga::Gb::s49::Gc::Gd::Gf::s53::Fa::Fb::Fe::Fg::Fh::Fj::Fp::Fq::Fu::Fv::Fw::Fx::FC::Fy::s68::Fz::F3::F4::s72::F5::F6::F7::F8::F9::GA::GD::GH::GI::s82::s83::GJ::GK::GL::s87::FD::FE::FH::FI::FJ::Ec::Ed::Ee::Ef::FR::FT::FU::BF::BG::BH::BI::BJ::BL::BM::BN::BO::BP::BQ::BR::BS::Ch::Ci::Cj::Ck::Cm::Cn::Co::Cq::Cr::Ct::Cw::Cx::BU::Ay::BX::BZ::Bf::Bg::CO::CP::CQ::DJ::DK::DL::DN::DR::DT::DU::DV::DW::DX::DY::DZ::Da::Db::Cy::Cz::Bh::Bj::Bl::Bn::Bo::Bp::Bq::Br::Bt::Az::(.slice A8 m.AO.length c8)::(.int .i64 m.AO.length)::(.int .i64 m.AO.length)::MP::u164::MQ::IG::II::IJ::IK::IL::IQ::IU::IV::IW::BK:: [])),[]⟩ wx)):
 Code.wp prog (Code.loop (Jr 5)) Q0 ⟨(List.toArray (s0::(.pointer (some ⟨w.heap.size,0,none⟩))::s2::s3::s4::(.pointer (some ⟨w2.heap.size,0,none⟩))::(.func (.func 28) #[] #[.pointer (some ⟨w2.heap.size,0,none⟩)])::s7::s8::s9::s10::s11::s12::s13::G5::s15::s16::G6::FW::IY::s20::FP::Gx::Ea::s24::Eb::u26::Eu::Ev::Ew::Ey::Ez::E5::E8::E9::E_::FB::GN::GQ::GR::GU::GV::GX::s43::s44::GY::GZ::Ga::Gb::s49::Gc::Gd::Gf::s53::Fa::Fb::Fe::Fg::Fh::Fj::Fp::Fq::Fu::Fv::Fw::Fx::FC::Fy::s68::Fz::F3::F4::s72::F5::F6::F7::F8::F9::GA::GD::GH::GI::s82::s83::GJ::GK::GL::s87::FD::FE::FH::FI::FJ::Ec::Ed::Ee::Ef::FR::FT::FU::BF::BG::BH::BI::BJ::BL::BM::BN::BO::BP::BQ::BR::BS::Ch::Ci::Cj::Ck::Cm::Cn::Co::Cq::Cr::Ct::Cw::Cx::BU::Ay::BX::BZ::Bf::Bg::CO::CP::CQ::DJ::DK::DL::DN::DR::DT::DU::DV::DW::DX::DY::DZ::Da::Db::Cy::Cz::Bh::Bj::Bl::Bn::Bo::Bp::Bq::Br::Bt::Az::(.slice A8 m.AO.length c8)::(.int .i64 m.AO.length)::(.int .i64 0)::MP::u164::MQ::IG::II::IJ::IK::IL::IQ::IU::IV::IW::BK:: [])),[]⟩ wr:=by
 refine wp_loop (fun a wx=> ∃(u26 MP u164 MQ IG II IJ IK IL IQ IU IV IW:Value) (k:Nat),k≤m.AO.length∧PR w2 wx (VQ m++(m.AO.take k).flatMap NA)∧a=⟨(List.toArray (s0::(.pointer (some ⟨w.heap.size,0,none⟩))::s2::s3::s4::(.pointer (some ⟨w2.heap.size,0,none⟩))::(.func (.func 28) #[] #[.pointer (some ⟨w2.heap.size,0,none⟩)])::s7::s8::s9::s10::s11::s12::s13::G5::s15::s16::G6::FW::IY::s20::FP::Gx::Ea::s24::Eb::u26::Eu::Ev::Ew::Ey::Ez::E5::E8::E9::E_::FB::GN::GQ::GR::GU::GV::GX::s43::s44::GY::GZ::Ga::Gb::s49::Gc::Gd::Gf::s53::Fa::Fb::Fe::Fg::Fh::Fj::Fp::Fq::Fu::Fv::Fw::Fx::FC::Fy::s68::Fz::F3::F4::s72::F5::F6::F7::F8::F9::GA::GD::GH::GI::s82::s83::GJ::GK::GL::s87::FD::FE::FH::FI::FJ::Ec::Ed::Ee::Ef::FR::FT::FU::BF::BG::BH::BI::BJ::BL::BM::BN::BO::BP::BQ::BR::BS::Ch::Ci::Cj::Ck::Cm::Cn::Co::Cq::Cr::Ct::Cw::Cx::BU::Ay::BX::BZ::Bf::Bg::CO::CP::CQ::DJ::DK::DL::DN::DR::DT::DU::DV::DW::DX::DY::DZ::Da::Db::Cy::Cz::Bh::Bj::Bl::Bn::Bo::Bp::Bq::Br::Bt::Az::(.slice A8 m.AO.length c8)::(.int .i64 m.AO.length)::(.int .i64 k)::MP::u164::MQ::IG::II::IJ::IK::IL::IQ::IU::IV::IW::BK:: [])),[]⟩) (fun a _=>m.AO.length-(intOf (a.tmps.getD 162 undef)).toNat) ?_ ?_
 ·exact⟨u26,MP,u164,MQ,IG,II,IJ,IK,IL,IQ,IU,IV,IW,0,Nat.zero_le _,by rw [List.take_zero,List.flatMap_nil,List.append_nil];exact HP.out,rfl⟩
 ·intro a wx hI
  obtain⟨u26,hI⟩:=hI
  obtain⟨MP,hI⟩:=hI
  obtain⟨u164,hI⟩:=hI
  obtain⟨MQ,hI⟩:=hI
  obtain⟨IG,hI⟩:=hI
  obtain⟨II,hI⟩:=hI
  obtain⟨IJ,hI⟩:=hI
  obtain⟨IK,hI⟩:=hI
  obtain⟨IL,hI⟩:=hI
  obtain⟨IQ,hI⟩:=hI
  obtain⟨IU,hI⟩:=hI
  obtain⟨IV,hI⟩:=hI
  obtain⟨IW,hI⟩:=hI
  obtain⟨k,hk,hp,rfl⟩:=hI
  refine Xq C hk (AA hp) _ _ _ _ _ _ _ _ _ _ _ _ _ _ _ _ _ _ _ _ _ _ _ _ _ _ _ _ _ _ _ _ _ _ _ _ _ _ _ _ _ _ _ _ _ _ _ _ _ _ _ _ _ _ _ _ _ _ _ _ _ _ _ _ _ _ _ _ _ _ _ _ _ _ _ _ _ _ _ _ _ _ _ _ _ _ _ _ _ _ _ _ _ _ _ _ _ _ _ _ _ _ _ _ _ _ _ _ _ _ _ _ _ _ _ _ _ _ _ _ _ _ _ _ _ _ _ _ _ _ _ _ _ _ _ _ _ _ _ _ _ _ _ _ _ _ _ _ _ _ _ _ _ _ _ _ _ _ _ _ _ _ _ _ _ _ _ _ _ _ _ _ (AA ?_) HX
  intro u26 MP u164 MQ IG II IJ IK IL IQ IU IV IW wy hlt hp2
  refine⟨⟨u26,MP,u164,MQ,IG,II,IJ,IK,IL,IQ,IU,IV,IW,k+1,hlt,hp2,rfl⟩,?_⟩
  show m.AO.length-(intOf (.int .i64 ((k+1:Nat):Int))).toNat<m.AO.length-(intOf (.int .i64 (k:Int))).toNat
  simp [intOf]
  omega
set_option maxRecDepth 1000000 in
theorem Vi {w w2:World} {hi hj:Nat} {m:AQ} {A1 A2 A3 A6 A7 A8:Option Addr} {c1 c2 c3 c6 c7 c8:Nat} (C:Hid (M7 w w2 hi hj m A1 c1 A2 c2 A3 c3 A6 c6 A7 c7 A8 c8)) {k:Nat} {wr:World} (hk:k≤m.globs.length) (HP:Hid (PR w2 wr (Vf m++(m.globs.take k).flatMap FN)))
 (s0 s2 s3 s4 s7 s8 s9 s10 s11 s12 s13 s16 G6 FW IY s20 FP Gx Ea s24 Eb FQ Eu Ev Ew Ey Ez E5 E8 E9 E_ FB GN GQ GR GU GV GX s43 s44 GY GZ Ga Gb s49 Gc Gd Gf s53 Fa Fb Fe Fg Fh Fj Fp Fq Fu Fv Fw Fx FC s87 FD FE FH FI FJ Ec Ed Ee Ef FR FT FU BF BG BH BI BJ BL BM BN BO BP BQ BR BS Ch Ci Cj Ck Cm Cn Co Cq Cr Ct Cw Cx BU Ay BX BZ Bf Bg CO CP CQ DJ DK DL DN DR DT DU DV DW DX DY DZ Da Db Cy Cz Bh Bj Bl Bn Bo Bp Bq Br Bt Az Bu Bv Bw Bz B_ CB CS CU CV CW CX CY CZ Cc Ce BK T_ UA u70 UC u72 u73 UD u75 UE UF UG UH UJ UK UL UM UN UO UQ:Value) (K:Act→World→Prop) (Q:Exit→Act→World→Prop) (HK:Hid (∀(T_ UA u70 UC u72 u73 UD u75 UE UF UG UH UJ UK UL UM UN UO UQ:Value) (wx:World),k<m.globs.length→PR w2 wx (Vf m++(m.globs.take (k+1)).flatMap FN)→K ⟨(List.toArray (s0::(.pointer (some ⟨w.heap.size,0,none⟩))::s2::s3::s4::(.pointer (some ⟨w2.heap.size,0,none⟩))::(.func (.func 28) #[] #[.pointer (some ⟨w2.heap.size,0,none⟩)])::s7::s8::s9::s10::s11::s12::s13::T_::UA::s16::G6::FW::IY::s20::FP::Gx::Ea::s24::Eb::FQ::Eu::Ev::Ew::Ey::Ez::E5::E8::E9::E_::FB::GN::GQ::GR::GU::GV::GX::s43::s44::GY::GZ::Ga::Gb::s49::Gc::Gd::Gf::s53::Fa::Fb::Fe::Fg::Fh::Fj::Fp::Fq::Fu::Fv::Fw::Fx::FC::(.slice A3 m.globs.length c3)::(.int .i64 m.globs.length)::(.int .i64 ((k:Int)+1))::u70::UC::u72::u73::UD::u75::UE::UF::UG::UH::UJ::UK::UL::UM::UN::UO::UQ::s87::FD::FE::FH::FI::FJ::Ec::Ed::Ee::Ef::FR::FT::FU::BF::BG::BH::BI::BJ::BL::BM::BN::BO::BP::BQ::BR::BS::Ch::Ci::Cj::Ck::Cm::Cn::Co::Cq::Cr::Ct::Cw::Cx::BU::Ay::BX::BZ::Bf::Bg::CO::CP::CQ::DJ::DK::DL::DN::DR::DT::DU::DV::DW::DX::DY::DZ::Da::Db::Cy::Cz::Bh::Bj::Bl::Bn::Bo::Bp::Bq::Br::Bt::Az::Bu::Bv::Bw::Bz::B_::CB::CS::CU::CV::CW::CX::CY::CZ::Cc::Ce::BK:: [])),[]⟩ wx)) (HX:Hid (∀(T_ UA u70 UC u72 u73 UD u75 UE UF UG UH UJ UK UL UM UN UO UQ:Value) (wx:World),PR w2 wx (qG m)→Q (.exit 4) ⟨(List.toArray (s0::(.pointer (some ⟨w.heap.size,0,none⟩))::s2::s3::s4::(.pointer (some ⟨w2.heap.size,0,none⟩))::(.func (.func 28) #[] #[.pointer (some ⟨w2.heap.size,0,none⟩)])::s7::s8::s9::s10::s11::s12::s13::T_::UA::s16::G6::FW::IY::s20::FP::Gx::Ea::s24::Eb::FQ::Eu::Ev::Ew::Ey::Ez::E5::E8::E9::E_::FB::GN::GQ::GR::GU::GV::GX::s43::s44::GY::GZ::Ga::Gb::s49::Gc::Gd::Gf::s53::Fa::Fb::Fe::Fg::Fh::Fj::Fp::Fq::Fu::Fv::Fw::Fx::FC::(.slice A3 m.globs.length c3)::(.int .i64 m.globs.length)::(.int .i64 m.globs.length)::u70::UC::u72::u73::UD::u75::UE::UF::UG::UH::UJ::UK::UL::UM::UN::UO::UQ::s87::FD::FE::FH::FI::FJ::Ec::Ed::Ee::Ef::FR::FT::FU::BF::BG::BH::BI::BJ::BL::BM::BN::BO::BP::BQ::BR::BS::Ch::Ci::Cj::Ck::Cm::Cn::Co::Cq::Cr::Ct::Cw::Cx::BU::Ay::BX::BZ::Bf::Bg::CO::CP::CQ::DJ::DK::DL::DN::DR::DT::DU::DV::DW::DX::DY::DZ::Da::Db::Cy::Cz::Bh::Bj::Bl::Bn::Bo::Bp::Bq::Br::Bt::Az::Bu::Bv::Bw::Bz::B_::CB::CS::CU::CV::CW::CX::CY::CZ::Cc::Ce::BK:: [])),[]⟩ wx)):
 Code.wp prog (Jr 2) (Exit.then K Q) ⟨(List.toArray (s0::(.pointer (some ⟨w.heap.size,0,none⟩))::s2::s3::s4::(.pointer (some ⟨w2.heap.size,0,none⟩))::(.func (.func 28) #[] #[.pointer (some ⟨w2.heap.size,0,none⟩)])::s7::s8::s9::s10::s11::s12::s13::T_::UA::s16::G6::FW::IY::s20::FP::Gx::Ea::s24::Eb::FQ::Eu::Ev::Ew::Ey::Ez::E5::E8::E9::E_::FB::GN::GQ::GR::GU::GV::GX::s43::s44::GY::GZ::Ga::Gb::s49::Gc::Gd::Gf::s53::Fa::Fb::Fe::Fg::Fh::Fj::Fp::Fq::Fu::Fv::Fw::Fx::FC::(.slice A3 m.globs.length c3)::(.int .i64 m.globs.length)::(.int .i64 k)::u70::UC::u72::u73::UD::u75::UE::UF::UG::UH::UJ::UK::UL::UM::UN::UO::UQ::s87::FD::FE::FH::FI::FJ::Ec::Ed::Ee::Ef::FR::FT::FU::BF::BG::BH::BI::BJ::BL::BM::BN::BO::BP::BQ::BR::BS::Ch::Ci::Cj::Ck::Cm::Cn::Co::Cq::Cr::Ct::Cw::Cx::BU::Ay::BX::BZ::Bf::Bg::CO::CP::CQ::DJ::DK::DL::DN::DR::DT::DU::DV::DW::DX::DY::DZ::Da::Db::Cy::Cz::Bh::Bj::Bl::Bn::Bo::Bp::Bq::Br::Bt::Az::Bu::Bv::Bw::Bz::B_::CB::CS::CU::CV::CW::CX::CY::CZ::Cc::Ce::BK:: [])),[]⟩ wr:=by
 conv=>arg 2;whnf
 have Eo:=AA (C.out.Gg.trans (HP.out.Gg.mono C.out.Gg.size))
 have hsz:w2.heap.size≤wr.heap.size:=HP.out.Gg.size
 have hsw:w.heap.size<w2.heap.size:=C.out.lt
 have mP:w2.heap.size<wr.heap.size:=by obtain⟨_,_,hb⟩:=HP.out.aQ;exact hb.blk.lt
 have hhi:=C.out.hhi
 have KQ:=C.out.KQ
 have hk0:(0:Int)≤k:=by omega
 by_cases hlt:k<m.globs.length
 ·obtain⟨x,hx⟩: ∃x,m.globs[k]?=some x:=⟨_,List.getElem?_eq_getElem hlt⟩
  have Lr:decide ((k:Int)<m.globs.length)=true:=decide_eq_true (by omega)
  have Ux:m.globs.length≤2147483647:=by have:=C.out.few;unfold Ad at this;omega
  obtain⟨bk,ok,rfl,_,Kg,hc0,hc1,hc2,hb64⟩:=K_ (Rd.below C.out.h3 Eo.out hhi) hx
  have Ls:=AA (Dz (Vf m) FN hx)
  have KZ:=AA (DC (Vf m) FN hx)
  have K8:(Vf m++m.globs.flatMap FN).length≤1048576:=by have:=Ou m C.out.le;first | exact this.2.1 | exact this.2.2.1 | exact this.2.2.2.1 | exact this.2.2.2.2.1 | exact this.2.2.2.2.2.1 | exact this.2.2.2.2.2.2.1 | exact this.2.2.2.2.2.2.2
  have Xl:=AA (List.mem_of_getElem? hx)
  clear hx
  clear HX
  obtain⟨hn,hft,hvv⟩:=C.out.fine.globs x Xl.out
  have hff:x.l.toNat=119→x.v<4294967296:=fun h=>by unfold JL at hft;rw [h] at hft;simpa using hft
  have HSB:Hid (Rd.Ej (Au x)):=AA (OC hvv hft)
  have qH:=AA (fun W=>iV x W hvv hff)
  have hll:x.l=119∨x.l=108:=by
   unfold Qh at hn
   rw [Bool.or_eq_true,beq_iff_eq,beq_iff_eq] at hn
   rcases hn with h | h
   ·exact .inl (UInt8.toNat_inj.1 h)
   ·exact .inr (UInt8.toNat_inj.1 h)
  clear hn hft hff hvv
  rcases hll with hll | hll<;>cases hmu:x.m
  ·have hG:FN x=Cg [Ji,[119],Ma,Lib.itoa (Au x)]:=by unfold FN;rw [hll,hmu];rfl
   have Ls:=Ls.out
   have KZ:=KZ.out
   rw [hG] at Ls KZ
   have Ls:=AA Ls
   have KZ:=AA KZ
   have HS:Hid (∀W,Calls prog 34 #[.agg #[.int .u8 119,.bool false,.int .u64 (x.v:Int)]] W fun e w'=>Below W.heap.size W w'∧e= .returned (.int .i64 (Au x))):=AA (fun W=>by have:=qH.out W;rw [hll,hmu] at this;exact this)
   have h0:wr.cell? ⟨bk,ok+k*3,none⟩=some (.int .u8 119):=by rw [hc0,hll];rfl
   have h1:wr.cell? ⟨bk,ok+k*3+1,none⟩=some (.bool false):=by rw [hc1,hmu]
   clear hG hc0 hc1 qH hll hmu
   go_upto_region 24 with fail
   generalize hw3:World.alloc _ _=w3
   have hb3:Below wr.heap.size wr w3:=by rw [←hw3];exact(Below.refl _ _).alloc (Nat.le_refl _) _
   have IX:AV w3 wr.heap.size 82 [.int .u8 119,.bool false,.int .u64 (x.v:Int)]:=by rw [←hw3];exact AV.new wr _ _
   have hs3:wr.heap.size<w3.heap.size:=IX.lt
   have a0:=IX.q 0 rfl;have a1:=IX.q 1 rfl;have a2:=IX.q 2 rfl
   have b0:=IX.q 0 rfl;have b1:=IX.q 1 rfl;have b2:=IX.q 2 rfl
   have Gz:=AA IX;have HB3:=AA hb3
   have fM:Hid (∀W,Below wr.heap.size wr W→Dt hj W):=AA (fun W hW=>C.out.env.to ((Eo.out.trans (hW.mono (Nat.le_of_lt (Nat.lt_of_lt_of_le hsw hsz)))).mono KQ))
   clear hw3 h0 h1 hc2 hb3 IX
   go_region_held3 (fun w'=>w'.cell? ⟨wr.heap.size,0,none⟩=some (.int .u8 119)∧w'.cell? ⟨wr.heap.size,1,none⟩=some (.bool false)∧w'.cell? ⟨wr.heap.size,2,none⟩=some (.int .u64 (x.v:Int)))
    (first | exact⟨a0,a1,a2⟩ | exact⟨b0,b1,b2⟩ | exact⟨d0,d1,d2⟩ | exact⟨e0,e1,e2⟩ | exact⟨e0a _,e1a _,e2a _⟩ | exact⟨f0,f1,f2⟩)
    (first
     | (go_at_call 34;refine(HS.out _).mono ?_;rintro e wa ⟨hba,rfl⟩;have Qz:=Af hba;have iY:w3.heap.size≤wa.heap.size:=Qz.size;have hma:=Gz.out.below Qz hs3;have d0:=hma.q 0 rfl;have d1:=hma.q 1 rfl;have d2:=hma.q 2 rfl;have YL:=AA (HB3.out.trans (Qz.mono (Nat.le_of_lt hs3)));have oQ:=AA hma;clear hba Qz hma)
     | (go_at_call 33;refine(Nw (Au x) HSB.out wa (fM.out _ YL.out) (by omega)).mono ?_;rintro e wb ⟨hbb,rfl⟩;have zf:wa.heap.size≤wb.heap.size:=hbb.size;have hmb:=oQ.out.below hbb (by omega);have e0:=hmb.q 0 rfl;have e1:=hmb.q 1 rfl;have e2:=hmb.q 2 rfl;have e0a: ∀o,(wb.alloc o).cell? ⟨wr.heap.size,0,none⟩=some (.int .u8 119):=fun o=>(hmb.alloc o).cell 0;have e1a: ∀o,(wb.alloc o).cell? ⟨wr.heap.size,1,none⟩=some (.bool false):=fun o=>(hmb.alloc o).cell 1;have e2a: ∀o,(wb.alloc o).cell? ⟨wr.heap.size,2,none⟩=some (.int .u64 (x.v:Int)):=fun o=>(hmb.alloc o).cell 2;have kU:=AA (YL.out.trans (hbb.mono (by omega)));have HMb:=AA hmb;clear hbb hmb)
     | (go_at_call 28;refine(Kh [G7,⟨#[119]⟩,Kn,BA (Lib.itoa (Au x))] [Ji,[119],Ma,Lib.itoa (Au x)] (by rw [List.map_cons,List.map_cons,List.map_cons,List.map_cons,List.map_nil];simp [BA];exact⟨rfl,rfl⟩) 4 rfl _ wb (by simp) (HP.out.aQ.below kU.out) (by omega) (Nat.le_trans KZ.out K8) (by decide)).mono ?_;rintro e w6 ⟨rfl,hA,hB,hK⟩;have Oa:=AA (PR.mk (HP.out.Gg.trans ((kU.out.mono hsz).trans hB)) (Ls.out▸hA));have OU:=hK.blk HMb.out (by omega) (by decide);have f0:=OU.q 0 rfl;have f1:=OU.q 1 rfl;have f2:=OU.q 2 rfl;clear hA hB hK OU))
   go_wp2_with fail
   apply HK.out
   ·exact hlt
   ·exact Oa.out
  ·have hG:FN x=Cg [Ji,[119],UZ,Lib.itoa (Au x)]:=by unfold FN;rw [hll,hmu];rfl
   have Ls:=Ls.out
   have KZ:=KZ.out
   rw [hG] at Ls KZ
   have Ls:=AA Ls
   have KZ:=AA KZ
   have HS:Hid (∀W,Calls prog 34 #[.agg #[.int .u8 119,.bool true,.int .u64 (x.v:Int)]] W fun e w'=>Below W.heap.size W w'∧e= .returned (.int .i64 (Au x))):=AA (fun W=>by have:=qH.out W;rw [hll,hmu] at this;exact this)
   have h0:wr.cell? ⟨bk,ok+k*3,none⟩=some (.int .u8 119):=by rw [hc0,hll];rfl
   have h1:wr.cell? ⟨bk,ok+k*3+1,none⟩=some (.bool true):=by rw [hc1,hmu]
   clear hG hc0 hc1 qH hll hmu
   go_upto_region 24 with fail
   generalize hw3:World.alloc _ _=w3
   have hb3:Below wr.heap.size wr w3:=by rw [←hw3];exact(Below.refl _ _).alloc (Nat.le_refl _) _
   have IX:AV w3 wr.heap.size 82 [.int .u8 119,.bool true,.int .u64 (x.v:Int)]:=by rw [←hw3];exact AV.new wr _ _
   have hs3:wr.heap.size<w3.heap.size:=IX.lt
   have a0:=IX.q 0 rfl;have a1:=IX.q 1 rfl;have a2:=IX.q 2 rfl
   have b0:=IX.q 0 rfl;have b1:=IX.q 1 rfl;have b2:=IX.q 2 rfl
   have Gz:=AA IX;have HB3:=AA hb3
   have fM:Hid (∀W,Below wr.heap.size wr W→Dt hj W):=AA (fun W hW=>C.out.env.to ((Eo.out.trans (hW.mono (Nat.le_of_lt (Nat.lt_of_lt_of_le hsw hsz)))).mono KQ))
   clear hw3 h0 h1 hc2 hb3 IX
   go_region_held3 (fun w'=>w'.cell? ⟨wr.heap.size,0,none⟩=some (.int .u8 119)∧w'.cell? ⟨wr.heap.size,1,none⟩=some (.bool true)∧w'.cell? ⟨wr.heap.size,2,none⟩=some (.int .u64 (x.v:Int)))
    (first | exact⟨a0,a1,a2⟩ | exact⟨b0,b1,b2⟩ | exact⟨d0,d1,d2⟩ | exact⟨e0,e1,e2⟩ | exact⟨e0a _,e1a _,e2a _⟩ | exact⟨f0,f1,f2⟩)
    (first
     | (go_at_call 34;refine(HS.out _).mono ?_;rintro e wa ⟨hba,rfl⟩;have Qz:=Af hba;have iY:w3.heap.size≤wa.heap.size:=Qz.size;have hma:=Gz.out.below Qz hs3;have d0:=hma.q 0 rfl;have d1:=hma.q 1 rfl;have d2:=hma.q 2 rfl;have YL:=AA (HB3.out.trans (Qz.mono (Nat.le_of_lt hs3)));have oQ:=AA hma;clear hba Qz hma)
     | (go_at_call 33;refine(Nw (Au x) HSB.out wa (fM.out _ YL.out) (by omega)).mono ?_;rintro e wb ⟨hbb,rfl⟩;have zf:wa.heap.size≤wb.heap.size:=hbb.size;have hmb:=oQ.out.below hbb (by omega);have e0:=hmb.q 0 rfl;have e1:=hmb.q 1 rfl;have e2:=hmb.q 2 rfl;have e0a: ∀o,(wb.alloc o).cell? ⟨wr.heap.size,0,none⟩=some (.int .u8 119):=fun o=>(hmb.alloc o).cell 0;have e1a: ∀o,(wb.alloc o).cell? ⟨wr.heap.size,1,none⟩=some (.bool true):=fun o=>(hmb.alloc o).cell 1;have e2a: ∀o,(wb.alloc o).cell? ⟨wr.heap.size,2,none⟩=some (.int .u64 (x.v:Int)):=fun o=>(hmb.alloc o).cell 2;have kU:=AA (YL.out.trans (hbb.mono (by omega)));have HMb:=AA hmb;clear hbb hmb)
     | (go_at_call 28;refine(Kh [G7,⟨#[119]⟩,Qd,BA (Lib.itoa (Au x))] [Ji,[119],UZ,Lib.itoa (Au x)] (by rw [List.map_cons,List.map_cons,List.map_cons,List.map_cons,List.map_nil];simp [BA];exact⟨rfl,rfl⟩) 4 rfl _ wb (by simp) (HP.out.aQ.below kU.out) (by omega) (Nat.le_trans KZ.out K8) (by decide)).mono ?_;rintro e w6 ⟨rfl,hA,hB,hK⟩;have Oa:=AA (PR.mk (HP.out.Gg.trans ((kU.out.mono hsz).trans hB)) (Ls.out▸hA));have OU:=hK.blk HMb.out (by omega) (by decide);have f0:=OU.q 0 rfl;have f1:=OU.q 1 rfl;have f2:=OU.q 2 rfl;clear hA hB hK OU))
   go_wp2_with fail
   apply HK.out
   ·exact hlt
   ·exact Oa.out
  ·have hG:FN x=Cg [Ji,[108],Ma,Lib.itoa (Au x)]:=by unfold FN;rw [hll,hmu];rfl
   have Ls:=Ls.out
   have KZ:=KZ.out
   rw [hG] at Ls KZ
   have Ls:=AA Ls
   have KZ:=AA KZ
   have HS:Hid (∀W,Calls prog 34 #[.agg #[.int .u8 108,.bool false,.int .u64 (x.v:Int)]] W fun e w'=>Below W.heap.size W w'∧e= .returned (.int .i64 (Au x))):=AA (fun W=>by have:=qH.out W;rw [hll,hmu] at this;exact this)
   have h0:wr.cell? ⟨bk,ok+k*3,none⟩=some (.int .u8 108):=by rw [hc0,hll];rfl
   have h1:wr.cell? ⟨bk,ok+k*3+1,none⟩=some (.bool false):=by rw [hc1,hmu]
   clear hG hc0 hc1 qH hll hmu
   go_upto_region 24 with fail
   generalize hw3:World.alloc _ _=w3
   have hb3:Below wr.heap.size wr w3:=by rw [←hw3];exact(Below.refl _ _).alloc (Nat.le_refl _) _
   have IX:AV w3 wr.heap.size 82 [.int .u8 108,.bool false,.int .u64 (x.v:Int)]:=by rw [←hw3];exact AV.new wr _ _
   have hs3:wr.heap.size<w3.heap.size:=IX.lt
   have a0:=IX.q 0 rfl;have a1:=IX.q 1 rfl;have a2:=IX.q 2 rfl
   have b0:=IX.q 0 rfl;have b1:=IX.q 1 rfl;have b2:=IX.q 2 rfl
   have Gz:=AA IX;have HB3:=AA hb3
   have fM:Hid (∀W,Below wr.heap.size wr W→Dt hj W):=AA (fun W hW=>C.out.env.to ((Eo.out.trans (hW.mono (Nat.le_of_lt (Nat.lt_of_lt_of_le hsw hsz)))).mono KQ))
   clear hw3 h0 h1 hc2 hb3 IX
   go_region_held3 (fun w'=>w'.cell? ⟨wr.heap.size,0,none⟩=some (.int .u8 108)∧w'.cell? ⟨wr.heap.size,1,none⟩=some (.bool false)∧w'.cell? ⟨wr.heap.size,2,none⟩=some (.int .u64 (x.v:Int)))
    (first | exact⟨a0,a1,a2⟩ | exact⟨b0,b1,b2⟩ | exact⟨d0,d1,d2⟩ | exact⟨e0,e1,e2⟩ | exact⟨e0a _,e1a _,e2a _⟩ | exact⟨f0,f1,f2⟩)
    (first
     | (go_at_call 34;refine(HS.out _).mono ?_;rintro e wa ⟨hba,rfl⟩;have Qz:=Af hba;have iY:w3.heap.size≤wa.heap.size:=Qz.size;have hma:=Gz.out.below Qz hs3;have d0:=hma.q 0 rfl;have d1:=hma.q 1 rfl;have d2:=hma.q 2 rfl;have YL:=AA (HB3.out.trans (Qz.mono (Nat.le_of_lt hs3)));have oQ:=AA hma;clear hba Qz hma)
     | (go_at_call 33;refine(Nw (Au x) HSB.out wa (fM.out _ YL.out) (by omega)).mono ?_;rintro e wb ⟨hbb,rfl⟩;have zf:wa.heap.size≤wb.heap.size:=hbb.size;have hmb:=oQ.out.below hbb (by omega);have e0:=hmb.q 0 rfl;have e1:=hmb.q 1 rfl;have e2:=hmb.q 2 rfl;have e0a: ∀o,(wb.alloc o).cell? ⟨wr.heap.size,0,none⟩=some (.int .u8 108):=fun o=>(hmb.alloc o).cell 0;have e1a: ∀o,(wb.alloc o).cell? ⟨wr.heap.size,1,none⟩=some (.bool false):=fun o=>(hmb.alloc o).cell 1;have e2a: ∀o,(wb.alloc o).cell? ⟨wr.heap.size,2,none⟩=some (.int .u64 (x.v:Int)):=fun o=>(hmb.alloc o).cell 2;have kU:=AA (YL.out.trans (hbb.mono (by omega)));have HMb:=AA hmb;clear hbb hmb)
     | (go_at_call 28;refine(Kh [G7,⟨#[108]⟩,Kn,BA (Lib.itoa (Au x))] [Ji,[108],Ma,Lib.itoa (Au x)] (by rw [List.map_cons,List.map_cons,List.map_cons,List.map_cons,List.map_nil];simp [BA];exact⟨rfl,rfl⟩) 4 rfl _ wb (by simp) (HP.out.aQ.below kU.out) (by omega) (Nat.le_trans KZ.out K8) (by decide)).mono ?_;rintro e w6 ⟨rfl,hA,hB,hK⟩;have Oa:=AA (PR.mk (HP.out.Gg.trans ((kU.out.mono hsz).trans hB)) (Ls.out▸hA));have OU:=hK.blk HMb.out (by omega) (by decide);have f0:=OU.q 0 rfl;have f1:=OU.q 1 rfl;have f2:=OU.q 2 rfl;clear hA hB hK OU))
   go_wp2_with fail
   apply HK.out
   ·exact hlt
   ·exact Oa.out
  ·have hG:FN x=Cg [Ji,[108],UZ,Lib.itoa (Au x)]:=by unfold FN;rw [hll,hmu];rfl
   have Ls:=Ls.out
   have KZ:=KZ.out
   rw [hG] at Ls KZ
   have Ls:=AA Ls
   have KZ:=AA KZ
   have HS:Hid (∀W,Calls prog 34 #[.agg #[.int .u8 108,.bool true,.int .u64 (x.v:Int)]] W fun e w'=>Below W.heap.size W w'∧e= .returned (.int .i64 (Au x))):=AA (fun W=>by have:=qH.out W;rw [hll,hmu] at this;exact this)
   have h0:wr.cell? ⟨bk,ok+k*3,none⟩=some (.int .u8 108):=by rw [hc0,hll];rfl
   have h1:wr.cell? ⟨bk,ok+k*3+1,none⟩=some (.bool true):=by rw [hc1,hmu]
   clear hG hc0 hc1 qH hll hmu
   go_upto_region 24 with fail
   generalize hw3:World.alloc _ _=w3
   have hb3:Below wr.heap.size wr w3:=by rw [←hw3];exact(Below.refl _ _).alloc (Nat.le_refl _) _
   have IX:AV w3 wr.heap.size 82 [.int .u8 108,.bool true,.int .u64 (x.v:Int)]:=by rw [←hw3];exact AV.new wr _ _
   have hs3:wr.heap.size<w3.heap.size:=IX.lt
   have a0:=IX.q 0 rfl;have a1:=IX.q 1 rfl;have a2:=IX.q 2 rfl
   have b0:=IX.q 0 rfl;have b1:=IX.q 1 rfl;have b2:=IX.q 2 rfl
   have Gz:=AA IX;have HB3:=AA hb3
   have fM:Hid (∀W,Below wr.heap.size wr W→Dt hj W):=AA (fun W hW=>C.out.env.to ((Eo.out.trans (hW.mono (Nat.le_of_lt (Nat.lt_of_lt_of_le hsw hsz)))).mono KQ))
   clear hw3 h0 h1 hc2 hb3 IX
   go_region_held3 (fun w'=>w'.cell? ⟨wr.heap.size,0,none⟩=some (.int .u8 108)∧w'.cell? ⟨wr.heap.size,1,none⟩=some (.bool true)∧w'.cell? ⟨wr.heap.size,2,none⟩=some (.int .u64 (x.v:Int)))
    (first | exact⟨a0,a1,a2⟩ | exact⟨b0,b1,b2⟩ | exact⟨d0,d1,d2⟩ | exact⟨e0,e1,e2⟩ | exact⟨e0a _,e1a _,e2a _⟩ | exact⟨f0,f1,f2⟩)
    (first
     | (go_at_call 34;refine(HS.out _).mono ?_;rintro e wa ⟨hba,rfl⟩;have Qz:=Af hba;have iY:w3.heap.size≤wa.heap.size:=Qz.size;have hma:=Gz.out.below Qz hs3;have d0:=hma.q 0 rfl;have d1:=hma.q 1 rfl;have d2:=hma.q 2 rfl;have YL:=AA (HB3.out.trans (Qz.mono (Nat.le_of_lt hs3)));have oQ:=AA hma;clear hba Qz hma)
     | (go_at_call 33;refine(Nw (Au x) HSB.out wa (fM.out _ YL.out) (by omega)).mono ?_;rintro e wb ⟨hbb,rfl⟩;have zf:wa.heap.size≤wb.heap.size:=hbb.size;have hmb:=oQ.out.below hbb (by omega);have e0:=hmb.q 0 rfl;have e1:=hmb.q 1 rfl;have e2:=hmb.q 2 rfl;have e0a: ∀o,(wb.alloc o).cell? ⟨wr.heap.size,0,none⟩=some (.int .u8 108):=fun o=>(hmb.alloc o).cell 0;have e1a: ∀o,(wb.alloc o).cell? ⟨wr.heap.size,1,none⟩=some (.bool true):=fun o=>(hmb.alloc o).cell 1;have e2a: ∀o,(wb.alloc o).cell? ⟨wr.heap.size,2,none⟩=some (.int .u64 (x.v:Int)):=fun o=>(hmb.alloc o).cell 2;have kU:=AA (YL.out.trans (hbb.mono (by omega)));have HMb:=AA hmb;clear hbb hmb)
     | (go_at_call 28;refine(Kh [G7,⟨#[108]⟩,Qd,BA (Lib.itoa (Au x))] [Ji,[108],UZ,Lib.itoa (Au x)] (by rw [List.map_cons,List.map_cons,List.map_cons,List.map_cons,List.map_nil];simp [BA];exact⟨rfl,rfl⟩) 4 rfl _ wb (by simp) (HP.out.aQ.below kU.out) (by omega) (Nat.le_trans KZ.out K8) (by decide)).mono ?_;rintro e w6 ⟨rfl,hA,hB,hK⟩;have Oa:=AA (PR.mk (HP.out.Gg.trans ((kU.out.mono hsz).trans hB)) (Ls.out▸hA));have OU:=hK.blk HMb.out (by omega) (by decide);have f0:=OU.q 0 rfl;have f1:=OU.q 1 rfl;have f2:=OU.q 2 rfl;clear hA hB hK OU))
   go_wp2_with fail
   apply HK.out
   ·exact hlt
   ·exact Oa.out
 ·obtain rfl:k=m.globs.length:=by omega
  have Lr:decide ((m.globs.length:Int)<m.globs.length)=false:=decide_eq_false (by omega)
  have Qf:Hid (PR w2 wr (qG m)):=AA (by have:=HP.out;rw [List.take_length] at this;exact this)
  clear HP HK
  go_wp2_with fail
  apply HX.out
  exact Qf.out
set_option maxRecDepth 1000000 in
theorem oU {w w2:World} {hi hj:Nat} {m:AQ} {A1 A2 A3 A6 A7 A8:Option Addr} {c1 c2 c3 c6 c7 c8:Nat} (C:Hid (M7 w w2 hi hj m A1 c1 A2 c2 A3 c3 A6 c6 A7 c7 A8 c8)) {wr:World} (HP:Hid (PR w2 wr (Vf m)))
 (s0 s2 s3 s4 s7 s8 s9 s10 s11 s12 s13 s16 G6 FW IY s20 FP Gx Ea s24 Eb FQ Eu Ev Ew Ey Ez E5 E8 E9 E_ FB GN GQ GR GU GV GX s43 s44 GY GZ Ga Gb s49 Gc Gd Gf s53 Fa Fb Fe Fg Fh Fj Fp Fq Fu Fv Fw Fx FC s87 FD FE FH FI FJ Ec Ed Ee Ef FR FT FU BF BG BH BI BJ BL BM BN BO BP BQ BR BS Ch Ci Cj Ck Cm Cn Co Cq Cr Ct Cw Cx BU Ay BX BZ Bf Bg CO CP CQ DJ DK DL DN DR DT DU DV DW DX DY DZ Da Db Cy Cz Bh Bj Bl Bn Bo Bp Bq Br Bt Az Bu Bv Bw Bz B_ CB CS CU CV CW CX CY CZ Cc Ce BK T_ UA u70 UC u72 u73 UD u75 UE UF UG UH UJ UK UL UM UN UO UQ:Value) (Q0:Exit→Act→World→Prop) (HX:Hid (∀(T_ UA u70 UC u72 u73 UD u75 UE UF UG UH UJ UK UL UM UN UO UQ:Value) (wx:World),PR w2 wx (qG m)→Q0 (.exit 4) ⟨(List.toArray (s0::(.pointer (some ⟨w.heap.size,0,none⟩))::s2::s3::s4::(.pointer (some ⟨w2.heap.size,0,none⟩))::(.func (.func 28) #[] #[.pointer (some ⟨w2.heap.size,0,none⟩)])::s7::s8::s9::s10::s11::s12::s13::T_::UA::s16::G6::FW::IY::s20::FP::Gx::Ea::s24::Eb::FQ::Eu::Ev::Ew::Ey::Ez::E5::E8::E9::E_::FB::GN::GQ::GR::GU::GV::GX::s43::s44::GY::GZ::Ga::Gb::s49::Gc::Gd::Gf::s53::Fa::Fb::Fe::Fg::Fh::Fj::Fp::Fq::Fu::Fv::Fw::Fx::FC::(.slice A3 m.globs.length c3)::(.int .i64 m.globs.length)::(.int .i64 m.globs.length)::u70::UC::u72::u73::UD::u75::UE::UF::UG::UH::UJ::UK::UL::UM::UN::UO::UQ::s87::FD::FE::FH::FI::FJ::Ec::Ed::Ee::Ef::FR::FT::FU::BF::BG::BH::BI::BJ::BL::BM::BN::BO::BP::BQ::BR::BS::Ch::Ci::Cj::Ck::Cm::Cn::Co::Cq::Cr::Ct::Cw::Cx::BU::Ay::BX::BZ::Bf::Bg::CO::CP::CQ::DJ::DK::DL::DN::DR::DT::DU::DV::DW::DX::DY::DZ::Da::Db::Cy::Cz::Bh::Bj::Bl::Bn::Bo::Bp::Bq::Br::Bt::Az::Bu::Bv::Bw::Bz::B_::CB::CS::CU::CV::CW::CX::CY::CZ::Cc::Ce::BK:: [])),[]⟩ wx)):
 Code.wp prog (Code.loop (Jr 2)) Q0 ⟨(List.toArray (s0::(.pointer (some ⟨w.heap.size,0,none⟩))::s2::s3::s4::(.pointer (some ⟨w2.heap.size,0,none⟩))::(.func (.func 28) #[] #[.pointer (some ⟨w2.heap.size,0,none⟩)])::s7::s8::s9::s10::s11::s12::s13::T_::UA::s16::G6::FW::IY::s20::FP::Gx::Ea::s24::Eb::FQ::Eu::Ev::Ew::Ey::Ez::E5::E8::E9::E_::FB::GN::GQ::GR::GU::GV::GX::s43::s44::GY::GZ::Ga::Gb::s49::Gc::Gd::Gf::s53::Fa::Fb::Fe::Fg::Fh::Fj::Fp::Fq::Fu::Fv::Fw::Fx::FC::(.slice A3 m.globs.length c3)::(.int .i64 m.globs.length)::(.int .i64 0)::u70::UC::u72::u73::UD::u75::UE::UF::UG::UH::UJ::UK::UL::UM::UN::UO::UQ::s87::FD::FE::FH::FI::FJ::Ec::Ed::Ee::Ef::FR::FT::FU::BF::BG::BH::BI::BJ::BL::BM::BN::BO::BP::BQ::BR::BS::Ch::Ci::Cj::Ck::Cm::Cn::Co::Cq::Cr::Ct::Cw::Cx::BU::Ay::BX::BZ::Bf::Bg::CO::CP::CQ::DJ::DK::DL::DN::DR::DT::DU::DV::DW::DX::DY::DZ::Da::Db::Cy::Cz::Bh::Bj::Bl::Bn::Bo::Bp::Bq::Br::Bt::Az::Bu::Bv::Bw::Bz::B_::CB::CS::CU::CV::CW::CX::CY::CZ::Cc::Ce::BK:: [])),[]⟩ wr:=by
 refine wp_loop (fun a wx=> ∃(T_ UA u70 UC u72 u73 UD u75 UE UF UG UH UJ UK UL UM UN UO UQ:Value) (k:Nat),k≤m.globs.length∧PR w2 wx (Vf m++(m.globs.take k).flatMap FN)∧a=⟨(List.toArray (s0::(.pointer (some ⟨w.heap.size,0,none⟩))::s2::s3::s4::(.pointer (some ⟨w2.heap.size,0,none⟩))::(.func (.func 28) #[] #[.pointer (some ⟨w2.heap.size,0,none⟩)])::s7::s8::s9::s10::s11::s12::s13::T_::UA::s16::G6::FW::IY::s20::FP::Gx::Ea::s24::Eb::FQ::Eu::Ev::Ew::Ey::Ez::E5::E8::E9::E_::FB::GN::GQ::GR::GU::GV::GX::s43::s44::GY::GZ::Ga::Gb::s49::Gc::Gd::Gf::s53::Fa::Fb::Fe::Fg::Fh::Fj::Fp::Fq::Fu::Fv::Fw::Fx::FC::(.slice A3 m.globs.length c3)::(.int .i64 m.globs.length)::(.int .i64 k)::u70::UC::u72::u73::UD::u75::UE::UF::UG::UH::UJ::UK::UL::UM::UN::UO::UQ::s87::FD::FE::FH::FI::FJ::Ec::Ed::Ee::Ef::FR::FT::FU::BF::BG::BH::BI::BJ::BL::BM::BN::BO::BP::BQ::BR::BS::Ch::Ci::Cj::Ck::Cm::Cn::Co::Cq::Cr::Ct::Cw::Cx::BU::Ay::BX::BZ::Bf::Bg::CO::CP::CQ::DJ::DK::DL::DN::DR::DT::DU::DV::DW::DX::DY::DZ::Da::Db::Cy::Cz::Bh::Bj::Bl::Bn::Bo::Bp::Bq::Br::Bt::Az::Bu::Bv::Bw::Bz::B_::CB::CS::CU::CV::CW::CX::CY::CZ::Cc::Ce::BK:: [])),[]⟩) (fun a _=>m.globs.length-(intOf (a.tmps.getD 69 undef)).toNat) ?_ ?_
 ·exact⟨T_,UA,u70,UC,u72,u73,UD,u75,UE,UF,UG,UH,UJ,UK,UL,UM,UN,UO,UQ,0,Nat.zero_le _,by rw [List.take_zero,List.flatMap_nil,List.append_nil];exact HP.out,rfl⟩
 ·intro a wx hI
  obtain⟨T_,hI⟩:=hI
  obtain⟨UA,hI⟩:=hI
  obtain⟨u70,hI⟩:=hI
  obtain⟨UC,hI⟩:=hI
  obtain⟨u72,hI⟩:=hI
  obtain⟨u73,hI⟩:=hI
  obtain⟨UD,hI⟩:=hI
  obtain⟨u75,hI⟩:=hI
  obtain⟨UE,hI⟩:=hI
  obtain⟨UF,hI⟩:=hI
  obtain⟨UG,hI⟩:=hI
  obtain⟨UH,hI⟩:=hI
  obtain⟨UJ,hI⟩:=hI
  obtain⟨UK,hI⟩:=hI
  obtain⟨UL,hI⟩:=hI
  obtain⟨UM,hI⟩:=hI
  obtain⟨UN,hI⟩:=hI
  obtain⟨UO,hI⟩:=hI
  obtain⟨UQ,hI⟩:=hI
  obtain⟨k,hk,hp,rfl⟩:=hI
  refine Vi C hk (AA hp) _ _ _ _ _ _ _ _ _ _ _ _ _ _ _ _ _ _ _ _ _ _ _ _ _ _ _ _ _ _ _ _ _ _ _ _ _ _ _ _ _ _ _ _ _ _ _ _ _ _ _ _ _ _ _ _ _ _ _ _ _ _ _ _ _ _ _ _ _ _ _ _ _ _ _ _ _ _ _ _ _ _ _ _ _ _ _ _ _ _ _ _ _ _ _ _ _ _ _ _ _ _ _ _ _ _ _ _ _ _ _ _ _ _ _ _ _ _ _ _ _ _ _ _ _ _ _ _ _ _ _ _ _ _ _ _ _ _ _ _ _ _ _ _ _ _ _ _ _ _ _ _ _ _ _ _ _ _ _ _ _ _ _ _ _ _ _ _ _ _ _ _ (AA ?_) HX
  intro T_ UA u70 UC u72 u73 UD u75 UE UF UG UH UJ UK UL UM UN UO UQ wy hlt hp2
  refine⟨⟨T_,UA,u70,UC,u72,u73,UD,u75,UE,UF,UG,UH,UJ,UK,UL,UM,UN,UO,UQ,k+1,hlt,hp2,rfl⟩,?_⟩
  show m.globs.length-(intOf (.int .i64 ((k+1:Nat):Int))).toNat<m.globs.length-(intOf (.int .i64 (k:Int))).toNat
  simp [intOf]
  omega
end Go.Proofs.YtebgikflpgcnlaaGreatDoor
