/- Part 28 of the proof: R6L R6N TbkP -/
import Derived.Test.YtebgikflpgcnlaaGreatDoorP17
import Derived.Test.YtebgikflpgcnlaaGreatDoorP23
import Derived.Test.YtebgikflpgcnlaaGreatDoorP24
import Derived.Test.YtebgikflpgcnlaaGreatDoorP27
namespace Go.Proofs.YtebgikflpgcnlaaGreatDoor
set_option linter.unusedVariables false
set_option linter.unusedSimpArgs false
set_option maxRecDepth 100000
set_option maxHeartbeats 4000000
open Go.RowKit Tryz
set_option maxRecDepth 1000000 in
theorem wI {w w2:World} {hi hj:Nat} {m:AQ} {A1 A2 A3 A6 A7 A8:Option Addr} {c1 c2 c3 c6 c7 c8:Nat} (C:Hid (M7 w w2 hi hj m A1 c1 A2 c2 A3 c3 A6 c6 A7 c7 A8 c8)) {A0:Option Addr} {n0 c0:Nat} {WV:World} (HP:Hid (A_ w2 WV A0 n0 c0 (Sd m)))
 (s0 s2 s3 s4 s6 s7 s8 s9 s10 s11 s12 s13 G5 s15 s16 IY s20 FP Gx Ea s24 Eb FQ Eu Ev Ew Ey Ez E5 E8 E9 E_ FB GN GQ GR GU GV GX s43 s44 GY GZ Ga Gb s49 Gc Gd Gf s53 Fa Fb Fe Fg Fh Fj Fp Fq Fu Fv Fw Fx FC Fy s68 Fz F3 F4 s72 F5 F6 F7 F8 F9 GA GD GH GI s82 s83 GJ GK GL s87 FD FE FH FI FJ Ec Ed Ee Ef FR FT FU BF BG BH BI BJ BL BM BN BO BP BQ BR BS Ch Ci Cj Ck Cm Cn Co Cq Cr Ct Cw Cx BU Ay BX BZ Bf Bg CO CP CQ DJ DK DL DN DR DT DU DV DW DX DY DZ Da Db Jv Jw Jy Jz J2 J3 J4 J5 J6 J7 J8 J9 J_ KA KC KD KF KG KH KI KJ KL KM KN KO KP Ir Iu qV Gq Gs MH MI u152 MJ u154 MK ML MN MO Vo Vp Vq u162 MP u164 MQ IG II IJ IK IL IQ IU IV IW ND NG NH NI NJ NK NM NP NQ NR NS NT NU NV Vr Vs Vt:Value) (Q:Exit→Act→World→Prop) (HX:Hid (∀(qV Gq Gs MH MI u152 MJ u154 MK ML MN MO Vo Vp Vq u162 MP u164 MQ IG II IJ IK IL IQ IU IV IW ND NG NH NI NJ NK NM NP NQ NR NS NT NU NV Vr Vs Vt:Value) (A':Option Addr) (n' c':Nat) (wx:World),A_ w2 wx A' n' c' (VQ m)→Q (.exit 10) ⟨(List.toArray (s0::(.pointer (some ⟨w.heap.size,0,none⟩))::s2::s3::s4::(.slice A' n' c')::s6::s7::s8::s9::s10::s11::s12::s13::G5::s15::s16::(.int .i64 m.dat.length)::qV::IY::s20::FP::Gx::Ea::s24::Eb::FQ::Eu::Ev::Ew::Ey::Ez::E5::E8::E9::E_::FB::GN::GQ::GR::GU::GV::GX::s43::s44::GY::GZ::Ga::Gb::s49::Gc::Gd::Gf::s53::Fa::Fb::Fe::Fg::Fh::Fj::Fp::Fq::Fu::Fv::Fw::Fx::FC::Fy::s68::Fz::F3::F4::s72::F5::F6::F7::F8::F9::GA::GD::GH::GI::s82::s83::GJ::GK::GL::s87::FD::FE::FH::FI::FJ::Ec::Ed::Ee::Ef::FR::FT::FU::BF::BG::BH::BI::BJ::BL::BM::BN::BO::BP::BQ::BR::BS::Ch::Ci::Cj::Ck::Cm::Cn::Co::Cq::Cr::Ct::Cw::Cx::BU::Ay::BX::BZ::Bf::Bg::CO::CP::CQ::DJ::DK::DL::DN::DR::DT::DU::DV::DW::DX::DY::DZ::Da::Db::Gq::Gs::MH::MI::u152::MJ::u154::MK::ML::MN::MO::Vo::Vp::Vq::u162::MP::u164::MQ::IG::II::IJ::IK::IL::IQ::IU::IV::IW::ND::NG::NH::NI::NJ::NK::NM::NP::NQ::NR::NS::NT::NU::NV::Vr::Vs::Vt::Jv::Jw::Jy::Jz::J2::J3::J4::J5::J6::J7::J8::J9::J_::KA::KC::KD::KF::KG::KH::KI::KJ::KL::KM::KN::KO::KP::Ir::Iu:: [])),[]⟩ wx)):
 Code.wp prog (Code.loop (SQ 4)) Q ⟨(List.toArray (s0::(.pointer (some ⟨w.heap.size,0,none⟩))::s2::s3::s4::(.slice A0 n0 c0)::s6::s7::s8::s9::s10::s11::s12::s13::G5::s15::s16::(.int .i64 0)::qV::IY::s20::FP::Gx::Ea::s24::Eb::FQ::Eu::Ev::Ew::Ey::Ez::E5::E8::E9::E_::FB::GN::GQ::GR::GU::GV::GX::s43::s44::GY::GZ::Ga::Gb::s49::Gc::Gd::Gf::s53::Fa::Fb::Fe::Fg::Fh::Fj::Fp::Fq::Fu::Fv::Fw::Fx::FC::Fy::s68::Fz::F3::F4::s72::F5::F6::F7::F8::F9::GA::GD::GH::GI::s82::s83::GJ::GK::GL::s87::FD::FE::FH::FI::FJ::Ec::Ed::Ee::Ef::FR::FT::FU::BF::BG::BH::BI::BJ::BL::BM::BN::BO::BP::BQ::BR::BS::Ch::Ci::Cj::Ck::Cm::Cn::Co::Cq::Cr::Ct::Cw::Cx::BU::Ay::BX::BZ::Bf::Bg::CO::CP::CQ::DJ::DK::DL::DN::DR::DT::DU::DV::DW::DX::DY::DZ::Da::Db::Gq::Gs::MH::MI::u152::MJ::u154::MK::ML::MN::MO::Vo::Vp::Vq::u162::MP::u164::MQ::IG::II::IJ::IK::IL::IQ::IU::IV::IW::ND::NG::NH::NI::NJ::NK::NM::NP::NQ::NR::NS::NT::NU::NV::Vr::Vs::Vt::Jv::Jw::Jy::Jz::J2::J3::J4::J5::J6::J7::J8::J9::J_::KA::KC::KD::KF::KG::KH::KI::KJ::KL::KM::KN::KO::KP::Ir::Iu:: [])),[]⟩ WV:=by
 refine wp_loop (fun a wx=> ∃(qV Gq Gs MH MI u152 MJ u154 MK ML MN MO Vo Vp Vq u162 MP u164 MQ IG II IJ IK IL IQ IU IV IW ND NG NH NI NJ NK NM NP NQ NR NS NT NU NV Vr Vs Vt:Value) (A':Option Addr) (n' c' k:Nat),k≤m.dat.length∧A_ w2 wx A' n' c' (Sd m++(m.dat.take k).flatMap Lm)∧a=⟨(List.toArray (s0::(.pointer (some ⟨w.heap.size,0,none⟩))::s2::s3::s4::(.slice A' n' c')::s6::s7::s8::s9::s10::s11::s12::s13::G5::s15::s16::(.int .i64 k)::qV::IY::s20::FP::Gx::Ea::s24::Eb::FQ::Eu::Ev::Ew::Ey::Ez::E5::E8::E9::E_::FB::GN::GQ::GR::GU::GV::GX::s43::s44::GY::GZ::Ga::Gb::s49::Gc::Gd::Gf::s53::Fa::Fb::Fe::Fg::Fh::Fj::Fp::Fq::Fu::Fv::Fw::Fx::FC::Fy::s68::Fz::F3::F4::s72::F5::F6::F7::F8::F9::GA::GD::GH::GI::s82::s83::GJ::GK::GL::s87::FD::FE::FH::FI::FJ::Ec::Ed::Ee::Ef::FR::FT::FU::BF::BG::BH::BI::BJ::BL::BM::BN::BO::BP::BQ::BR::BS::Ch::Ci::Cj::Ck::Cm::Cn::Co::Cq::Cr::Ct::Cw::Cx::BU::Ay::BX::BZ::Bf::Bg::CO::CP::CQ::DJ::DK::DL::DN::DR::DT::DU::DV::DW::DX::DY::DZ::Da::Db::Gq::Gs::MH::MI::u152::MJ::u154::MK::ML::MN::MO::Vo::Vp::Vq::u162::MP::u164::MQ::IG::II::IJ::IK::IL::IQ::IU::IV::IW::ND::NG::NH::NI::NJ::NK::NM::NP::NQ::NR::NS::NT::NU::NV::Vr::Vs::Vt::Jv::Jw::Jy::Jz::J2::J3::J4::J5::J6::J7::J8::J9::J_::KA::KC::KD::KF::KG::KH::KI::KJ::KL::KM::KN::KO::KP::Ir::Iu:: [])),[]⟩) (fun a _=>m.dat.length-(intOf (a.tmps.getD 17 undef)).toNat) ?_ ?_
 ·exact⟨qV,Gq,Gs,MH,MI,u152,MJ,u154,MK,ML,MN,MO,Vo,Vp,Vq,u162,MP,u164,MQ,IG,II,IJ,IK,IL,IQ,IU,IV,IW,ND,NG,NH,NI,NJ,NK,NM,NP,NQ,NR,NS,NT,NU,NV,Vr,Vs,Vt,A0,n0,c0,0,Nat.zero_le _,by rw [List.take_zero,List.flatMap_nil,List.append_nil];exact HP.out,rfl⟩
 intro a wr hI
 clear HP qV Gq Gs MH MI u152 MJ u154 MK ML MN MO Vo Vp Vq u162 MP u164 MQ IG II IJ IK IL IQ IU IV IW ND NG NH NI NJ NK NM NP NQ NR NS NT NU NV Vr Vs Vt
 obtain⟨qV,Gq,Gs,MH,MI,u152,MJ,u154,MK,ML,MN,MO,Vo,Vp,Vq,u162,MP,u164,MQ,IG,II,IJ,IK,IL,IQ,IU,IV,IW,ND,NG,NH,NI,NJ,NK,NM,NP,NQ,NR,NS,NT,NU,NV,Vr,Vs,Vt,A,n,c,k,hk,hp,rfl⟩:=hI
 have HP:=AA hp
 clear hp
 refine Iz (fun K=> ∀(qV Gq Gs MH MI u152 MJ u154 MK ML MN MO Vo Vp Vq u162 MP u164 MQ IG II IJ IK IL IQ IU IV IW ND NG NH NI NJ NK NM NP NQ NR NS NT NU NV Vr Vs Vt:Value) (A':Option Addr) (n' c':Nat) (wx:World),k<m.dat.length→A_ w2 wx A' n' c' (Sd m++(m.dat.take (k+1)).flatMap Lm)→K ⟨(List.toArray (s0::(.pointer (some ⟨w.heap.size,0,none⟩))::s2::s3::s4::(.slice A' n' c')::s6::s7::s8::s9::s10::s11::s12::s13::G5::s15::s16::(.int .i64 ((k:Int)+1))::qV::IY::s20::FP::Gx::Ea::s24::Eb::FQ::Eu::Ev::Ew::Ey::Ez::E5::E8::E9::E_::FB::GN::GQ::GR::GU::GV::GX::s43::s44::GY::GZ::Ga::Gb::s49::Gc::Gd::Gf::s53::Fa::Fb::Fe::Fg::Fh::Fj::Fp::Fq::Fu::Fv::Fw::Fx::FC::Fy::s68::Fz::F3::F4::s72::F5::F6::F7::F8::F9::GA::GD::GH::GI::s82::s83::GJ::GK::GL::s87::FD::FE::FH::FI::FJ::Ec::Ed::Ee::Ef::FR::FT::FU::BF::BG::BH::BI::BJ::BL::BM::BN::BO::BP::BQ::BR::BS::Ch::Ci::Cj::Ck::Cm::Cn::Co::Cq::Cr::Ct::Cw::Cx::BU::Ay::BX::BZ::Bf::Bg::CO::CP::CQ::DJ::DK::DL::DN::DR::DT::DU::DV::DW::DX::DY::DZ::Da::Db::Gq::Gs::MH::MI::u152::MJ::u154::MK::ML::MN::MO::Vo::Vp::Vq::u162::MP::u164::MQ::IG::II::IJ::IK::IL::IQ::IU::IV::IW::ND::NG::NH::NI::NJ::NK::NM::NP::NQ::NR::NS::NT::NU::NV::Vr::Vs::Vt::Jv::Jw::Jy::Jz::J2::J3::J4::J5::J6::J7::J8::J9::J_::KA::KC::KD::KF::KG::KH::KI::KJ::KL::KM::KN::KO::KP::Ir::Iu:: [])),[]⟩ wx) ?_ ?_
 ·intro qV Gq Gs MH MI u152 MJ u154 MK ML MN MO Vo Vp Vq u162 MP u164 MQ IG II IJ IK IL IQ IU IV IW ND NG NH NI NJ NK NM NP NQ NR NS NT NU NV Vr Vs Vt A2 n2 c2 wy hlt hp2
  refine⟨⟨qV,Gq,Gs,MH,MI,u152,MJ,u154,MK,ML,MN,MO,Vo,Vp,Vq,u162,MP,u164,MQ,IG,II,IJ,IK,IL,IQ,IU,IV,IW,ND,NG,NH,NI,NJ,NK,NM,NP,NQ,NR,NS,NT,NU,NV,Vr,Vs,Vt,A2,n2,c2,k+1,hlt,hp2,rfl⟩,?_⟩
  show m.dat.length-(intOf (.int .i64 ((k+1:Nat):Int))).toNat<m.dat.length-(intOf (.int .i64 (k:Int))).toNat
  simp [intOf]
  omega
 intro K HK
 conv=>arg 2;whnf
 have Eo:=AA (C.out.Gg.trans (HP.out.2.mono C.out.Gg.size))
 have fT:=AA (C.out.blk.below HP.out.2 C.out.lt)
 have hsz:w2.heap.size≤wr.heap.size:=HP.out.2.size
 have hsw:w.heap.size<w2.heap.size:=C.out.lt
 have hhi:=C.out.hhi
 have hk0:(0:Int)≤k:=by omega
 have q0:=fT.out.q 6 rfl
 by_cases hlt:k<m.dat.length
 ·obtain⟨x,hx⟩: ∃x,m.dat[k]?=some x:=⟨_,List.getElem?_eq_getElem hlt⟩
  have Lr:(k:Int)<m.dat.length:=by omega
  have Ux:m.dat.length≤2147483647:=by have:=C.out.few;unfold Ad at this;omega
  have HXQ:=AA hx
  have Ls:=AA (Dz (Sd m) Lm hx)
  have KZ:=AA (DC (Sd m) Lm hx)
  have K8:(Sd m++m.dat.flatMap Lm).length≤1048576:=by have:=Ou m C.out.le;first | exact this.2.1 | exact this.2.2.1 | exact this.2.2.2.1 | exact this.2.2.2.2.1 | exact this.2.2.2.2.2.1 | exact this.2.2.2.2.2.2.1 | exact this.2.2.2.2.2.2.2
  have HL2:Hid ((Sd m++(m.dat.take k).flatMap Lm).length+(Lm x).length≤140737488351232):=AA (by have:=KZ.out;rw [List.length_append] at this;omega)
  have vk:Hid ((Lm x).length≤1048576):=AA (by have:=KZ.out;rw [List.length_append] at this;omega)
  have Xl:=AA (List.mem_of_getElem? hx)
  clear hx
  obtain⟨bk,ok,Sb,Rl,rfl,_,Kg,hc0,hc1,Lp,hbs⟩:=Jd C.out.h7 HXQ.out
  have hc0:=(Eo.out.cell (p:=⟨bk,ok+k*2,none⟩) (show bk<w.heap.size by omega)).trans hc0
  have X3:Hid (∀W,Calls prog 40 #[.int .i64 x.at_] W fun e w'=>Below W.heap.size W w'∧e= .returned (.string (BA (Lib.itoa x.at_)))):=AA (fun W=>Iq x.at_ Lp W)
  have hz:(BA (Lib.itoa x.at_)).size≤20:=by rw [JY];exact Dc _ Lp
  have oV:Hid (Lm x=([100,97,116,97,32]++Lib.itoa x.at_++ [32])++x.b.flatMap Nc++ [10]):=AA (by unfold Lm;rw [Er,ZN];simp [Yq])
  have ACq:=KZ.out
  rw [oV.out] at ACq
  simp only [List.length_append] at ACq K8
  have HLA:Hid ((Sd m++(m.dat.take k).flatMap Lm).length+([100,97,116,97,32]++Lib.itoa x.at_++ [32]:List UInt8).length≤140737488351232):=AA (by simp only [List.length_append];omega)
  have Ta:Hid (((Sd m++(m.dat.take k).flatMap Lm++([100,97,116,97,32]++Lib.itoa x.at_++ [32]))++x.b.flatMap Nc).length≤1048576):=AA (by simp only [List.length_append];omega)
  have HLB:Hid (((Sd m++(m.dat.take k).flatMap Lm++([100,97,116,97,32]++Lib.itoa x.at_++ [32]))++x.b.flatMap Nc).length+1≤140737488351232):=AA (by have:=Ta.out;omega)
  have HNF:Hid (((Sd m++(m.dat.take k).flatMap Lm++([100,97,116,97,32]++Lib.itoa x.at_++ [32]))++x.b.flatMap Nc)++ [10]=Sd m++(m.dat.take (k+1)).flatMap Lm):=AA (by rw [←Ls.out,oV.out];simp only [List.append_assoc])
  clear HX K8 ACq hbs hc1
  go_wp2_with fail
  refine(X3.out wr).mono ?_
  rintro e w5 ⟨hb5,rfl⟩
  have ow:=AA (HP.out.below hb5)
  generalize hda:BA (Lib.itoa x.at_)=da at hz⊢
  have X4:Hid ((⟨#[100,97,116,97,32]⟩++da++⟨#[32]⟩:ByteArray).data.toList= [100,97,116,97,32]++Lib.itoa x.at_++ [32]):=AA (by rw [←hda];simp [BA])
  clear hb5 hda hc0
  go_wp2_with (at_builtin;refine SN w2 (w7:=w5) (r7:=(Value.slice A n c).ownBlock) _ rfl _ _ rfl A n c _ rfl ow.out (Aside.refl w5 _) _ _ X4.out rfl HLA.out ?_;intro A9 n9 c9 w6 h6 Rf;have Oa:=AA h6;clear h6 Rf)
  refine pI C HXQ Ta.out Oa _ _ _ _ _ _ _ _ _ _ _ _ _ _ _ _ _ _ _ _ _ _ _ _ _ _ _ _ _ _ _ _ _ _ _ _ _ _ _ _ _ _ _ _ _ _ _ _ _ _ _ _ _ _ _ _ _ _ _ _ _ _ _ _ _ _ _ _ _ _ _ _ _ _ _ _ _ _ _ _ _ _ _ _ _ _ _ _ _ _ _ _ _ _ _ _ _ _ _ _ _ _ _ _ _ _ _ _ _ _ _ _ _ _ _ _ _ _ _ _ _ _ _ _ _ _ _ _ _ _ _ _ _ _ _ _ _ _ _ _ _ _ _ _ _ _ _ _ _ _ _ _ _ _ _ _ _ _ _ _ _ _ _ _ _ _ _ _ _ _ _ _ _ _ _ _ _ _ _ _ _ _ _ _ _ _ _ _ _ _ _ _ _ _ _ _ _ _ _ _ _ _ _ _ _ _ _ _ _ _ _ _ _ _ _ _ _ (AA ?_)
  intro v0 v1 v2 v3 v4 v5 v6 v7 v8 v9 v10 v11 v12 v13 v14 v15 v16 v17 v18 v19 v20 v21 v22 A10 n10 c10 wx hpx
  have Qf:=AA hpx
  clear hpx
  go_wp2_with (at_builtin;refine AAM w2 (w7:=wx) (r7:=(Value.slice A10 n10 c10).ownBlock) wx 10 rfl _ _ rfl A10 n10 c10 _ rfl Qf.out (Aside.refl wx _) rfl HLB.out ?_;intro A11 n11 c11 w7 h7 h7a;have HP7:=AA h7;clear h7 h7a)
  apply HK.out
  ·exact hlt
  ·rw [←HNF.out];exact HP7.out
 ·obtain rfl:k=m.dat.length:=by omega
  have Qf:Hid (A_ w2 wr A n c (VQ m)):=AA (by have:=HP.out;rw [List.take_length] at this;exact this)
  clear HP HK
  go_wp2_with fail
  apply HX.out
  exact Qf.out
theorem wT (cs:List Value) (hi hj:Nat) (m:AQ) (w:World) (h:IZ.R w 0 hi cs m) (hhi:hi≤w.heap.size) (hle:Ad m≤2147483647) (hE:Dt hj w) (KQ:hj≤w.heap.size):
 Calls prog 11 #[.agg cs.toArray] w (QS w m):=by
 have LU:=Uv h
 obtain⟨v1,v2,v3,v6,v7,v8,rfl,h1,h2,h3,h4,h5,h6,h7,h8⟩:=DF.1 h
 obtain⟨A1,c1,rfl⟩:=AU h1
 obtain⟨A2,c2,rfl⟩:=AU h2
 obtain⟨A3,c3,rfl⟩:=AU h3
 obtain⟨A6,c6,rfl⟩:=AU h6
 obtain⟨A7,c7,rfl⟩:=AU h7
 obtain⟨A8,c8,rfl⟩:=AU h8
 have HH:=AA h;have HE:=AA hE;have HN:=AA LU
 have H1:=AA h1;have H2:=AA h2;have H3:=AA h3;have H6:=AA h6;have H7:=AA h7;have H8:=AA h8
 have zi:=AA h4;have HF5:=AA h5
 clear h hE LU h1 h2 h3 h4 h5 h6 h7 h8
 go_enter func11,ntmps11
 go_wp2_with fail
 generalize hw1:World.alloc _ _=w1
 have hb1:Below w.heap.size w w1:=by rw [←hw1];exact(Below.refl _ _).alloc (Nat.le_refl _) _
 have hm1:AV w1 w.heap.size 29 [.slice A1 m.types.length c1,.slice A2 m.hosts.length c2,.slice A3 m.globs.length c3,.int .i64 m.first,.int .i64 m.most,.slice A6 m.fns.length c6,.slice A7 m.dat.length c7,.slice A8 m.AO.length c8]:=by rw [←hw1];exact AV.new w _ _
 clear hw1
 refine(wR [.slice A1 m.types.length c1,.slice A2 m.hosts.length c2,.slice A3 m.globs.length c3,.int .i64 m.first,.int .i64 m.most,.slice A6 m.fns.length c6,.slice A7 m.dat.length c7,.slice A8 m.AO.length c8] hi m w1 (IZ.below HH.out hb1 hhi) (Nat.le_trans hhi hb1.size) hle HN.out).mono ?_
 rintro e w2 ⟨hb2,rfl⟩
 have VF:=AA (hm1.below hb2 hm1.lt)
 have HB2:=AA (hb1.trans (hb2.mono hb1.size))
 clear hb1 hm1 hb2
 by_cases hz:FM m=0
 case' neg=>
  have hz0:(FM m !=0)=true:=bne_iff_ne.2 hz
  have HZ:Hid (QS w m (.returned (.tuple #[.string ⟨#[]⟩,.int .i64 (FM m)])) w2):=AA ⟨HB2.out,by rw [if_neg hz];rfl⟩
  clear hz
  go_wp2_with fail
  go_ret2
  exact HZ.out
 have HF:=AA (WO hz HN.out)
 have HLEN:=AA (Uj hz HN.out)
 have hz0:(FM m !=0)=false:=by rw [hz];rfl
 have HZ:=AA hz
 have HT:Hid (∀W,Below w2.heap.size w2 W→QS w m (.returned (.tuple #[.string (BA (Il m)),.int .i64 0])) W):=AA (fun W hW=>⟨HB2.out.trans (hW.mono HB2.out.size),by rw [hz,if_pos rfl]⟩)
 clear hz
 have C:Hid (M7 w w2 hi hj m A1 c1 A2 c2 A3 c3 A6 c6 A7 c7 A8 c8):=AA ⟨hhi,KQ,HB2.out,VF.out.lt,HE.out,HF.out,HLEN.out,hle,VF.out,H1.out,H2.out,H3.out,H6.out,H7.out,H8.out⟩
 have OY:=AA (Ou m HLEN.out)
 have X4:Hid ((⟨#[102,108,97,103,111,110,10]⟩:ByteArray).data.toList=YM m):=AA rfl
 have HL0:Hid (([]:List UInt8).length+(YM m).length≤140737488351232):=AA (by have:=OY.out.1;simp only [List.length_nil];omega)
 have P2:Hid (A_ w2 w2 none 0 0 []):=AA ⟨World.ownsRow_nil _ _ _ _,Below.refl _ _⟩
 go_upto_region 6 with(at_builtin;refine SN w2 (w7:=w2) (r7:=(Value.slice none 0 0).ownBlock) _ rfl _ _ rfl none 0 0 [] rfl P2.out (Aside.refl w2 _) _ _ X4.out rfl HL0.out ?_;intro A4' n4 c4' w4 h4 h4a;have P4:=AA h4;clear h4 h4a)
 have P4:Hid (A_ w2 w4 A4' n4 c4' (YM m)):=P4
 go_wp2_with fail
 refine oz C P4 _ _ _ _ _ _ _ _ _ _ _ _ _ _ _ _ _ _ _ _ _ _ _ _ _ _ _ _ _ _ _ _ _ _ _ _ _ _ _ _ _ _ _ _ _ _ _ _ _ _ _ _ _ _ _ _ _ _ _ _ _ _ _ _ _ _ _ _ _ _ _ _ _ _ _ _ _ _ _ _ _ _ _ _ _ _ _ _ _ _ _ _ _ _ _ _ _ _ _ _ _ _ _ _ _ _ _ _ _ _ _ _ _ _ _ _ _ _ _ _ _ _ _ _ _ _ _ _ _ _ _ _ _ _ _ _ _ _ _ _ _ _ _ _ _ _ _ _ _ _ _ _ _ _ _ _ _ _ _ _ _ _ _ _ _ _ _ _ _ _ _ _ _ _ _ _ _ _ _ _ _ _ _ _ _ _ _ _ _ _ _ _ _ _ _ _ _ _ _ _ _ _ _ _ _ _ _ _ _ _ _ _ _ _ _ _ _ _ (AA ?_)
 intro v5_0 v5_1 v5_2 v5_3 v5_4 v5_5 v5_6 v5_7 v5_8 v5_9 AEj AEk AEl v5_13 v5_14 v5_15 v5_16 v5_17 v5_18 v5_19 v5_20 v5_21 v5_22 A5' n5 c5' w5 hp
 have P5:Hid (A_ w2 w5 A5' n5 c5' (Ve m)):=AA hp
 clear hp
 go_wp2_with fail
 refine o7 C P5 _ _ _ _ _ _ _ _ _ _ _ _ _ _ _ _ _ _ _ _ _ _ _ _ _ _ _ _ _ _ _ _ _ _ _ _ _ _ _ _ _ _ _ _ _ _ _ _ _ _ _ _ _ _ _ _ _ _ _ _ _ _ _ _ _ _ _ _ _ _ _ _ _ _ _ _ _ _ _ _ _ _ _ _ _ _ _ _ _ _ _ _ _ _ _ _ _ _ _ _ _ _ _ _ _ _ _ _ _ _ _ _ _ _ _ _ _ _ _ _ _ _ _ _ _ _ _ _ _ _ _ _ _ _ _ _ _ _ _ _ _ _ _ _ _ _ _ _ _ _ _ _ _ _ _ _ _ _ _ _ _ _ _ _ _ _ _ _ _ _ _ _ _ _ _ _ _ _ _ _ _ _ _ _ _ _ _ _ _ _ _ _ _ _ _ _ _ _ _ _ _ _ _ _ _ _ _ _ _ _ _ _ _ _ _ _ _ _ (AA ?_)
 intro v6_0 v6_1 v6_2 v6_3 v6_4 v6_5 v6_6 v6_7 v6_8 v6_9 v6_10 v6_11 v6_12 v6_13 v6_14 v6_15 v6_16 A6' n6 c6' w6 hp
 have P6:Hid (A_ w2 w6 A6' n6 c6' (Vf m)):=AA hp
 clear hp
 go_wp2_with fail
 refine pG C P6 _ _ _ _ _ _ _ _ _ _ _ _ _ _ _ _ _ _ _ _ _ _ _ _ _ _ _ _ _ _ _ _ _ _ _ _ _ _ _ _ _ _ _ _ _ _ _ _ _ _ _ _ _ _ _ _ _ _ _ _ _ _ _ _ _ _ _ _ _ _ _ _ _ _ _ _ _ _ _ _ _ _ _ _ _ _ _ _ _ _ _ _ _ _ _ _ _ _ _ _ _ _ _ _ _ _ _ _ _ _ _ _ _ _ _ _ _ _ _ _ _ _ _ _ _ _ _ _ _ _ _ _ _ _ _ _ _ _ _ _ _ _ _ _ _ _ _ _ _ _ _ _ _ _ _ _ _ _ _ _ _ _ _ _ _ _ _ _ _ _ _ _ _ _ _ _ _ _ _ _ _ _ _ _ _ _ _ _ _ _ _ _ _ _ _ _ _ _ _ _ _ _ _ _ _ _ _ _ _ _ _ _ _ _ _ _ _ _ (AA ?_)
 intro v7_0 v7_1 v7_2 v7_3 v7_4 v7_5 v7_6 v7_7 v7_8 v7_9 v7_10 v7_11 v7_12 v7_13 v7_14 v7_15 v7_16 v7_17 v7_18 v7_19 v7_20 v7_21 v7_22 v7_23 v7_24 v7_25 v7_26 v7_27 v7_28 v7_29 A7' n7 c7' w7 hp
 have P7:Hid (A_ w2 w7 A7' n7 c7' (qG m)):=AA hp
 clear hp
 have HDF:Hid (∀W,Calls prog 40 #[.int .i64 m.first] W fun e w'=>Below W.heap.size W w'∧e= .returned (.string (BA (Lib.itoa m.first)))):=AA (fun W=>Iq m.first zi.out W)
 have HDM:Hid (∀W,Calls prog 40 #[.int .i64 m.most] W fun e w'=>Below W.heap.size W w'∧e= .returned (.string (BA (Lib.itoa m.most)))):=AA (fun W=>Iq m.most HF5.out W)
 have hzf:(BA (Lib.itoa m.first)).size≤20:=by rw [JY];exact Dc _ zi.out
 have hzm:(BA (Lib.itoa m.most)).size≤20:=by rw [JY];exact Dc _ HF5.out
 generalize hdf:BA (Lib.itoa m.first)=df at hzf HDF
 generalize hdm:BA (Lib.itoa m.most)=dm at hzm HDM
 have HTM:Hid ((⟨#[109,101,109,111,114,121,32]⟩++df++⟨#[32]⟩++dm++⟨#[10]⟩:ByteArray).data.toList=Cg [Ik,Lib.itoa m.first,Lib.itoa m.most]):=AA (by rw [←hdf,←hdm,Er];simp [BA,Ik])
 have HLM:Hid ((qG m).length+(Cg [Ik,Lib.itoa m.first,Lib.itoa m.most]).length≤140737488351232):=AA (by have h:=OY.out.2.2.2.2.1;unfold Tj at h;rw [List.length_append] at h;omega)
 have z1: ¬(9223372036854775807<7+df.size):=by omega
 have z2: ¬(9223372036854775807<7+df.size+1):=by omega
 have z3: ¬(9223372036854775807<7+df.size+1+dm.size):=by omega
 have z4: ¬(9223372036854775807<7+df.size+1+dm.size+1):=by omega
 clear hdf hdm
 have OV:Hid (∀W,Below w2.heap.size w2 W→W.cell? ⟨w.heap.size,3,none⟩=some (.int .i64 m.first)∧W.cell? ⟨w.heap.size,4,none⟩=some (.int .i64 m.most)):=AA (fun W hW=>⟨(C.out.blk.below hW C.out.lt).cell 3,(C.out.blk.below hW C.out.lt).cell 4⟩)
 have HP9:=AA (P7.out.below (Below.refl _ _).drew)
 go_upto_region 23 with fail
 refine wp_region_held_drew (S:=fun W=>W.cell? ⟨w.heap.size,3,none⟩=some (.int .i64 m.first)∧W.cell? ⟨w.heap.size,4,none⟩=some (.int .i64 m.most)) (by kernel_rfl) (OV.out _ HP9.out.2) (fun hHeld=> ?_)
 generalize w7.drew=w9 at*
 refine AB (i:=0) (v:= ?_) rfl (by kernel_rfl) (fun _ _ _ h=>h) (by intro w hSw;(try dsimp only at hSw);go_simp;try with_reducible rfl) hHeld ?_
 refine AB (i:=1) (v:= ?_) rfl (by kernel_rfl) (fun _ _ _ h=>h) (by intro w hSw;(try dsimp only at hSw);go_simp;try with_reducible rfl) hHeld ?_
 refine AB (i:=2) (v:= ?_) rfl (by kernel_rfl) (fun _ _ _ h=>h) (by intro w hSw;(try dsimp only at hSw);go_simp;try with_reducible rfl) hHeld ?_
 refine AB (i:=6) (v:= ?_) rfl (by kernel_rfl) (fun _ _ _ h=>h) (by intro w hSw;(try dsimp only at hSw);go_simp;try with_reducible rfl) hHeld ?_
 refine AB (i:=7) (v:= ?_) rfl (by kernel_rfl) (fun _ _ _ h=>h) (by intro w hSw;(try dsimp only at hSw);go_simp;try with_reducible rfl) hHeld ?_
 refine wpAnyH_ready (rs:= [3]) (by kernel_rfl) (by simp) ?_
 refine AllReadyH.cons rfl (fun K hK=> ?_) AllReadyH.nil
 go_simp
 go_at_call 40
 refine(HDF.out _).mono ?_
 rintro e wa ⟨hba,rfl⟩
 have jJ:=AA (HP9.out.below hba)
 clear hba
 refine hK.out _ _ (OV.out _ jJ.out.2) (fun AX=> ?_)
 clear hK K
 refine AB (i:=4) (v:= ?_) rfl (by kernel_rfl) (fun _ _ _ h=>h) (by intro w hSw;(try dsimp only at hSw);go_simp;try with_reducible rfl) AX ?_
 refine AB (i:=5) (v:= ?_) rfl (by kernel_rfl) (fun _ _ _ h=>h) (by intro w hSw;(try dsimp only at hSw);go_simp;try with_reducible rfl) AX ?_
 refine wpAnyH_ready (rs:= [8]) (by kernel_rfl) (by simp) ?_
 refine AllReadyH.cons rfl (fun K hK=> ?_) AllReadyH.nil
 go_simp
 go_at_call 40
 refine(HDM.out _).mono ?_
 rintro e wb ⟨hbb,rfl⟩
 have fU:=AA (jJ.out.below hbb)
 clear hbb
 refine hK.out _ _ (OV.out _ fU.out.2) (fun LQ=> ?_)
 clear hK K
 refine AB (i:=9) (v:= ?_) rfl (by kernel_rfl) (fun _ _ _ h=>h) (by intro w hSw;(try dsimp only at hSw);go_simp;try with_reducible rfl) LQ ?_
 refine AB (i:=10) (v:= ?_) rfl (by kernel_rfl) (fun _ _ _ h=>h) (by intro w hSw;(try dsimp only at hSw);go_simp;try with_reducible rfl) LQ ?_
 refine wpAnyH_ready (rs:= [11]) (by kernel_rfl) (by simp) ?_
 refine AllReadyH.cons rfl (fun K hK=> ?_) AllReadyH.nil
 refine Ig w2 (w7:=wb) (r7:=(Value.slice A7' n7 c7').ownBlock) rfl _ _ rfl A7' n7 c7' _ rfl fU.out (Aside.refl wb _) _ _ HTM.out rfl HLM.out ?_
 intro A8' n8 c8' w8 h8 h8a
 refine hK.out _ _ (OV.out _ h8.2) (fun Kr=> ?_)
 have P8:Hid (A_ w2 w8 A8' n8 c8' (Tj m)):=AA h8
 clear hK K h8 h8a
 refine AB (i:=12) (v:= ?_) rfl (by kernel_rfl) (fun _ _ _ h=>h) (by intro w hSw;(try dsimp only at hSw);go_simp;try with_reducible rfl) Kr ?_
 refine wpAnyH_done (by kernel_rfl) ?_ _
 go_simp
 go_wp2_with fail
 refine AAV C P8 _ _ _ _ _ _ _ _ _ _ _ _ _ _ _ _ _ _ _ _ _ _ _ _ _ _ _ _ _ _ _ _ _ _ _ _ _ _ _ _ _ _ _ _ _ _ _ _ _ _ _ _ _ _ _ _ _ _ _ _ _ _ _ _ _ _ _ _ _ _ _ _ _ _ _ _ _ _ _ _ _ _ _ _ _ _ _ _ _ _ _ _ _ _ _ _ _ _ _ _ _ _ _ _ _ _ _ _ _ _ _ _ _ _ _ _ _ _ _ _ _ _ _ _ _ _ _ _ _ _ _ _ _ _ _ _ _ _ _ _ _ _ _ _ _ _ _ _ _ _ _ _ _ _ _ _ _ _ _ _ _ _ _ _ _ _ _ _ _ _ _ _ _ _ _ _ _ _ _ _ _ _ _ _ _ _ _ _ _ _ _ _ _ _ _ _ _ _ _ _ _ _ _ _ _ _ _ _ _ _ _ _ _ _ _ _ _ _ (AA ?_)
 intro v9_0 v9_1 v9_2 v9_3 v9_4 v9_5 v9_6 v9_7 v9_8 v9_9 v9_10 v9_11 v9_12 v9_13 v9_14 v9_15 v9_16 v9_17 v9_18 v9_19 v9_20 v9_21 v9_22 v9_23 v9_24 v9_25 v9_26 v9_27 v9_28 v9_29 v9_30 v9_31 v9_32 v9_33 v9_34 v9_35 v9_36 v9_37 v9_38 v9_39 v9_40 v9_41 v9_42 v9_43 v9_44 v9_45 B9' n9 c9' w9 hp
 have P9:Hid (A_ w2 w9 B9' n9 c9' (Sd m)):=AA hp
 clear hp
 go_wp2_with fail
 refine wI C P9 _ _ _ _ _ _ _ _ _ _ _ _ _ _ _ _ _ _ _ _ _ _ _ _ _ _ _ _ _ _ _ _ _ _ _ _ _ _ _ _ _ _ _ _ _ _ _ _ _ _ _ _ _ _ _ _ _ _ _ _ _ _ _ _ _ _ _ _ _ _ _ _ _ _ _ _ _ _ _ _ _ _ _ _ _ _ _ _ _ _ _ _ _ _ _ _ _ _ _ _ _ _ _ _ _ _ _ _ _ _ _ _ _ _ _ _ _ _ _ _ _ _ _ _ _ _ _ _ _ _ _ _ _ _ _ _ _ _ _ _ _ _ _ _ _ _ _ _ _ _ _ _ _ _ _ _ _ _ _ _ _ _ _ _ _ _ _ _ _ _ _ _ _ _ _ _ _ _ _ _ _ _ _ _ _ _ _ _ _ _ _ _ _ _ _ _ _ _ _ _ _ _ _ _ _ _ _ _ _ _ _ _ _ _ _ _ _ _ (AA ?_)
 intro v10_0 v10_1 v10_2 v10_3 v10_4 v10_5 v10_6 v10_7 v10_8 v10_9 v10_10 v10_11 v10_12 v10_13 v10_14 v10_15 v10_16 v10_17 v10_18 v10_19 v10_20 v10_21 v10_22 v10_23 v10_24 v10_25 v10_26 v10_27 v10_28 v10_29 v10_30 v10_31 v10_32 v10_33 v10_34 v10_35 v10_36 v10_37 v10_38 v10_39 v10_40 v10_41 v10_42 v10_43 v10_44 A10' n10 c10' uX hp
 have P10:Hid (A_ w2 uX A10' n10 c10' (VQ m)):=AA hp
 clear hp
 go_wp2_with fail
 refine wJ C P10 _ _ _ _ _ _ _ _ _ _ _ _ _ _ _ _ _ _ _ _ _ _ _ _ _ _ _ _ _ _ _ _ _ _ _ _ _ _ _ _ _ _ _ _ _ _ _ _ _ _ _ _ _ _ _ _ _ _ _ _ _ _ _ _ _ _ _ _ _ _ _ _ _ _ _ _ _ _ _ _ _ _ _ _ _ _ _ _ _ _ _ _ _ _ _ _ _ _ _ _ _ _ _ _ _ _ _ _ _ _ _ _ _ _ _ _ _ _ _ _ _ _ _ _ _ _ _ _ _ _ _ _ _ _ _ _ _ _ _ _ _ _ _ _ _ _ _ _ _ _ _ _ _ _ _ _ _ _ _ _ _ _ _ _ _ _ _ _ _ _ _ _ _ _ _ _ _ _ _ _ _ _ _ _ _ _ _ _ _ _ _ _ _ _ _ _ _ _ _ _ _ _ _ _ _ _ _ _ _ _ _ _ _ _ _ _ _ _ (AA ?_)
 intro v11_0 v11_1 v11_2 v11_3 v11_4 v11_5 v11_6 v11_7 v11_8 v11_9 v11_10 v11_11 v11_12 v11_13 v11_14 v11_15 v11_16 v11_17 v11_18 v11_19 v11_20 v11_21 v11_22 v11_23 v11_24 v11_25 AC0 n11 c11' fQ hp
 have P11:Hid (A_ w2 fQ AC0 n11 c11' (oN m)):=AA hp
 clear hp
 have hcv:=Ki (P:=prog) 41 5 9 underlying41 underlying5 underlying9 fQ _ AC0 n11 c11' (oN m) P11.out.len (SK P11.out.1)
 rw [iW] at hcv
 have hcv2:(convert 41 9 (.slice AC0 n11 c11')).run prog fQ= .ok (.string (BA (Il m))) fQ:=hcv
 clear hcv
 go_wp2_with fail
 go_ret2
 exact HT.out _ P11.out.2

end Go.Proofs.YtebgikflpgcnlaaGreatDoor
