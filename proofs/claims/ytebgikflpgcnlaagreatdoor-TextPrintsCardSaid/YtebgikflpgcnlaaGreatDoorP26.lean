/- Part 26 of the proof: PrtD PrtF PrtG PrtI -/
import Derived.Test.YtebgikflpgcnlaaGreatDoorP16
namespace Go.Proofs.YtebgikflpgcnlaaGreatDoor
set_option linter.unusedVariables false
set_option linter.unusedSimpArgs false
set_option maxRecDepth 100000
set_option maxHeartbeats 4000000
open Go.RowKit Tryz
set_option maxRecDepth 1000000 in
theorem Vh {w w2:World} {hi hj:Nat} {m:AQ} {A1 A2 A3 A6 A7 A8:Option Addr} {c1 c2 c3 c6 c7 c8:Nat} (C:Hid (M7 w w2 hi hj m A1 c1 A2 c2 A3 c3 A6 c6 A7 c7 A8 c8)) {k:Nat} {wr:World} (hk:k≤m.hosts.length) (HP:Hid (PR w2 wr (Ve m++(m.hosts.take k).flatMap LW)))
 (s0 s2 s3 s4 s7 s8 s9 s10 s11 s13 G5 s15 s16 G6 FW IY s20 FP Gx Ea s24 Eb FQ Eu Ev Ew Ey Ez E5 E8 E9 E_ FB GN GQ GR GU GV GX s43 s44 GY GZ Ga Gb s49 Gc Gd Gf s53 FC Fy s68 Fz F3 F4 s72 F5 F6 F7 F8 F9 GA GD GH GI s82 s83 GJ GK GL s87 FD FE FH FI FJ Ec Ed Ee Ef FR FT FU BF BG BH BI BJ BL BM BN BO BP BQ BR BS Ch Ci Cj Ck Cm Cn Co Cq Cr Ct Cw Cx BU Ay BX BZ Bf Bg CO CP CQ DJ DK DL DN DR DT DU DV DW DX DY DZ Da Db Cy Cz Bh Bj Bl Bn Bo Bp Bq Br Bt Az Bu Bv Bw Bz B_ CB CS CU CV CW CX CY CZ Cc Ce BK Tv Tw u58 u59 u60 Tx Tz u63 u64 T9:Value) (K:Act→World→Prop) (Q:Exit→Act→World→Prop) (HK:Hid (∀(Tv Tw u58 u59 u60 Tx Tz u63 u64 T9:Value) (wx:World),k<m.hosts.length→PR w2 wx (Ve m++(m.hosts.take (k+1)).flatMap LW)→K ⟨(List.toArray (s0::(.pointer (some ⟨w.heap.size,0,none⟩))::s2::s3::s4::(.pointer (some ⟨w2.heap.size,0,none⟩))::(.func (.func 28) #[] #[.pointer (some ⟨w2.heap.size,0,none⟩)])::s7::s8::s9::s10::s11::Tv::s13::G5::s15::s16::G6::FW::IY::s20::FP::Gx::Ea::s24::Eb::FQ::Eu::Ev::Ew::Ey::Ez::E5::E8::E9::E_::FB::GN::GQ::GR::GU::GV::GX::s43::s44::GY::GZ::Ga::Gb::s49::Gc::Gd::Gf::s53::(.slice A2 m.hosts.length c2)::(.int .i64 m.hosts.length)::(.int .i64 ((k:Int)+1))::Tw::u58::u59::u60::Tx::Tz::u63::u64::T9::FC::Fy::s68::Fz::F3::F4::s72::F5::F6::F7::F8::F9::GA::GD::GH::GI::s82::s83::GJ::GK::GL::s87::FD::FE::FH::FI::FJ::Ec::Ed::Ee::Ef::FR::FT::FU::BF::BG::BH::BI::BJ::BL::BM::BN::BO::BP::BQ::BR::BS::Ch::Ci::Cj::Ck::Cm::Cn::Co::Cq::Cr::Ct::Cw::Cx::BU::Ay::BX::BZ::Bf::Bg::CO::CP::CQ::DJ::DK::DL::DN::DR::DT::DU::DV::DW::DX::DY::DZ::Da::Db::Cy::Cz::Bh::Bj::Bl::Bn::Bo::Bp::Bq::Br::Bt::Az::Bu::Bv::Bw::Bz::B_::CB::CS::CU::CV::CW::CX::CY::CZ::Cc::Ce::BK:: [])),[]⟩ wx)) (HX:Hid (∀(Tv Tw u58 u59 u60 Tx Tz u63 u64 T9:Value) (wx:World),PR w2 wx (Vf m)→Q (.exit 2) ⟨(List.toArray (s0::(.pointer (some ⟨w.heap.size,0,none⟩))::s2::s3::s4::(.pointer (some ⟨w2.heap.size,0,none⟩))::(.func (.func 28) #[] #[.pointer (some ⟨w2.heap.size,0,none⟩)])::s7::s8::s9::s10::s11::Tv::s13::G5::s15::s16::G6::FW::IY::s20::FP::Gx::Ea::s24::Eb::FQ::Eu::Ev::Ew::Ey::Ez::E5::E8::E9::E_::FB::GN::GQ::GR::GU::GV::GX::s43::s44::GY::GZ::Ga::Gb::s49::Gc::Gd::Gf::s53::(.slice A2 m.hosts.length c2)::(.int .i64 m.hosts.length)::(.int .i64 m.hosts.length)::Tw::u58::u59::u60::Tx::Tz::u63::u64::T9::FC::Fy::s68::Fz::F3::F4::s72::F5::F6::F7::F8::F9::GA::GD::GH::GI::s82::s83::GJ::GK::GL::s87::FD::FE::FH::FI::FJ::Ec::Ed::Ee::Ef::FR::FT::FU::BF::BG::BH::BI::BJ::BL::BM::BN::BO::BP::BQ::BR::BS::Ch::Ci::Cj::Ck::Cm::Cn::Co::Cq::Cr::Ct::Cw::Cx::BU::Ay::BX::BZ::Bf::Bg::CO::CP::CQ::DJ::DK::DL::DN::DR::DT::DU::DV::DW::DX::DY::DZ::Da::Db::Cy::Cz::Bh::Bj::Bl::Bn::Bo::Bp::Bq::Br::Bt::Az::Bu::Bv::Bw::Bz::B_::CB::CS::CU::CV::CW::CX::CY::CZ::Cc::Ce::BK:: [])),[]⟩ wx)):
 Code.wp prog (Jr 1) (Exit.then K Q) ⟨(List.toArray (s0::(.pointer (some ⟨w.heap.size,0,none⟩))::s2::s3::s4::(.pointer (some ⟨w2.heap.size,0,none⟩))::(.func (.func 28) #[] #[.pointer (some ⟨w2.heap.size,0,none⟩)])::s7::s8::s9::s10::s11::Tv::s13::G5::s15::s16::G6::FW::IY::s20::FP::Gx::Ea::s24::Eb::FQ::Eu::Ev::Ew::Ey::Ez::E5::E8::E9::E_::FB::GN::GQ::GR::GU::GV::GX::s43::s44::GY::GZ::Ga::Gb::s49::Gc::Gd::Gf::s53::(.slice A2 m.hosts.length c2)::(.int .i64 m.hosts.length)::(.int .i64 k)::Tw::u58::u59::u60::Tx::Tz::u63::u64::T9::FC::Fy::s68::Fz::F3::F4::s72::F5::F6::F7::F8::F9::GA::GD::GH::GI::s82::s83::GJ::GK::GL::s87::FD::FE::FH::FI::FJ::Ec::Ed::Ee::Ef::FR::FT::FU::BF::BG::BH::BI::BJ::BL::BM::BN::BO::BP::BQ::BR::BS::Ch::Ci::Cj::Ck::Cm::Cn::Co::Cq::Cr::Ct::Cw::Cx::BU::Ay::BX::BZ::Bf::Bg::CO::CP::CQ::DJ::DK::DL::DN::DR::DT::DU::DV::DW::DX::DY::DZ::Da::Db::Cy::Cz::Bh::Bj::Bl::Bn::Bo::Bp::Bq::Br::Bt::Az::Bu::Bv::Bw::Bz::B_::CB::CS::CU::CV::CW::CX::CY::CZ::Cc::Ce::BK:: [])),[]⟩ wr:=by
 conv=>arg 2;whnf
 have Eo:=AA (C.out.Gg.trans (HP.out.Gg.mono C.out.Gg.size))
 have hsz:w2.heap.size≤wr.heap.size:=HP.out.Gg.size
 have hsw:w.heap.size<w2.heap.size:=C.out.lt
 have mP:w2.heap.size<wr.heap.size:=by obtain⟨_,_,hb⟩:=HP.out.aQ;exact hb.blk.lt
 have hhi:=C.out.hhi
 have KQ:=C.out.KQ
 have hk0:(0:Int)≤k:=by omega
 by_cases hlt:k<m.hosts.length
 ·obtain⟨x,hx⟩: ∃x,m.hosts[k]?=some x:=⟨_,List.getElem?_eq_getElem hlt⟩
  have Lr:decide ((k:Int)<m.hosts.length)=true:=decide_eq_true (by omega)
  have Ux:m.hosts.length≤2147483647:=by have:=C.out.few;unfold Ad at this;omega
  obtain⟨bk,ok,rfl,_,Kg,hc0,Lp⟩:=ints_at (Rd.below C.out.h2 Eo.out hhi) hx
  have Ls:=AA (Dz (Ve m) LW hx)
  have KZ:=AA (DC (Ve m) LW hx)
  have K8:(Ve m++m.hosts.flatMap LW).length≤1048576:=by have:=Ou m C.out.le;first | exact this.2.1 | exact this.2.2.1 | exact this.2.2.2.1 | exact this.2.2.2.2.1 | exact this.2.2.2.2.2.1 | exact this.2.2.2.2.2.2.1 | exact this.2.2.2.2.2.2.2
  have Xl:=AA (List.mem_of_getElem? hx)
  clear hx
  have hs0:wr.heap.size≤wr.heap.size:=Nat.le_refl _
  have HC:=AA (QE x Lp wr (C.out.env.to (Eo.out.mono KQ)) (by omega))
  clear HX
  go_wp2_with fail
  refine HC.out.mono ?_
  rintro e w5 ⟨hb5,rfl⟩
  have hs5:wr.heap.size≤w5.heap.size:=hb5.size
  clear HC
  go_wp2_with fail
  refine(Kh [Jk,BA (Lib.itoa x)] [Nj,Lib.itoa x] (by rw [List.map_cons,List.map_cons,List.map_nil];simp [BA];rfl) 2 rfl _ w5 (by simp) (HP.out.aQ.below hb5) (by omega) (Nat.le_trans KZ.out K8) (by decide)).mono ?_
  rintro e w6 ⟨rfl,hA,hB,hK⟩
  have Oa:=AA (PR.mk (HP.out.Gg.trans ((hb5.mono hsz).trans hB)) (Ls.out▸hA))
  clear hA hB hK
  go_wp2_with fail
  apply HK.out
  ·exact hlt
  ·exact Oa.out
 ·obtain rfl:k=m.hosts.length:=by omega
  have Lr:decide ((m.hosts.length:Int)<m.hosts.length)=false:=decide_eq_false (by omega)
  have Qf:Hid (PR w2 wr (Vf m)):=AA (by have:=HP.out;rw [List.take_length] at this;exact this)
  clear HP HK
  go_wp2_with fail
  apply HX.out
  exact Qf.out
set_option maxRecDepth 1000000 in
theorem oP {w w2:World} {hi hj:Nat} {m:AQ} {A1 A2 A3 A6 A7 A8:Option Addr} {c1 c2 c3 c6 c7 c8:Nat} (C:Hid (M7 w w2 hi hj m A1 c1 A2 c2 A3 c3 A6 c6 A7 c7 A8 c8)) {wr:World} (HP:Hid (PR w2 wr (Ve m)))
 (s0 s2 s3 s4 s7 s8 s9 s10 s11 s13 G5 s15 s16 G6 FW IY s20 FP Gx Ea s24 Eb FQ Eu Ev Ew Ey Ez E5 E8 E9 E_ FB GN GQ GR GU GV GX s43 s44 GY GZ Ga Gb s49 Gc Gd Gf s53 FC Fy s68 Fz F3 F4 s72 F5 F6 F7 F8 F9 GA GD GH GI s82 s83 GJ GK GL s87 FD FE FH FI FJ Ec Ed Ee Ef FR FT FU BF BG BH BI BJ BL BM BN BO BP BQ BR BS Ch Ci Cj Ck Cm Cn Co Cq Cr Ct Cw Cx BU Ay BX BZ Bf Bg CO CP CQ DJ DK DL DN DR DT DU DV DW DX DY DZ Da Db Cy Cz Bh Bj Bl Bn Bo Bp Bq Br Bt Az Bu Bv Bw Bz B_ CB CS CU CV CW CX CY CZ Cc Ce BK Tv Tw u58 u59 u60 Tx Tz u63 u64 T9:Value) (Q0:Exit→Act→World→Prop) (HX:Hid (∀(Tv Tw u58 u59 u60 Tx Tz u63 u64 T9:Value) (wx:World),PR w2 wx (Vf m)→Q0 (.exit 2) ⟨(List.toArray (s0::(.pointer (some ⟨w.heap.size,0,none⟩))::s2::s3::s4::(.pointer (some ⟨w2.heap.size,0,none⟩))::(.func (.func 28) #[] #[.pointer (some ⟨w2.heap.size,0,none⟩)])::s7::s8::s9::s10::s11::Tv::s13::G5::s15::s16::G6::FW::IY::s20::FP::Gx::Ea::s24::Eb::FQ::Eu::Ev::Ew::Ey::Ez::E5::E8::E9::E_::FB::GN::GQ::GR::GU::GV::GX::s43::s44::GY::GZ::Ga::Gb::s49::Gc::Gd::Gf::s53::(.slice A2 m.hosts.length c2)::(.int .i64 m.hosts.length)::(.int .i64 m.hosts.length)::Tw::u58::u59::u60::Tx::Tz::u63::u64::T9::FC::Fy::s68::Fz::F3::F4::s72::F5::F6::F7::F8::F9::GA::GD::GH::GI::s82::s83::GJ::GK::GL::s87::FD::FE::FH::FI::FJ::Ec::Ed::Ee::Ef::FR::FT::FU::BF::BG::BH::BI::BJ::BL::BM::BN::BO::BP::BQ::BR::BS::Ch::Ci::Cj::Ck::Cm::Cn::Co::Cq::Cr::Ct::Cw::Cx::BU::Ay::BX::BZ::Bf::Bg::CO::CP::CQ::DJ::DK::DL::DN::DR::DT::DU::DV::DW::DX::DY::DZ::Da::Db::Cy::Cz::Bh::Bj::Bl::Bn::Bo::Bp::Bq::Br::Bt::Az::Bu::Bv::Bw::Bz::B_::CB::CS::CU::CV::CW::CX::CY::CZ::Cc::Ce::BK:: [])),[]⟩ wx)):
 Code.wp prog (Code.loop (Jr 1)) Q0 ⟨(List.toArray (s0::(.pointer (some ⟨w.heap.size,0,none⟩))::s2::s3::s4::(.pointer (some ⟨w2.heap.size,0,none⟩))::(.func (.func 28) #[] #[.pointer (some ⟨w2.heap.size,0,none⟩)])::s7::s8::s9::s10::s11::Tv::s13::G5::s15::s16::G6::FW::IY::s20::FP::Gx::Ea::s24::Eb::FQ::Eu::Ev::Ew::Ey::Ez::E5::E8::E9::E_::FB::GN::GQ::GR::GU::GV::GX::s43::s44::GY::GZ::Ga::Gb::s49::Gc::Gd::Gf::s53::(.slice A2 m.hosts.length c2)::(.int .i64 m.hosts.length)::(.int .i64 0)::Tw::u58::u59::u60::Tx::Tz::u63::u64::T9::FC::Fy::s68::Fz::F3::F4::s72::F5::F6::F7::F8::F9::GA::GD::GH::GI::s82::s83::GJ::GK::GL::s87::FD::FE::FH::FI::FJ::Ec::Ed::Ee::Ef::FR::FT::FU::BF::BG::BH::BI::BJ::BL::BM::BN::BO::BP::BQ::BR::BS::Ch::Ci::Cj::Ck::Cm::Cn::Co::Cq::Cr::Ct::Cw::Cx::BU::Ay::BX::BZ::Bf::Bg::CO::CP::CQ::DJ::DK::DL::DN::DR::DT::DU::DV::DW::DX::DY::DZ::Da::Db::Cy::Cz::Bh::Bj::Bl::Bn::Bo::Bp::Bq::Br::Bt::Az::Bu::Bv::Bw::Bz::B_::CB::CS::CU::CV::CW::CX::CY::CZ::Cc::Ce::BK:: [])),[]⟩ wr:=by
 refine wp_loop (fun a wx=> ∃(Tv Tw u58 u59 u60 Tx Tz u63 u64 T9:Value) (k:Nat),k≤m.hosts.length∧PR w2 wx (Ve m++(m.hosts.take k).flatMap LW)∧a=⟨(List.toArray (s0::(.pointer (some ⟨w.heap.size,0,none⟩))::s2::s3::s4::(.pointer (some ⟨w2.heap.size,0,none⟩))::(.func (.func 28) #[] #[.pointer (some ⟨w2.heap.size,0,none⟩)])::s7::s8::s9::s10::s11::Tv::s13::G5::s15::s16::G6::FW::IY::s20::FP::Gx::Ea::s24::Eb::FQ::Eu::Ev::Ew::Ey::Ez::E5::E8::E9::E_::FB::GN::GQ::GR::GU::GV::GX::s43::s44::GY::GZ::Ga::Gb::s49::Gc::Gd::Gf::s53::(.slice A2 m.hosts.length c2)::(.int .i64 m.hosts.length)::(.int .i64 k)::Tw::u58::u59::u60::Tx::Tz::u63::u64::T9::FC::Fy::s68::Fz::F3::F4::s72::F5::F6::F7::F8::F9::GA::GD::GH::GI::s82::s83::GJ::GK::GL::s87::FD::FE::FH::FI::FJ::Ec::Ed::Ee::Ef::FR::FT::FU::BF::BG::BH::BI::BJ::BL::BM::BN::BO::BP::BQ::BR::BS::Ch::Ci::Cj::Ck::Cm::Cn::Co::Cq::Cr::Ct::Cw::Cx::BU::Ay::BX::BZ::Bf::Bg::CO::CP::CQ::DJ::DK::DL::DN::DR::DT::DU::DV::DW::DX::DY::DZ::Da::Db::Cy::Cz::Bh::Bj::Bl::Bn::Bo::Bp::Bq::Br::Bt::Az::Bu::Bv::Bw::Bz::B_::CB::CS::CU::CV::CW::CX::CY::CZ::Cc::Ce::BK:: [])),[]⟩) (fun a _=>m.hosts.length-(intOf (a.tmps.getD 56 undef)).toNat) ?_ ?_
 ·exact⟨Tv,Tw,u58,u59,u60,Tx,Tz,u63,u64,T9,0,Nat.zero_le _,by rw [List.take_zero,List.flatMap_nil,List.append_nil];exact HP.out,rfl⟩
 ·intro a wx hI
  obtain⟨Tv,hI⟩:=hI
  obtain⟨Tw,hI⟩:=hI
  obtain⟨u58,hI⟩:=hI
  obtain⟨u59,hI⟩:=hI
  obtain⟨u60,hI⟩:=hI
  obtain⟨Tx,hI⟩:=hI
  obtain⟨Tz,hI⟩:=hI
  obtain⟨u63,hI⟩:=hI
  obtain⟨u64,hI⟩:=hI
  obtain⟨T9,hI⟩:=hI
  obtain⟨k,hk,hp,rfl⟩:=hI
  refine Vh C hk (AA hp) _ _ _ _ _ _ _ _ _ _ _ _ _ _ _ _ _ _ _ _ _ _ _ _ _ _ _ _ _ _ _ _ _ _ _ _ _ _ _ _ _ _ _ _ _ _ _ _ _ _ _ _ _ _ _ _ _ _ _ _ _ _ _ _ _ _ _ _ _ _ _ _ _ _ _ _ _ _ _ _ _ _ _ _ _ _ _ _ _ _ _ _ _ _ _ _ _ _ _ _ _ _ _ _ _ _ _ _ _ _ _ _ _ _ _ _ _ _ _ _ _ _ _ _ _ _ _ _ _ _ _ _ _ _ _ _ _ _ _ _ _ _ _ _ _ _ _ _ _ _ _ _ _ _ _ _ _ _ _ _ _ _ _ _ _ _ _ _ _ _ _ _ (AA ?_) HX
  intro Tv Tw u58 u59 u60 Tx Tz u63 u64 T9 wy hlt hp2
  refine⟨⟨Tv,Tw,u58,u59,u60,Tx,Tz,u63,u64,T9,k+1,hlt,hp2,rfl⟩,?_⟩
  show m.hosts.length-(intOf (.int .i64 ((k+1:Nat):Int))).toNat<m.hosts.length-(intOf (.int .i64 (k:Int))).toNat
  simp [intOf]
  omega
def codeF (z:Av):List UInt8:=Cg [[32,32]++PO z]
set_option maxRecDepth 1000000 in
theorem Xm {w w2:World} {hi hj:Nat} {m:AQ} {A1 A2 A3 A6 A7 A8:Option Addr} {c1 c2 c3 c6 c7 c8:Nat} (C:Hid (M7 w w2 hi hj m A1 c1 A2 c2 A3 c3 A6 c6 A7 c7 A8 c8)) {x:FL} {Ac:Option Addr} {cc:Nat} (vF:Hid ((I_.sl false).R w 0 hi [.slice Ac x.code.length cc] x.code)) (vG: ∀y∈x.code,y.l.length≤2147483647) (hcl:x.code.length≤2147483647) (P:List UInt8) (K8:(P++x.code.flatMap codeF).length≤1048576) {k:Nat} {wr:World} (hk:k≤x.code.length) (HP:Hid (PR w2 wr (P++(x.code.take k).flatMap codeF)))
 (s0 s2 s3 s4 s7 s8 s9 s10 s11 s12 s13 G5 s15 s16 G6 FW s20 FP Gx Ea s24 Eb FQ Eu Ev Ew Ey Ez E5 E8 E9 E_ FB GN GQ GR GU GV GX s43 s44 GY GZ Ga Gb s49 Gc Gd Gf s53 Fa Fb Fe Fg Fh Fj Fp Fq Fu Fv Fw Fx FC Fy s68 Fz F3 F4 s72 F5 F6 F7 F8 F9 GA GD GH GI s82 s83 GJ GK GL s87 FD FE FH FI FJ Ec Ed Ee Ef FR FT FU BF BG BH BI BJ BL BM BN BO BP BQ BR BS BU Ay BX BZ Bf Bg CO CP CQ DJ DK DL DN DR DT DU DV DW DX DY DZ Da Db Cy Cz Bh Bj Bl Bn Bo Bp Bq Br Bt Az Bu Bv Bw Bz B_ CB CS CU CV CW CX CY CZ Cc Ce BK SC Gh Gi Gj u119 Gl Gm Gn Gp u124:Value) (K:Act→World→Prop) (Q:Exit→Act→World→Prop) (HK:Hid (∀(SC Gh Gi Gj u119 Gl Gm Gn Gp u124:Value) (wx:World),k<x.code.length→PR w2 wx (P++(x.code.take (k+1)).flatMap codeF)→K ⟨(List.toArray (s0::(.pointer (some ⟨w.heap.size,0,none⟩))::s2::s3::s4::(.pointer (some ⟨w2.heap.size,0,none⟩))::(.func (.func 28) #[] #[.pointer (some ⟨w2.heap.size,0,none⟩)])::s7::s8::s9::s10::s11::s12::s13::G5::s15::s16::G6::FW::SC::s20::FP::Gx::Ea::s24::Eb::FQ::Eu::Ev::Ew::Ey::Ez::E5::E8::E9::E_::FB::GN::GQ::GR::GU::GV::GX::s43::s44::GY::GZ::Ga::Gb::s49::Gc::Gd::Gf::s53::Fa::Fb::Fe::Fg::Fh::Fj::Fp::Fq::Fu::Fv::Fw::Fx::FC::Fy::s68::Fz::F3::F4::s72::F5::F6::F7::F8::F9::GA::GD::GH::GI::s82::s83::GJ::GK::GL::s87::FD::FE::FH::FI::FJ::Ec::Ed::Ee::Ef::FR::FT::FU::BF::BG::BH::BI::BJ::BL::BM::BN::BO::BP::BQ::BR::BS::(.slice Ac x.code.length cc)::(.int .i64 x.code.length)::(.int .i64 ((k:Int)+1))::Gh::Gi::Gj::u119::Gl::Gm::Gn::Gp::u124::BU::Ay::BX::BZ::Bf::Bg::CO::CP::CQ::DJ::DK::DL::DN::DR::DT::DU::DV::DW::DX::DY::DZ::Da::Db::Cy::Cz::Bh::Bj::Bl::Bn::Bo::Bp::Bq::Br::Bt::Az::Bu::Bv::Bw::Bz::B_::CB::CS::CU::CV::CW::CX::CY::CZ::Cc::Ce::BK:: [])),[]⟩ wx)) (HX:Hid (∀(SC Gh Gi Gj u119 Gl Gm Gn Gp u124:Value) (wx:World),PR w2 wx (P++x.code.flatMap codeF)→Q (.exit 8) ⟨(List.toArray (s0::(.pointer (some ⟨w.heap.size,0,none⟩))::s2::s3::s4::(.pointer (some ⟨w2.heap.size,0,none⟩))::(.func (.func 28) #[] #[.pointer (some ⟨w2.heap.size,0,none⟩)])::s7::s8::s9::s10::s11::s12::s13::G5::s15::s16::G6::FW::SC::s20::FP::Gx::Ea::s24::Eb::FQ::Eu::Ev::Ew::Ey::Ez::E5::E8::E9::E_::FB::GN::GQ::GR::GU::GV::GX::s43::s44::GY::GZ::Ga::Gb::s49::Gc::Gd::Gf::s53::Fa::Fb::Fe::Fg::Fh::Fj::Fp::Fq::Fu::Fv::Fw::Fx::FC::Fy::s68::Fz::F3::F4::s72::F5::F6::F7::F8::F9::GA::GD::GH::GI::s82::s83::GJ::GK::GL::s87::FD::FE::FH::FI::FJ::Ec::Ed::Ee::Ef::FR::FT::FU::BF::BG::BH::BI::BJ::BL::BM::BN::BO::BP::BQ::BR::BS::(.slice Ac x.code.length cc)::(.int .i64 x.code.length)::(.int .i64 x.code.length)::Gh::Gi::Gj::u119::Gl::Gm::Gn::Gp::u124::BU::Ay::BX::BZ::Bf::Bg::CO::CP::CQ::DJ::DK::DL::DN::DR::DT::DU::DV::DW::DX::DY::DZ::Da::Db::Cy::Cz::Bh::Bj::Bl::Bn::Bo::Bp::Bq::Br::Bt::Az::Bu::Bv::Bw::Bz::B_::CB::CS::CU::CV::CW::CX::CY::CZ::Cc::Ce::BK:: [])),[]⟩ wx)):
 Code.wp prog (TV 3) (Exit.then K Q) ⟨(List.toArray (s0::(.pointer (some ⟨w.heap.size,0,none⟩))::s2::s3::s4::(.pointer (some ⟨w2.heap.size,0,none⟩))::(.func (.func 28) #[] #[.pointer (some ⟨w2.heap.size,0,none⟩)])::s7::s8::s9::s10::s11::s12::s13::G5::s15::s16::G6::FW::SC::s20::FP::Gx::Ea::s24::Eb::FQ::Eu::Ev::Ew::Ey::Ez::E5::E8::E9::E_::FB::GN::GQ::GR::GU::GV::GX::s43::s44::GY::GZ::Ga::Gb::s49::Gc::Gd::Gf::s53::Fa::Fb::Fe::Fg::Fh::Fj::Fp::Fq::Fu::Fv::Fw::Fx::FC::Fy::s68::Fz::F3::F4::s72::F5::F6::F7::F8::F9::GA::GD::GH::GI::s82::s83::GJ::GK::GL::s87::FD::FE::FH::FI::FJ::Ec::Ed::Ee::Ef::FR::FT::FU::BF::BG::BH::BI::BJ::BL::BM::BN::BO::BP::BQ::BR::BS::(.slice Ac x.code.length cc)::(.int .i64 x.code.length)::(.int .i64 k)::Gh::Gi::Gj::u119::Gl::Gm::Gn::Gp::u124::BU::Ay::BX::BZ::Bf::Bg::CO::CP::CQ::DJ::DK::DL::DN::DR::DT::DU::DV::DW::DX::DY::DZ::Da::Db::Cy::Cz::Bh::Bj::Bl::Bn::Bo::Bp::Bq::Br::Bt::Az::Bu::Bv::Bw::Bz::B_::CB::CS::CU::CV::CW::CX::CY::CZ::Cc::Ce::BK:: [])),[]⟩ wr:=by
 conv=>arg 2;whnf
 have hk0:(0:Int)≤k:=by omega
 have hhi:=C.out.hhi
 have KQ:=C.out.KQ
 have hsw:w.heap.size<w2.heap.size:=C.out.lt
 by_cases hlt:k<x.code.length
 ·obtain⟨z,hz⟩: ∃z,x.code[k]?=some z:=⟨_,List.getElem?_eq_getElem hlt⟩
  have Lr:decide ((k:Int)<x.code.length)=true:=decide_eq_true (by omega)
  have Eo:=AA (C.out.Gg.trans (HP.out.Gg.mono C.out.Gg.size))
  have hsz:w2.heap.size≤wr.heap.size:=HP.out.Gg.size
  obtain⟨bk,ok,OT,Nt,rfl,_,Kg,hc0,hc1,hc2,Lp,hlab⟩:=Nf (Rd.below vF.out Eo.out hhi) hz
  have Ls:=AA (Dz P codeF hz)
  have KZ:=AA (DC P codeF hz)
  have hll:=vG z (List.mem_of_getElem? hz)
  have hop:z.op.toNat<256:=z.op.toNat_lt
  have HI:=AA (fun(W:World) (hW:Below wr.heap.size wr W)=>Vd z OT Nt hi hj W (Rd.below hlab hW (Nat.le_trans hhi Eo.out.size)) (Nat.le_trans (Nat.le_trans hhi Eo.out.size) hW.size) Lp (C.out.env.to ((Eo.out.trans (hW.mono Eo.out.size)).mono KQ)) (Nat.le_trans (Nat.le_trans KQ Eo.out.size) hW.size) hop (by omega))
  clear hz HX hlab Lp hll hop
  go_wp2_with fail
  refine(HI.out _ ((Below.refl _ _).alloc (Nat.le_refl _) _)).mono ?_
  rintro e w5 ⟨hb5,rfl⟩
  have hB5:Below wr.heap.size wr w5:=((Below.refl _ _).alloc (Nat.le_refl _) _).trans (hb5.mono (by simp))
  have I8:=AA hB5
  have hs5:wr.heap.size≤w5.heap.size:=I8.out.size
  clear hb5 HI hB5
  go_wp2_with fail
  refine(Kh [BA ([32,32]++PO z)] [[32,32]++PO z] rfl 1 rfl _ w5 (by simp) (HP.out.aQ.below I8.out) (by omega) (Nat.le_trans KZ.out K8) (by decide)).mono ?_
  rintro e w6 ⟨rfl,hA,hB,hK⟩
  have Oa:=AA (PR.mk (HP.out.Gg.trans ((I8.out.mono hsz).trans hB)) (Ls.out▸hA))
  clear hA hB hK
  go_wp2_with fail
  apply HK.out
  ·exact hlt
  ·exact Oa.out
 ·obtain rfl:k=x.code.length:=by omega
  have Lr:decide ((x.code.length:Int)<x.code.length)=false:=decide_eq_false (by omega)
  have Qf:Hid (PR w2 wr (P++x.code.flatMap codeF)):=AA (by have:=HP.out;rw [List.take_length] at this;exact this)
  clear HP HK
  go_wp2_with fail
  apply HX.out
  exact Qf.out
set_option maxRecDepth 1000000 in
theorem vH {w w2:World} {hi hj:Nat} {m:AQ} {A1 A2 A3 A6 A7 A8:Option Addr} {c1 c2 c3 c6 c7 c8:Nat} (C:Hid (M7 w w2 hi hj m A1 c1 A2 c2 A3 c3 A6 c6 A7 c7 A8 c8)) {x:FL} {Ac:Option Addr} {cc:Nat} (vF:Hid ((I_.sl false).R w 0 hi [.slice Ac x.code.length cc] x.code)) (vG: ∀y∈x.code,y.l.length≤2147483647) (hcl:x.code.length≤2147483647) (P:List UInt8) (K8:(P++x.code.flatMap codeF).length≤1048576) {wr:World} (HP:Hid (PR w2 wr P))
 (s0 s2 s3 s4 s7 s8 s9 s10 s11 s12 s13 G5 s15 s16 G6 FW s20 FP Gx Ea s24 Eb FQ Eu Ev Ew Ey Ez E5 E8 E9 E_ FB GN GQ GR GU GV GX s43 s44 GY GZ Ga Gb s49 Gc Gd Gf s53 Fa Fb Fe Fg Fh Fj Fp Fq Fu Fv Fw Fx FC Fy s68 Fz F3 F4 s72 F5 F6 F7 F8 F9 GA GD GH GI s82 s83 GJ GK GL s87 FD FE FH FI FJ Ec Ed Ee Ef FR FT FU BF BG BH BI BJ BL BM BN BO BP BQ BR BS BU Ay BX BZ Bf Bg CO CP CQ DJ DK DL DN DR DT DU DV DW DX DY DZ Da Db Cy Cz Bh Bj Bl Bn Bo Bp Bq Br Bt Az Bu Bv Bw Bz B_ CB CS CU CV CW CX CY CZ Cc Ce BK SC Gh Gi Gj u119 Gl Gm Gn Gp u124:Value) (Q0:Exit→Act→World→Prop) (HX:Hid (∀(SC Gh Gi Gj u119 Gl Gm Gn Gp u124:Value) (wx:World),PR w2 wx (P++x.code.flatMap codeF)→Q0 (.exit 8) ⟨(List.toArray (s0::(.pointer (some ⟨w.heap.size,0,none⟩))::s2::s3::s4::(.pointer (some ⟨w2.heap.size,0,none⟩))::(.func (.func 28) #[] #[.pointer (some ⟨w2.heap.size,0,none⟩)])::s7::s8::s9::s10::s11::s12::s13::G5::s15::s16::G6::FW::SC::s20::FP::Gx::Ea::s24::Eb::FQ::Eu::Ev::Ew::Ey::Ez::E5::E8::E9::E_::FB::GN::GQ::GR::GU::GV::GX::s43::s44::GY::GZ::Ga::Gb::s49::Gc::Gd::Gf::s53::Fa::Fb::Fe::Fg::Fh::Fj::Fp::Fq::Fu::Fv::Fw::Fx::FC::Fy::s68::Fz::F3::F4::s72::F5::F6::F7::F8::F9::GA::GD::GH::GI::s82::s83::GJ::GK::GL::s87::FD::FE::FH::FI::FJ::Ec::Ed::Ee::Ef::FR::FT::FU::BF::BG::BH::BI::BJ::BL::BM::BN::BO::BP::BQ::BR::BS::(.slice Ac x.code.length cc)::(.int .i64 x.code.length)::(.int .i64 x.code.length)::Gh::Gi::Gj::u119::Gl::Gm::Gn::Gp::u124::BU::Ay::BX::BZ::Bf::Bg::CO::CP::CQ::DJ::DK::DL::DN::DR::DT::DU::DV::DW::DX::DY::DZ::Da::Db::Cy::Cz::Bh::Bj::Bl::Bn::Bo::Bp::Bq::Br::Bt::Az::Bu::Bv::Bw::Bz::B_::CB::CS::CU::CV::CW::CX::CY::CZ::Cc::Ce::BK:: [])),[]⟩ wx)):
 Code.wp prog (Code.loop (TV 3)) Q0 ⟨(List.toArray (s0::(.pointer (some ⟨w.heap.size,0,none⟩))::s2::s3::s4::(.pointer (some ⟨w2.heap.size,0,none⟩))::(.func (.func 28) #[] #[.pointer (some ⟨w2.heap.size,0,none⟩)])::s7::s8::s9::s10::s11::s12::s13::G5::s15::s16::G6::FW::SC::s20::FP::Gx::Ea::s24::Eb::FQ::Eu::Ev::Ew::Ey::Ez::E5::E8::E9::E_::FB::GN::GQ::GR::GU::GV::GX::s43::s44::GY::GZ::Ga::Gb::s49::Gc::Gd::Gf::s53::Fa::Fb::Fe::Fg::Fh::Fj::Fp::Fq::Fu::Fv::Fw::Fx::FC::Fy::s68::Fz::F3::F4::s72::F5::F6::F7::F8::F9::GA::GD::GH::GI::s82::s83::GJ::GK::GL::s87::FD::FE::FH::FI::FJ::Ec::Ed::Ee::Ef::FR::FT::FU::BF::BG::BH::BI::BJ::BL::BM::BN::BO::BP::BQ::BR::BS::(.slice Ac x.code.length cc)::(.int .i64 x.code.length)::(.int .i64 0)::Gh::Gi::Gj::u119::Gl::Gm::Gn::Gp::u124::BU::Ay::BX::BZ::Bf::Bg::CO::CP::CQ::DJ::DK::DL::DN::DR::DT::DU::DV::DW::DX::DY::DZ::Da::Db::Cy::Cz::Bh::Bj::Bl::Bn::Bo::Bp::Bq::Br::Bt::Az::Bu::Bv::Bw::Bz::B_::CB::CS::CU::CV::CW::CX::CY::CZ::Cc::Ce::BK:: [])),[]⟩ wr:=by
 refine wp_loop (fun a wx=> ∃(SC Gh Gi Gj u119 Gl Gm Gn Gp u124:Value) (k:Nat),k≤x.code.length∧(PR w2 wx (P++(x.code.take k).flatMap codeF))∧a=⟨(List.toArray (s0::(.pointer (some ⟨w.heap.size,0,none⟩))::s2::s3::s4::(.pointer (some ⟨w2.heap.size,0,none⟩))::(.func (.func 28) #[] #[.pointer (some ⟨w2.heap.size,0,none⟩)])::s7::s8::s9::s10::s11::s12::s13::G5::s15::s16::G6::FW::SC::s20::FP::Gx::Ea::s24::Eb::FQ::Eu::Ev::Ew::Ey::Ez::E5::E8::E9::E_::FB::GN::GQ::GR::GU::GV::GX::s43::s44::GY::GZ::Ga::Gb::s49::Gc::Gd::Gf::s53::Fa::Fb::Fe::Fg::Fh::Fj::Fp::Fq::Fu::Fv::Fw::Fx::FC::Fy::s68::Fz::F3::F4::s72::F5::F6::F7::F8::F9::GA::GD::GH::GI::s82::s83::GJ::GK::GL::s87::FD::FE::FH::FI::FJ::Ec::Ed::Ee::Ef::FR::FT::FU::BF::BG::BH::BI::BJ::BL::BM::BN::BO::BP::BQ::BR::BS::(.slice Ac x.code.length cc)::(.int .i64 x.code.length)::(.int .i64 k)::Gh::Gi::Gj::u119::Gl::Gm::Gn::Gp::u124::BU::Ay::BX::BZ::Bf::Bg::CO::CP::CQ::DJ::DK::DL::DN::DR::DT::DU::DV::DW::DX::DY::DZ::Da::Db::Cy::Cz::Bh::Bj::Bl::Bn::Bo::Bp::Bq::Br::Bt::Az::Bu::Bv::Bw::Bz::B_::CB::CS::CU::CV::CW::CX::CY::CZ::Cc::Ce::BK:: [])),[]⟩) (fun a _=>x.code.length-(intOf (a.tmps.getD 115 undef)).toNat) ?_ ?_
 ·exact⟨SC,Gh,Gi,Gj,u119,Gl,Gm,Gn,Gp,u124,0,Nat.zero_le _,by first | exact HP.out | (rw [List.take_zero,List.flatMap_nil,List.append_nil];exact HP.out),rfl⟩
 ·intro a wx hI
  obtain⟨SC,hI⟩:=hI
  obtain⟨Gh,hI⟩:=hI
  obtain⟨Gi,hI⟩:=hI
  obtain⟨Gj,hI⟩:=hI
  obtain⟨u119,hI⟩:=hI
  obtain⟨Gl,hI⟩:=hI
  obtain⟨Gm,hI⟩:=hI
  obtain⟨Gn,hI⟩:=hI
  obtain⟨Gp,hI⟩:=hI
  obtain⟨u124,hI⟩:=hI
  obtain⟨k,hk,hp,rfl⟩:=hI
  refine Xm C vF vG hcl P K8 hk (AA hp) _ _ _ _ _ _ _ _ _ _ _ _ _ _ _ _ _ _ _ _ _ _ _ _ _ _ _ _ _ _ _ _ _ _ _ _ _ _ _ _ _ _ _ _ _ _ _ _ _ _ _ _ _ _ _ _ _ _ _ _ _ _ _ _ _ _ _ _ _ _ _ _ _ _ _ _ _ _ _ _ _ _ _ _ _ _ _ _ _ _ _ _ _ _ _ _ _ _ _ _ _ _ _ _ _ _ _ _ _ _ _ _ _ _ _ _ _ _ _ _ _ _ _ _ _ _ _ _ _ _ _ _ _ _ _ _ _ _ _ _ _ _ _ _ _ _ _ _ _ _ _ _ _ _ _ _ _ _ _ _ _ _ _ _ _ _ _ _ _ _ _ _ (AA ?_) HX
  intro SC Gh Gi Gj u119 Gl Gm Gn Gp u124 wy hlt hp2
  refine⟨⟨SC,Gh,Gi,Gj,u119,Gl,Gm,Gn,Gp,u124,k+1,hlt,hp2,rfl⟩,?_⟩
  show x.code.length-(intOf (.int .i64 ((k+1:Nat):Int))).toNat<x.code.length-(intOf (.int .i64 (k:Int))).toNat
  simp [intOf]
  omega
set_option maxRecDepth 1000000 in
theorem Yb {w w2:World} {hi hj:Nat} {m:AQ} {A1 A2 A3 A6 A7 A8:Option Addr} {c1 c2 c3 c6 c7 c8:Nat} (C:Hid (M7 w w2 hi hj m A1 c1 A2 c2 A3 c3 A6 c6 A7 c7 A8 c8)) {k:Nat} {wr:World} (hk:k≤m.fns.length) (HP:Hid (PR w2 wr (Tj m++(m.fns.take k).flatMap Sc)))
 (s0 s2 s3 s4 s7 s8 s9 s10 s11 s12 s13 G5 s15 s16 FW s20 FP Gx Ea s24 Eb FQ Eu Ev Ew Ey Ez E5 E8 E9 E_ FB GN GQ GR GU GV GX s43 s44 GY GZ Ga Gb s49 Gc Gd Gf s53 Fa Fb Fe Fg Fh Fj Fp Fq Fu Fv Fw Fx FC Fy s68 Fz F3 F4 s72 F5 F6 F7 F8 F9 GA GD GH GI s82 s83 GJ GK GL s87 FD FE FH FI FJ Ec Ed Ee Ef Ay BX BZ Bf Bg CO CP CQ DJ DK DL DN DR DT DU DV DW DX DY DZ Da Db Cy Cz Bh Bj Bl Bn Bo Bp Bq Br Bt Az Bu Bv Bw Bz B_ CB CS CU CV CW CX CY CZ Cc Ce BK iZ SC SE SF SG SH SI u105 Lu Lv Lx L6 L8 L9 L_ MB MC ME Gh Gi Gj u119 Gl Gm Gn Gp u124 MF:Value) (K:Act→World→Prop) (Q:Exit→Act→World→Prop) (HK:Hid (∀(iZ SC SE SF SG SH SI u105 Lu Lv Lx L6 L8 L9 L_ MB MC ME Gh Gi Gj u119 Gl Gm Gn Gp u124 MF:Value) (wx:World),k<m.fns.length→PR w2 wx (Tj m++(m.fns.take (k+1)).flatMap Sc)→K ⟨(List.toArray (s0::(.pointer (some ⟨w.heap.size,0,none⟩))::s2::s3::s4::(.pointer (some ⟨w2.heap.size,0,none⟩))::(.func (.func 28) #[] #[.pointer (some ⟨w2.heap.size,0,none⟩)])::s7::s8::s9::s10::s11::s12::s13::G5::s15::s16::iZ::FW::SC::s20::FP::Gx::Ea::s24::Eb::FQ::Eu::Ev::Ew::Ey::Ez::E5::E8::E9::E_::FB::GN::GQ::GR::GU::GV::GX::s43::s44::GY::GZ::Ga::Gb::s49::Gc::Gd::Gf::s53::Fa::Fb::Fe::Fg::Fh::Fj::Fp::Fq::Fu::Fv::Fw::Fx::FC::Fy::s68::Fz::F3::F4::s72::F5::F6::F7::F8::F9::GA::GD::GH::GI::s82::s83::GJ::GK::GL::s87::FD::FE::FH::FI::FJ::Ec::Ed::Ee::Ef::(.slice A6 m.fns.length c6)::(.int .i64 m.fns.length)::(.int .i64 ((k:Int)+1))::SE::SF::SG::SH::SI::u105::Lu::Lv::Lx::L6::L8::L9::L_::MB::MC::ME::Gh::Gi::Gj::u119::Gl::Gm::Gn::Gp::u124::MF::Ay::BX::BZ::Bf::Bg::CO::CP::CQ::DJ::DK::DL::DN::DR::DT::DU::DV::DW::DX::DY::DZ::Da::Db::Cy::Cz::Bh::Bj::Bl::Bn::Bo::Bp::Bq::Br::Bt::Az::Bu::Bv::Bw::Bz::B_::CB::CS::CU::CV::CW::CX::CY::CZ::Cc::Ce::BK:: [])),[]⟩ wx)) (HX:Hid (∀(iZ SC SE SF SG SH SI u105 Lu Lv Lx L6 L8 L9 L_ MB MC ME Gh Gi Gj u119 Gl Gm Gn Gp u124 MF:Value) (wx:World),PR w2 wx (Sd m)→Q (.exit 6) ⟨(List.toArray (s0::(.pointer (some ⟨w.heap.size,0,none⟩))::s2::s3::s4::(.pointer (some ⟨w2.heap.size,0,none⟩))::(.func (.func 28) #[] #[.pointer (some ⟨w2.heap.size,0,none⟩)])::s7::s8::s9::s10::s11::s12::s13::G5::s15::s16::iZ::FW::SC::s20::FP::Gx::Ea::s24::Eb::FQ::Eu::Ev::Ew::Ey::Ez::E5::E8::E9::E_::FB::GN::GQ::GR::GU::GV::GX::s43::s44::GY::GZ::Ga::Gb::s49::Gc::Gd::Gf::s53::Fa::Fb::Fe::Fg::Fh::Fj::Fp::Fq::Fu::Fv::Fw::Fx::FC::Fy::s68::Fz::F3::F4::s72::F5::F6::F7::F8::F9::GA::GD::GH::GI::s82::s83::GJ::GK::GL::s87::FD::FE::FH::FI::FJ::Ec::Ed::Ee::Ef::(.slice A6 m.fns.length c6)::(.int .i64 m.fns.length)::(.int .i64 m.fns.length)::SE::SF::SG::SH::SI::u105::Lu::Lv::Lx::L6::L8::L9::L_::MB::MC::ME::Gh::Gi::Gj::u119::Gl::Gm::Gn::Gp::u124::MF::Ay::BX::BZ::Bf::Bg::CO::CP::CQ::DJ::DK::DL::DN::DR::DT::DU::DV::DW::DX::DY::DZ::Da::Db::Cy::Cz::Bh::Bj::Bl::Bn::Bo::Bp::Bq::Br::Bt::Az::Bu::Bv::Bw::Bz::B_::CB::CS::CU::CV::CW::CX::CY::CZ::Cc::Ce::BK:: [])),[]⟩ wx)):
 Code.wp prog (Jr 3) (Exit.then K Q) ⟨(List.toArray (s0::(.pointer (some ⟨w.heap.size,0,none⟩))::s2::s3::s4::(.pointer (some ⟨w2.heap.size,0,none⟩))::(.func (.func 28) #[] #[.pointer (some ⟨w2.heap.size,0,none⟩)])::s7::s8::s9::s10::s11::s12::s13::G5::s15::s16::iZ::FW::SC::s20::FP::Gx::Ea::s24::Eb::FQ::Eu::Ev::Ew::Ey::Ez::E5::E8::E9::E_::FB::GN::GQ::GR::GU::GV::GX::s43::s44::GY::GZ::Ga::Gb::s49::Gc::Gd::Gf::s53::Fa::Fb::Fe::Fg::Fh::Fj::Fp::Fq::Fu::Fv::Fw::Fx::FC::Fy::s68::Fz::F3::F4::s72::F5::F6::F7::F8::F9::GA::GD::GH::GI::s82::s83::GJ::GK::GL::s87::FD::FE::FH::FI::FJ::Ec::Ed::Ee::Ef::(.slice A6 m.fns.length c6)::(.int .i64 m.fns.length)::(.int .i64 k)::SE::SF::SG::SH::SI::u105::Lu::Lv::Lx::L6::L8::L9::L_::MB::MC::ME::Gh::Gi::Gj::u119::Gl::Gm::Gn::Gp::u124::MF::Ay::BX::BZ::Bf::Bg::CO::CP::CQ::DJ::DK::DL::DN::DR::DT::DU::DV::DW::DX::DY::DZ::Da::Db::Cy::Cz::Bh::Bj::Bl::Bn::Bo::Bp::Bq::Br::Bt::Az::Bu::Bv::Bw::Bz::B_::CB::CS::CU::CV::CW::CX::CY::CZ::Cc::Ce::BK:: [])),[]⟩ wr:=by
 conv=>arg 2;whnf
 have Eo:=AA (C.out.Gg.trans (HP.out.Gg.mono C.out.Gg.size))
 have hsz:w2.heap.size≤wr.heap.size:=HP.out.Gg.size
 have hsw:w.heap.size<w2.heap.size:=C.out.lt
 have mP:w2.heap.size<wr.heap.size:=by obtain⟨_,_,hb⟩:=HP.out.aQ;exact hb.blk.lt
 have hhi:=C.out.hhi
 have KQ:=C.out.KQ
 have hk0:(0:Int)≤k:=by omega
 by_cases hlt:k<m.fns.length
 ·obtain⟨x,hx⟩: ∃x,m.fns[k]?=some x:=⟨_,List.getElem?_eq_getElem hlt⟩
  have Lr:decide ((k:Int)<m.fns.length)=true:=decide_eq_true (by omega)
  have Ux:m.fns.length≤2147483647:=by have:=C.out.few;unfold Ad at this;omega
  obtain⟨bk,ok,G_,Gu,rfl,_,Kg,hc0,hc1,hc2,Lp,hsok,hcode⟩:=Oy C.out.h6 hx
  have hc0:=(Eo.out.cell (p:=⟨bk,ok+k*3,none⟩) (show bk<w.heap.size by omega)).trans hc0
  have hc1:=(Eo.out.cell (p:=⟨bk,ok+k*3+1,none⟩) (show bk<w.heap.size by omega)).trans hc1
  have hc2:=(Eo.out.cell (p:=⟨bk,ok+k*3+2,none⟩) (show bk<w.heap.size by omega)).trans hc2
  have Ls:=AA (Dz (Tj m) Sc hx)
  have KZ:=AA (DC (Tj m) Sc hx)
  have K8:(Tj m++m.fns.flatMap Sc).length≤1048576:=by have:=Ou m C.out.le;first | exact this.2.1 | exact this.2.2.1 | exact this.2.2.2.1 | exact this.2.2.2.2.1 | exact this.2.2.2.2.2.1 | exact this.2.2.2.2.2.2.1 | exact this.2.2.2.2.2.2.2
  have Xl:=AA (List.mem_of_getElem? hx)
  clear hx
  have hfl:=vE Xl.out C.out.few
  have HCD:=AA hcode
  have oV:Hid (Sc x=Cg [QY,Lib.itoa x.t,EW x.loc]++x.code.flatMap codeF):=AA rfl
  clear HX
  go_upto_region 30 with fail
  generalize hw3:World.alloc _ _=w3
  have hb3:Below wr.heap.size wr w3:=by rw [←hw3];exact(Below.refl _ _).alloc (Nat.le_refl _) _
  have IX:AV w3 wr.heap.size 56 [.int .i64 x.t,.string x.loc,.slice G_ x.code.length Gu]:=by rw [←hw3];exact AV.new wr _ _
  have hs3:wr.heap.size<w3.heap.size:=IX.lt
  have a0:=IX.q 0 rfl;have a1:=IX.q 1 rfl;have a2:=IX.q 2 rfl
  have b0:=IX.q 0 rfl;have b1:=IX.q 1 rfl;have b2:=IX.q 2 rfl
  have Gz:=AA IX;have HB3:=AA hb3
  have fM:Hid (∀W,Below wr.heap.size wr W→Dt hj W):=AA (fun W hW=>C.out.env.to ((Eo.out.trans (hW.mono (Nat.le_of_lt (Nat.lt_of_lt_of_le hsw hsz)))).mono KQ))
  clear hw3 hc0 hc1 hc2 hb3 IX
  go_region_held3 (fun w'=>w'.cell? ⟨wr.heap.size,0,none⟩=some (.int .i64 x.t)∧w'.cell? ⟨wr.heap.size,1,none⟩=some (.string x.loc)∧w'.cell? ⟨wr.heap.size,2,none⟩=some (.slice G_ x.code.length Gu))
   (first | exact⟨a0,a1,a2⟩ | exact⟨b0,b1,b2⟩ | exact⟨d0,d1,d2⟩ | exact⟨d0a _,d1a _,d2a _⟩ | exact⟨f0,f1,f2⟩)
   (first
    | (go_at_call 32;refine(QE x.t Lp w3.drew (fM.out _ (HB3.out.drew)) (by simp;omega)).mono ?_;rintro e wa ⟨hba,rfl⟩;have Qz:=Af hba;have iY:w3.heap.size≤wa.heap.size:=Qz.size;have hma:=Gz.out.below Qz hs3;have d0:=hma.q 0 rfl;have d1:=hma.q 1 rfl;have d2:=hma.q 2 rfl;have d0a: ∀o,(wa.alloc o).cell? ⟨wr.heap.size,0,none⟩=some (.int .i64 x.t):=fun o=>(hma.alloc o).cell 0;have d1a: ∀o,(wa.alloc o).cell? ⟨wr.heap.size,1,none⟩=some (.string x.loc):=fun o=>(hma.alloc o).cell 1;have d2a: ∀o,(wa.alloc o).cell? ⟨wr.heap.size,2,none⟩=some (.slice G_ x.code.length Gu):=fun o=>(hma.alloc o).cell 2;have YL:=AA (HB3.out.trans (Qz.mono (Nat.le_of_lt hs3)));have oQ:=AA hma;clear hba Qz hma)
    | (go_at_call 35;refine(sQ x.loc _).mono ?_;rintro e wq ⟨rfl,rfl⟩)
    | (go_at_call 28;refine(Kh [PV,BA (Lib.itoa x.t),DI x.loc] [QY,Lib.itoa x.t,EW x.loc] (by rw [dx];rfl) 3 rfl _ wa (by simp) (HP.out.aQ.below YL.out) (by omega) (by have h1:=KZ.out;rw [oV.out] at h1;simp only [List.length_append] at h1⊢;simp only [List.length_append] at K8;omega) (by decide)).mono ?_;rintro e w6 ⟨rfl,hA,hB,hK⟩;have Oa:=AA (PR.mk (HP.out.Gg.trans ((YL.out.mono hsz).trans hB)) hA);have OU:=hK.blk oQ.out (by omega) (by decide);have f0:=OU.q 0 rfl;have f1:=OU.q 1 rfl;have f2:=OU.q 2 rfl;clear hA hB hK OU))
  go_wp2_with fail
  refine vH C (x:=x) HCD hfl.2 hfl.1 _ ?_ Oa _ _ _ _ _ _ _ _ _ _ _ _ _ _ _ _ _ _ _ _ _ _ _ _ _ _ _ _ _ _ _ _ _ _ _ _ _ _ _ _ _ _ _ _ _ _ _ _ _ _ _ _ _ _ _ _ _ _ _ _ _ _ _ _ _ _ _ _ _ _ _ _ _ _ _ _ _ _ _ _ _ _ _ _ _ _ _ _ _ _ _ _ _ _ _ _ _ _ _ _ _ _ _ _ _ _ _ _ _ _ _ _ _ _ _ _ _ _ _ _ _ _ _ _ _ _ _ _ _ _ _ _ _ _ _ _ _ _ _ _ _ _ _ _ _ _ _ _ _ _ _ _ _ _ _ _ _ _ _ _ _ _ _ _ _ _ _ _ _ _ _ (AA ?_)
  ·have h1:=Nat.le_trans KZ.out K8
   rw [oV.out,←List.append_assoc] at h1
   exact h1
  intro v0 v1 v2 v3 v4 v5 v6 v7 v8 v9 wx hpx
  have Qf:Hid (PR w2 wx (Tj m++(m.fns.take (k+1)).flatMap Sc)):=AA (by rw [←Ls.out,oV.out,←List.append_assoc];exact hpx)
  clear hpx
  go_wp2_with fail
  apply HK.out
  ·exact hlt
  ·exact Qf.out
 ·obtain rfl:k=m.fns.length:=by omega
  have Lr:decide ((m.fns.length:Int)<m.fns.length)=false:=decide_eq_false (by omega)
  have Qf:Hid (PR w2 wr (Sd m)):=AA (by have:=HP.out;rw [List.take_length] at this;exact this)
  clear HP HK
  go_wp2_with fail
  apply HX.out
  exact Qf.out
set_option maxRecDepth 1000000 in
theorem zh {w w2:World} {hi hj:Nat} {m:AQ} {A1 A2 A3 A6 A7 A8:Option Addr} {c1 c2 c3 c6 c7 c8:Nat} (C:Hid (M7 w w2 hi hj m A1 c1 A2 c2 A3 c3 A6 c6 A7 c7 A8 c8)) {wr:World} (HP:Hid (PR w2 wr (Tj m)))
 (s0 s2 s3 s4 s7 s8 s9 s10 s11 s12 s13 G5 s15 s16 FW s20 FP Gx Ea s24 Eb FQ Eu Ev Ew Ey Ez E5 E8 E9 E_ FB GN GQ GR GU GV GX s43 s44 GY GZ Ga Gb s49 Gc Gd Gf s53 Fa Fb Fe Fg Fh Fj Fp Fq Fu Fv Fw Fx FC Fy s68 Fz F3 F4 s72 F5 F6 F7 F8 F9 GA GD GH GI s82 s83 GJ GK GL s87 FD FE FH FI FJ Ec Ed Ee Ef Ay BX BZ Bf Bg CO CP CQ DJ DK DL DN DR DT DU DV DW DX DY DZ Da Db Cy Cz Bh Bj Bl Bn Bo Bp Bq Br Bt Az Bu Bv Bw Bz B_ CB CS CU CV CW CX CY CZ Cc Ce BK iZ SC SE SF SG SH SI u105 Lu Lv Lx L6 L8 L9 L_ MB MC ME Gh Gi Gj u119 Gl Gm Gn Gp u124 MF:Value) (Q0:Exit→Act→World→Prop) (HX:Hid (∀(iZ SC SE SF SG SH SI u105 Lu Lv Lx L6 L8 L9 L_ MB MC ME Gh Gi Gj u119 Gl Gm Gn Gp u124 MF:Value) (wx:World),PR w2 wx (Sd m)→Q0 (.exit 6) ⟨(List.toArray (s0::(.pointer (some ⟨w.heap.size,0,none⟩))::s2::s3::s4::(.pointer (some ⟨w2.heap.size,0,none⟩))::(.func (.func 28) #[] #[.pointer (some ⟨w2.heap.size,0,none⟩)])::s7::s8::s9::s10::s11::s12::s13::G5::s15::s16::iZ::FW::SC::s20::FP::Gx::Ea::s24::Eb::FQ::Eu::Ev::Ew::Ey::Ez::E5::E8::E9::E_::FB::GN::GQ::GR::GU::GV::GX::s43::s44::GY::GZ::Ga::Gb::s49::Gc::Gd::Gf::s53::Fa::Fb::Fe::Fg::Fh::Fj::Fp::Fq::Fu::Fv::Fw::Fx::FC::Fy::s68::Fz::F3::F4::s72::F5::F6::F7::F8::F9::GA::GD::GH::GI::s82::s83::GJ::GK::GL::s87::FD::FE::FH::FI::FJ::Ec::Ed::Ee::Ef::(.slice A6 m.fns.length c6)::(.int .i64 m.fns.length)::(.int .i64 m.fns.length)::SE::SF::SG::SH::SI::u105::Lu::Lv::Lx::L6::L8::L9::L_::MB::MC::ME::Gh::Gi::Gj::u119::Gl::Gm::Gn::Gp::u124::MF::Ay::BX::BZ::Bf::Bg::CO::CP::CQ::DJ::DK::DL::DN::DR::DT::DU::DV::DW::DX::DY::DZ::Da::Db::Cy::Cz::Bh::Bj::Bl::Bn::Bo::Bp::Bq::Br::Bt::Az::Bu::Bv::Bw::Bz::B_::CB::CS::CU::CV::CW::CX::CY::CZ::Cc::Ce::BK:: [])),[]⟩ wx)):
 Code.wp prog (Code.loop (Jr 3)) Q0 ⟨(List.toArray (s0::(.pointer (some ⟨w.heap.size,0,none⟩))::s2::s3::s4::(.pointer (some ⟨w2.heap.size,0,none⟩))::(.func (.func 28) #[] #[.pointer (some ⟨w2.heap.size,0,none⟩)])::s7::s8::s9::s10::s11::s12::s13::G5::s15::s16::iZ::FW::SC::s20::FP::Gx::Ea::s24::Eb::FQ::Eu::Ev::Ew::Ey::Ez::E5::E8::E9::E_::FB::GN::GQ::GR::GU::GV::GX::s43::s44::GY::GZ::Ga::Gb::s49::Gc::Gd::Gf::s53::Fa::Fb::Fe::Fg::Fh::Fj::Fp::Fq::Fu::Fv::Fw::Fx::FC::Fy::s68::Fz::F3::F4::s72::F5::F6::F7::F8::F9::GA::GD::GH::GI::s82::s83::GJ::GK::GL::s87::FD::FE::FH::FI::FJ::Ec::Ed::Ee::Ef::(.slice A6 m.fns.length c6)::(.int .i64 m.fns.length)::(.int .i64 0)::SE::SF::SG::SH::SI::u105::Lu::Lv::Lx::L6::L8::L9::L_::MB::MC::ME::Gh::Gi::Gj::u119::Gl::Gm::Gn::Gp::u124::MF::Ay::BX::BZ::Bf::Bg::CO::CP::CQ::DJ::DK::DL::DN::DR::DT::DU::DV::DW::DX::DY::DZ::Da::Db::Cy::Cz::Bh::Bj::Bl::Bn::Bo::Bp::Bq::Br::Bt::Az::Bu::Bv::Bw::Bz::B_::CB::CS::CU::CV::CW::CX::CY::CZ::Cc::Ce::BK:: [])),[]⟩ wr:=by
 refine wp_loop (fun a wx=> ∃(iZ SC SE SF SG SH SI u105 Lu Lv Lx L6 L8 L9 L_ MB MC ME Gh Gi Gj u119 Gl Gm Gn Gp u124 MF:Value) (k:Nat),k≤m.fns.length∧PR w2 wx (Tj m++(m.fns.take k).flatMap Sc)∧a=⟨(List.toArray (s0::(.pointer (some ⟨w.heap.size,0,none⟩))::s2::s3::s4::(.pointer (some ⟨w2.heap.size,0,none⟩))::(.func (.func 28) #[] #[.pointer (some ⟨w2.heap.size,0,none⟩)])::s7::s8::s9::s10::s11::s12::s13::G5::s15::s16::iZ::FW::SC::s20::FP::Gx::Ea::s24::Eb::FQ::Eu::Ev::Ew::Ey::Ez::E5::E8::E9::E_::FB::GN::GQ::GR::GU::GV::GX::s43::s44::GY::GZ::Ga::Gb::s49::Gc::Gd::Gf::s53::Fa::Fb::Fe::Fg::Fh::Fj::Fp::Fq::Fu::Fv::Fw::Fx::FC::Fy::s68::Fz::F3::F4::s72::F5::F6::F7::F8::F9::GA::GD::GH::GI::s82::s83::GJ::GK::GL::s87::FD::FE::FH::FI::FJ::Ec::Ed::Ee::Ef::(.slice A6 m.fns.length c6)::(.int .i64 m.fns.length)::(.int .i64 k)::SE::SF::SG::SH::SI::u105::Lu::Lv::Lx::L6::L8::L9::L_::MB::MC::ME::Gh::Gi::Gj::u119::Gl::Gm::Gn::Gp::u124::MF::Ay::BX::BZ::Bf::Bg::CO::CP::CQ::DJ::DK::DL::DN::DR::DT::DU::DV::DW::DX::DY::DZ::Da::Db::Cy::Cz::Bh::Bj::Bl::Bn::Bo::Bp::Bq::Br::Bt::Az::Bu::Bv::Bw::Bz::B_::CB::CS::CU::CV::CW::CX::CY::CZ::Cc::Ce::BK:: [])),[]⟩) (fun a _=>m.fns.length-(intOf (a.tmps.getD 99 undef)).toNat) ?_ ?_
 ·exact⟨iZ,SC,SE,SF,SG,SH,SI,u105,Lu,Lv,Lx,L6,L8,L9,L_,MB,MC,ME,Gh,Gi,Gj,u119,Gl,Gm,Gn,Gp,u124,MF,0,Nat.zero_le _,by rw [List.take_zero,List.flatMap_nil,List.append_nil];exact HP.out,rfl⟩
 ·intro a wx hI
  obtain⟨iZ,hI⟩:=hI
  obtain⟨SC,hI⟩:=hI
  obtain⟨SE,hI⟩:=hI
  obtain⟨SF,hI⟩:=hI
  obtain⟨SG,hI⟩:=hI
  obtain⟨SH,hI⟩:=hI
  obtain⟨SI,hI⟩:=hI
  obtain⟨u105,hI⟩:=hI
  obtain⟨Lu,hI⟩:=hI
  obtain⟨Lv,hI⟩:=hI
  obtain⟨Lx,hI⟩:=hI
  obtain⟨L6,hI⟩:=hI
  obtain⟨L8,hI⟩:=hI
  obtain⟨L9,hI⟩:=hI
  obtain⟨L_,hI⟩:=hI
  obtain⟨MB,hI⟩:=hI
  obtain⟨MC,hI⟩:=hI
  obtain⟨ME,hI⟩:=hI
  obtain⟨Gh,hI⟩:=hI
  obtain⟨Gi,hI⟩:=hI
  obtain⟨Gj,hI⟩:=hI
  obtain⟨u119,hI⟩:=hI
  obtain⟨Gl,hI⟩:=hI
  obtain⟨Gm,hI⟩:=hI
  obtain⟨Gn,hI⟩:=hI
  obtain⟨Gp,hI⟩:=hI
  obtain⟨u124,hI⟩:=hI
  obtain⟨MF,hI⟩:=hI
  obtain⟨k,hk,hp,rfl⟩:=hI
  refine Yb C hk (AA hp) _ _ _ _ _ _ _ _ _ _ _ _ _ _ _ _ _ _ _ _ _ _ _ _ _ _ _ _ _ _ _ _ _ _ _ _ _ _ _ _ _ _ _ _ _ _ _ _ _ _ _ _ _ _ _ _ _ _ _ _ _ _ _ _ _ _ _ _ _ _ _ _ _ _ _ _ _ _ _ _ _ _ _ _ _ _ _ _ _ _ _ _ _ _ _ _ _ _ _ _ _ _ _ _ _ _ _ _ _ _ _ _ _ _ _ _ _ _ _ _ _ _ _ _ _ _ _ _ _ _ _ _ _ _ _ _ _ _ _ _ _ _ _ _ _ _ _ _ _ _ _ _ _ _ _ _ _ _ _ _ _ _ _ _ _ _ _ _ _ _ _ _ (AA ?_) HX
  intro iZ SC SE SF SG SH SI u105 Lu Lv Lx L6 L8 L9 L_ MB MC ME Gh Gi Gj u119 Gl Gm Gn Gp u124 MF wy hlt hp2
  refine⟨⟨iZ,SC,SE,SF,SG,SH,SI,u105,Lu,Lv,Lx,L6,L8,L9,L_,MB,MC,ME,Gh,Gi,Gj,u119,Gl,Gm,Gn,Gp,u124,MF,k+1,hlt,hp2,rfl⟩,?_⟩
  show m.fns.length-(intOf (.int .i64 ((k+1:Nat):Int))).toNat<m.fns.length-(intOf (.int .i64 (k:Int))).toNat
  simp [intOf]
  omega
theorem below_grown {w0 W w4:World} {o:Option Nat} (h:Below w0.heap.size w0 W) (hg:W.grownBy w4 o) (ho: ∀q,o=some q→w0.heap.size≤q):Below w0.heap.size w0 w4:=
 ⟨hg.os.trans h.os,hg.tape.trans h.tape,hg.output.trans h.output,Nat.le_trans h.size hg.size,fun q hq=>(hg.block q (Nat.lt_of_lt_of_le hq h.size) (fun e=>by have:=ho q e.symm;omega)).trans (h.block q hq)⟩
theorem Xn (w:World) (xs:List Value) (t:TypeId):Row (w.alloc (.cells xs.toArray t)).drew (w.heap.size+1) (some ⟨w.heap.size,0,none⟩) xs:=Dx w xs t
theorem vI (i:Int) (n:Nat) (hi:i.toNat=n) (hn:n<16) (h:i.toNat<(ByteArray.mk #[48,49,50,51,52,53,54,55,56,57,97,98,99,100,101,102]).size):(ByteArray.mk #[48,49,50,51,52,53,54,55,56,57,97,98,99,100,101,102])[i.toNat]'h=OX n:=by
 subst hi
 have h2: ∀j:Fin 16,(ByteArray.mk #[48,49,50,51,52,53,54,55,56,57,97,98,99,100,101,102])[j.val]'(by have:=j.isLt;exact this)=OX j.val:=by decide+kernel
 exact h2 ⟨i.toNat,hn⟩
theorem AEh (c:Nat) (h:c<256):bits .and .u8 (c:Int) 15=(c:Int)%16:=by
 have h2: ∀c:Fin 256,bits .and .u8 (c.val:Int) 15=(c.val:Int)%16:=by decide+kernel
 exact h2 ⟨c,h⟩
theorem bytes_at {W:World} {lo hi:Nat} {A:Option Addr} {n c:Nat} {xs:List UInt8} (h:(Rd.u8.sl false).R W lo hi [.slice A n c] xs) {k:Nat} {t:UInt8} (hk:xs[k]?=some t): ∃b o,A=some ⟨b,o,none⟩∧lo≤b∧b<hi∧W.cell? ⟨b,o+k,none⟩=some (.int .u8 (t.toNat:Int)):=by
 obtain⟨b,o,e,h1,h2,cs,hc,hr⟩:=NW h hk
 obtain⟨rfl,_⟩:=hr
 refine⟨b,o,e,h1,h2,?_⟩
 have:=hc 0 _ rfl
 rwa [show o+k*Rd.u8.z+0=o+k from by show o+k*1+0=_;omega] at this
set_option maxRecDepth 1000000 in
theorem Yc {w w2:World} {hi hj:Nat} {m:AQ} {A1 A2 A3 A6 A7 A8:Option Addr} {c1 c2 c3 c6 c7 c8:Nat} (C:Hid (M7 w w2 hi hj m A1 c1 A2 c2 A3 c3 A6 c6 A7 c7 A8 c8)) {x:EZ} {Ab:Option Addr} {cb:Nat} (Hb:Hid ((Rd.u8.sl false).R w 0 hi [.slice Ab x.b.length cb] x.b)) (hbl:x.b.length≤2147483647) (ws:World) (Hws:Hid (Below w.heap.size w ws)) {k:Nat} {wr:World} (v22:Value) (hk:k≤x.b.length) (HP:Hid (Below ws.heap.size ws wr∧wr.ownsRow ws.heap.size 5 1 v22 (2*k) ((KX (x.b.take k)).map bv)))
 (s0 s2 s3 s4 s7 s8 s9 s10 s11 s12 s13 G5 s15 s16 G6 FW IY s20 FP Ea Eb FQ Eu Ev Ew Ey Ez E5 E8 E9 E_ FB GN GQ GR GU GV GX s43 s44 GY GZ Ga Gb s49 Gc Gd Gf s53 Fa Fb Fe Fg Fh Fj Fp Fq Fu Fv Fw Fx FC Fy s68 Fz F3 F4 s72 F5 F6 F7 F8 F9 GA GD GH GI s82 s83 GJ GK GL s87 FD FE FH FI FJ Ec Ed Ee Ef FR FT FU BF BG BH BI BJ BL BM BN BO BP BQ BR BS Ch Ci Cj Ck Cm Cn Co Cq Cr Ct Cw Cx BU Ay BX BZ Bf Bg CO CP CQ Bh Bj Bl Bn Bo Bp Bq Br Bt Az Bu Bv Bw Bz B_ CB CS CU CV CW CX CY CZ Cc Ce BK u24 ED u138 u139 EF EG EH EI EJ EK EL EM Gq Gs:Value) (K:Act→World→Prop) (Q:Exit→Act→World→Prop) (HK:Hid (∀(v22 u24 ED u138 u139 EF EG EH EI EJ EK EL EM Gq Gs:Value) (wx:World),k<x.b.length→Below ws.heap.size ws wx∧wx.ownsRow ws.heap.size 5 1 v22 (2*(k+1)) ((KX (x.b.take (k+1))).map bv)→K ⟨(List.toArray (s0::(.pointer (some ⟨w.heap.size,0,none⟩))::s2::s3::s4::(.pointer (some ⟨w2.heap.size,0,none⟩))::(.func (.func 28) #[] #[.pointer (some ⟨w2.heap.size,0,none⟩)])::s7::s8::s9::s10::s11::s12::s13::G5::s15::s16::G6::FW::IY::s20::FP::v22::Ea::u24::Eb::FQ::Eu::Ev::Ew::Ey::Ez::E5::E8::E9::E_::FB::GN::GQ::GR::GU::GV::GX::s43::s44::GY::GZ::Ga::Gb::s49::Gc::Gd::Gf::s53::Fa::Fb::Fe::Fg::Fh::Fj::Fp::Fq::Fu::Fv::Fw::Fx::FC::Fy::s68::Fz::F3::F4::s72::F5::F6::F7::F8::F9::GA::GD::GH::GI::s82::s83::GJ::GK::GL::s87::FD::FE::FH::FI::FJ::Ec::Ed::Ee::Ef::FR::FT::FU::BF::BG::BH::BI::BJ::BL::BM::BN::BO::BP::BQ::BR::BS::Ch::Ci::Cj::Ck::Cm::Cn::Co::Cq::Cr::Ct::Cw::Cx::BU::Ay::BX::BZ::Bf::Bg::CO::CP::CQ::(.slice Ab x.b.length cb)::(.int .i64 x.b.length)::(.int .i64 ((k:Int)+1))::ED::u138::u139::EF::EG::EH::EI::EJ::EK::EL::EM::Gq::Gs::Bh::Bj::Bl::Bn::Bo::Bp::Bq::Br::Bt::Az::Bu::Bv::Bw::Bz::B_::CB::CS::CU::CV::CW::CX::CY::CZ::Cc::Ce::BK:: [])),[]⟩ wx)) (HX:Hid (∀(v22 u24 ED u138 u139 EF EG EH EI EJ EK EL EM Gq Gs:Value) (wx:World),Below ws.heap.size ws wx∧wx.ownsRow ws.heap.size 5 1 v22 (2*x.b.length) ((KX x.b).map bv)→Q (.exit 12) ⟨(List.toArray (s0::(.pointer (some ⟨w.heap.size,0,none⟩))::s2::s3::s4::(.pointer (some ⟨w2.heap.size,0,none⟩))::(.func (.func 28) #[] #[.pointer (some ⟨w2.heap.size,0,none⟩)])::s7::s8::s9::s10::s11::s12::s13::G5::s15::s16::G6::FW::IY::s20::FP::v22::Ea::u24::Eb::FQ::Eu::Ev::Ew::Ey::Ez::E5::E8::E9::E_::FB::GN::GQ::GR::GU::GV::GX::s43::s44::GY::GZ::Ga::Gb::s49::Gc::Gd::Gf::s53::Fa::Fb::Fe::Fg::Fh::Fj::Fp::Fq::Fu::Fv::Fw::Fx::FC::Fy::s68::Fz::F3::F4::s72::F5::F6::F7::F8::F9::GA::GD::GH::GI::s82::s83::GJ::GK::GL::s87::FD::FE::FH::FI::FJ::Ec::Ed::Ee::Ef::FR::FT::FU::BF::BG::BH::BI::BJ::BL::BM::BN::BO::BP::BQ::BR::BS::Ch::Ci::Cj::Ck::Cm::Cn::Co::Cq::Cr::Ct::Cw::Cx::BU::Ay::BX::BZ::Bf::Bg::CO::CP::CQ::(.slice Ab x.b.length cb)::(.int .i64 x.b.length)::(.int .i64 x.b.length)::ED::u138::u139::EF::EG::EH::EI::EJ::EK::EL::EM::Gq::Gs::Bh::Bj::Bl::Bn::Bo::Bp::Bq::Br::Bt::Az::Bu::Bv::Bw::Bz::B_::CB::CS::CU::CV::CW::CX::CY::CZ::Cc::Ce::BK:: [])),[]⟩ wx)):
 Code.wp prog (TV 4) (Exit.then K Q) ⟨(List.toArray (s0::(.pointer (some ⟨w.heap.size,0,none⟩))::s2::s3::s4::(.pointer (some ⟨w2.heap.size,0,none⟩))::(.func (.func 28) #[] #[.pointer (some ⟨w2.heap.size,0,none⟩)])::s7::s8::s9::s10::s11::s12::s13::G5::s15::s16::G6::FW::IY::s20::FP::v22::Ea::u24::Eb::FQ::Eu::Ev::Ew::Ey::Ez::E5::E8::E9::E_::FB::GN::GQ::GR::GU::GV::GX::s43::s44::GY::GZ::Ga::Gb::s49::Gc::Gd::Gf::s53::Fa::Fb::Fe::Fg::Fh::Fj::Fp::Fq::Fu::Fv::Fw::Fx::FC::Fy::s68::Fz::F3::F4::s72::F5::F6::F7::F8::F9::GA::GD::GH::GI::s82::s83::GJ::GK::GL::s87::FD::FE::FH::FI::FJ::Ec::Ed::Ee::Ef::FR::FT::FU::BF::BG::BH::BI::BJ::BL::BM::BN::BO::BP::BQ::BR::BS::Ch::Ci::Cj::Ck::Cm::Cn::Co::Cq::Cr::Ct::Cw::Cx::BU::Ay::BX::BZ::Bf::Bg::CO::CP::CQ::(.slice Ab x.b.length cb)::(.int .i64 x.b.length)::(.int .i64 k)::ED::u138::u139::EF::EG::EH::EI::EJ::EK::EL::EM::Gq::Gs::Bh::Bj::Bl::Bn::Bo::Bp::Bq::Br::Bt::Az::Bu::Bv::Bw::Bz::B_::CB::CS::CU::CV::CW::CX::CY::CZ::Cc::Ce::BK:: [])),[]⟩ wr:=by
 conv=>arg 2;whnf
 have hk0:(0:Int)≤k:=by omega
 have hhi:=C.out.hhi
 have KQ:=C.out.KQ
 have hsw:w.heap.size<w2.heap.size:=C.out.lt
 by_cases hlt:k<x.b.length
 ·obtain⟨z,hz⟩: ∃z,x.b[k]?=some z:=⟨_,List.getElem?_eq_getElem hlt⟩
  have Lr:decide ((k:Int)<x.b.length)=true:=decide_eq_true (by omega)
  have Eo:=AA (Hws.out.trans (HP.out.1.mono Hws.out.size))
  obtain⟨bk,ok,rfl,_,Kg,hc0⟩:=bytes_at (Rd.below Hb.out Eo.out hhi) hz
  have hzz:z.toNat<256:=z.toNat_lt
  have q1:(0:Int)≤(z.toNat:Int)/16:=by omega
  have q2:(z.toNat:Int)/16<16:=by omega
  have q3:bits .and .u8 (z.toNat:Int) 15=(z.toNat:Int)%16:=AEh _ hzz
  have q4:(0:Int)≤(z.toNat:Int)%16:=by omega
  have q5:(z.toNat:Int)%16<16:=by omega
  obtain⟨i0,hi0,hz0,hs0,hby0⟩:=info_parts G8
  have HO:=AA HP.out.2
  have hszw:=HP.out.1.size
  obtain⟨A22,c22,rfl⟩:=Nu HO.out
  clear HX
  go_upto_region 44 with fail
  refine wp_region_noPanic ?_
  go_region_law? (refine ES rfl (.tmp 140) (.tmp 147) 41 rfl ws.heap.size 5 i0 _ 1 1 underlying41 hi0 hz0 hs0 hby0 rfl (by omega) _ (2*k) _ rfl (HO.out.alloc _) (wr.heap.size+1) _ 2 2 _ rfl (by rfl) (Xn _ _ _) (by intro u hu;simp at hu;rcases hu with rfl | rfl<;>rfl) (by unfold maxLen;omega) (by omega) (by simp;omega) ?_;intro A4 c4 w4 h2 h3 h4;have H2:=AA h2;have H3:=AA h3;clear h2 h3 h4)
  all_goals
   refine NoPanic.normal ?_
   have h2:=H2.out
   rw [vI _ (z.toNat/16) (by omega) (by omega),vI _ (z.toNat%16) (by omega) (by omega)] at h2
   have hHN:(KX (x.b.take k)).map bv++ [Value.int .u8 ((OX (z.toNat/16)).toNat:Int),Value.int .u8 ((OX (z.toNat%16)).toNat:Int)]=(KX (x.b.take (k+1))).map bv:=by
    have:=FK (f:=fun c:UInt8=> [OX (c.toNat/16),OX (c.toNat%16)]) hz
    unfold KX
    rw [this,List.map_append]
    rfl
   rw [hHN] at h2
   have hB4:Below ws.heap.size ws w4:=below_grown ((HP.out.1.alloc hszw _).drew) H3.out (fun q e=>(HO.out.lt q e).1)
   have zi:Hid (Below ws.heap.size ws w4∧w4.ownsRow ws.heap.size 5 1 (.slice A4 (2*k+2) c4) (2*(k+1)) ((KX (x.b.take (k+1))).map bv)):=AA ⟨hB4,h2⟩
   clear h2 hHN hB4 H2 H3
   go_wp2_with fail
   apply HK.out
   ·exact hlt
   ·exact zi.out
 ·obtain rfl:k=x.b.length:=by omega
  have Lr:decide ((x.b.length:Int)<x.b.length)=false:=decide_eq_false (by omega)
  have Qf:Hid (Below ws.heap.size ws wr∧wr.ownsRow ws.heap.size 5 1 v22 (2*x.b.length) ((KX x.b).map bv)):=AA (by have:=HP.out;rw [List.take_length] at this;exact this)
  clear HP HK
  go_wp2_with fail
  apply HX.out
  exact Qf.out
set_option maxRecDepth 1000000 in
theorem zk {w w2:World} {hi hj:Nat} {m:AQ} {A1 A2 A3 A6 A7 A8:Option Addr} {c1 c2 c3 c6 c7 c8:Nat} (C:Hid (M7 w w2 hi hj m A1 c1 A2 c2 A3 c3 A6 c6 A7 c7 A8 c8)) {x:EZ} {Ab:Option Addr} {cb:Nat} (Hb:Hid ((Rd.u8.sl false).R w 0 hi [.slice Ab x.b.length cb] x.b)) (hbl:x.b.length≤2147483647) (ws:World) (Hws:Hid (Below w.heap.size w ws)) {wr:World} (v22:Value) (HP:Hid (Below ws.heap.size ws wr∧wr.ownsRow ws.heap.size 5 1 v22 (2*0) ((KX (x.b.take 0)).map bv)))
 (s0 s2 s3 s4 s7 s8 s9 s10 s11 s12 s13 G5 s15 s16 G6 FW IY s20 FP Ea Eb FQ Eu Ev Ew Ey Ez E5 E8 E9 E_ FB GN GQ GR GU GV GX s43 s44 GY GZ Ga Gb s49 Gc Gd Gf s53 Fa Fb Fe Fg Fh Fj Fp Fq Fu Fv Fw Fx FC Fy s68 Fz F3 F4 s72 F5 F6 F7 F8 F9 GA GD GH GI s82 s83 GJ GK GL s87 FD FE FH FI FJ Ec Ed Ee Ef FR FT FU BF BG BH BI BJ BL BM BN BO BP BQ BR BS Ch Ci Cj Ck Cm Cn Co Cq Cr Ct Cw Cx BU Ay BX BZ Bf Bg CO CP CQ Bh Bj Bl Bn Bo Bp Bq Br Bt Az Bu Bv Bw Bz B_ CB CS CU CV CW CX CY CZ Cc Ce BK u24 ED u138 u139 EF EG EH EI EJ EK EL EM Gq Gs:Value) (Q0:Exit→Act→World→Prop) (HX:Hid (∀(v22 u24 ED u138 u139 EF EG EH EI EJ EK EL EM Gq Gs:Value) (wx:World),Below ws.heap.size ws wx∧wx.ownsRow ws.heap.size 5 1 v22 (2*x.b.length) ((KX x.b).map bv)→Q0 (.exit 12) ⟨(List.toArray (s0::(.pointer (some ⟨w.heap.size,0,none⟩))::s2::s3::s4::(.pointer (some ⟨w2.heap.size,0,none⟩))::(.func (.func 28) #[] #[.pointer (some ⟨w2.heap.size,0,none⟩)])::s7::s8::s9::s10::s11::s12::s13::G5::s15::s16::G6::FW::IY::s20::FP::v22::Ea::u24::Eb::FQ::Eu::Ev::Ew::Ey::Ez::E5::E8::E9::E_::FB::GN::GQ::GR::GU::GV::GX::s43::s44::GY::GZ::Ga::Gb::s49::Gc::Gd::Gf::s53::Fa::Fb::Fe::Fg::Fh::Fj::Fp::Fq::Fu::Fv::Fw::Fx::FC::Fy::s68::Fz::F3::F4::s72::F5::F6::F7::F8::F9::GA::GD::GH::GI::s82::s83::GJ::GK::GL::s87::FD::FE::FH::FI::FJ::Ec::Ed::Ee::Ef::FR::FT::FU::BF::BG::BH::BI::BJ::BL::BM::BN::BO::BP::BQ::BR::BS::Ch::Ci::Cj::Ck::Cm::Cn::Co::Cq::Cr::Ct::Cw::Cx::BU::Ay::BX::BZ::Bf::Bg::CO::CP::CQ::(.slice Ab x.b.length cb)::(.int .i64 x.b.length)::(.int .i64 x.b.length)::ED::u138::u139::EF::EG::EH::EI::EJ::EK::EL::EM::Gq::Gs::Bh::Bj::Bl::Bn::Bo::Bp::Bq::Br::Bt::Az::Bu::Bv::Bw::Bz::B_::CB::CS::CU::CV::CW::CX::CY::CZ::Cc::Ce::BK:: [])),[]⟩ wx)):
 Code.wp prog (Code.loop (TV 4)) Q0 ⟨(List.toArray (s0::(.pointer (some ⟨w.heap.size,0,none⟩))::s2::s3::s4::(.pointer (some ⟨w2.heap.size,0,none⟩))::(.func (.func 28) #[] #[.pointer (some ⟨w2.heap.size,0,none⟩)])::s7::s8::s9::s10::s11::s12::s13::G5::s15::s16::G6::FW::IY::s20::FP::v22::Ea::u24::Eb::FQ::Eu::Ev::Ew::Ey::Ez::E5::E8::E9::E_::FB::GN::GQ::GR::GU::GV::GX::s43::s44::GY::GZ::Ga::Gb::s49::Gc::Gd::Gf::s53::Fa::Fb::Fe::Fg::Fh::Fj::Fp::Fq::Fu::Fv::Fw::Fx::FC::Fy::s68::Fz::F3::F4::s72::F5::F6::F7::F8::F9::GA::GD::GH::GI::s82::s83::GJ::GK::GL::s87::FD::FE::FH::FI::FJ::Ec::Ed::Ee::Ef::FR::FT::FU::BF::BG::BH::BI::BJ::BL::BM::BN::BO::BP::BQ::BR::BS::Ch::Ci::Cj::Ck::Cm::Cn::Co::Cq::Cr::Ct::Cw::Cx::BU::Ay::BX::BZ::Bf::Bg::CO::CP::CQ::(.slice Ab x.b.length cb)::(.int .i64 x.b.length)::(.int .i64 0)::ED::u138::u139::EF::EG::EH::EI::EJ::EK::EL::EM::Gq::Gs::Bh::Bj::Bl::Bn::Bo::Bp::Bq::Br::Bt::Az::Bu::Bv::Bw::Bz::B_::CB::CS::CU::CV::CW::CX::CY::CZ::Cc::Ce::BK:: [])),[]⟩ wr:=by
 refine wp_loop (fun a wx=> ∃(v22 u24 ED u138 u139 EF EG EH EI EJ EK EL EM Gq Gs:Value) (k:Nat),k≤x.b.length∧(Below ws.heap.size ws wx∧wx.ownsRow ws.heap.size 5 1 v22 (2*k) ((KX (x.b.take k)).map bv))∧a=⟨(List.toArray (s0::(.pointer (some ⟨w.heap.size,0,none⟩))::s2::s3::s4::(.pointer (some ⟨w2.heap.size,0,none⟩))::(.func (.func 28) #[] #[.pointer (some ⟨w2.heap.size,0,none⟩)])::s7::s8::s9::s10::s11::s12::s13::G5::s15::s16::G6::FW::IY::s20::FP::v22::Ea::u24::Eb::FQ::Eu::Ev::Ew::Ey::Ez::E5::E8::E9::E_::FB::GN::GQ::GR::GU::GV::GX::s43::s44::GY::GZ::Ga::Gb::s49::Gc::Gd::Gf::s53::Fa::Fb::Fe::Fg::Fh::Fj::Fp::Fq::Fu::Fv::Fw::Fx::FC::Fy::s68::Fz::F3::F4::s72::F5::F6::F7::F8::F9::GA::GD::GH::GI::s82::s83::GJ::GK::GL::s87::FD::FE::FH::FI::FJ::Ec::Ed::Ee::Ef::FR::FT::FU::BF::BG::BH::BI::BJ::BL::BM::BN::BO::BP::BQ::BR::BS::Ch::Ci::Cj::Ck::Cm::Cn::Co::Cq::Cr::Ct::Cw::Cx::BU::Ay::BX::BZ::Bf::Bg::CO::CP::CQ::(.slice Ab x.b.length cb)::(.int .i64 x.b.length)::(.int .i64 k)::ED::u138::u139::EF::EG::EH::EI::EJ::EK::EL::EM::Gq::Gs::Bh::Bj::Bl::Bn::Bo::Bp::Bq::Br::Bt::Az::Bu::Bv::Bw::Bz::B_::CB::CS::CU::CV::CW::CX::CY::CZ::Cc::Ce::BK:: [])),[]⟩) (fun a _=>x.b.length-(intOf (a.tmps.getD 136 undef)).toNat) ?_ ?_
 ·exact⟨v22,u24,ED,u138,u139,EF,EG,EH,EI,EJ,EK,EL,EM,Gq,Gs,0,Nat.zero_le _,by first | exact HP.out | (rw [List.take_zero,List.flatMap_nil,List.append_nil];exact HP.out),rfl⟩
 ·intro a wx hI
  obtain⟨v22,hI⟩:=hI
  obtain⟨u24,hI⟩:=hI
  obtain⟨ED,hI⟩:=hI
  obtain⟨u138,hI⟩:=hI
  obtain⟨u139,hI⟩:=hI
  obtain⟨EF,hI⟩:=hI
  obtain⟨EG,hI⟩:=hI
  obtain⟨EH,hI⟩:=hI
  obtain⟨EI,hI⟩:=hI
  obtain⟨EJ,hI⟩:=hI
  obtain⟨EK,hI⟩:=hI
  obtain⟨EL,hI⟩:=hI
  obtain⟨EM,hI⟩:=hI
  obtain⟨Gq,hI⟩:=hI
  obtain⟨Gs,hI⟩:=hI
  obtain⟨k,hk,hp,rfl⟩:=hI
  refine Yc C Hb hbl ws Hws _ hk (AA hp) _ _ _ _ _ _ _ _ _ _ _ _ _ _ _ _ _ _ _ _ _ _ _ _ _ _ _ _ _ _ _ _ _ _ _ _ _ _ _ _ _ _ _ _ _ _ _ _ _ _ _ _ _ _ _ _ _ _ _ _ _ _ _ _ _ _ _ _ _ _ _ _ _ _ _ _ _ _ _ _ _ _ _ _ _ _ _ _ _ _ _ _ _ _ _ _ _ _ _ _ _ _ _ _ _ _ _ _ _ _ _ _ _ _ _ _ _ _ _ _ _ _ _ _ _ _ _ _ _ _ _ _ _ _ _ _ _ _ _ _ _ _ _ _ _ _ _ _ _ _ _ _ _ _ _ _ _ _ _ _ _ _ _ _ _ _ _ _ _ _ _ (AA ?_) HX
  intro v22 u24 ED u138 u139 EF EG EH EI EJ EK EL EM Gq Gs wy hlt hp2
  refine⟨⟨v22,u24,ED,u138,u139,EF,EG,EH,EI,EJ,EK,EL,EM,Gq,Gs,k+1,hlt,hp2,rfl⟩,?_⟩
  show x.b.length-(intOf (.int .i64 ((k+1:Nat):Int))).toNat<x.b.length-(intOf (.int .i64 (k:Int))).toNat
  simp [intOf]
  omega
end Go.Proofs.YtebgikflpgcnlaaGreatDoor
