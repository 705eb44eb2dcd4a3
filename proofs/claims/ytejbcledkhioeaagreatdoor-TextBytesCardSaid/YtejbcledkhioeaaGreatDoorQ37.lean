/- Part 37 of the proof: PrtG PrtK WrkA -/
import Derived.Test.YtejbcledkhioeaaGreatDoorQ24
import Derived.Test.YtejbcledkhioeaaGreatDoorQ25
import Derived.Test.YtejbcledkhioeaaGreatDoorQ30
import Derived.Test.YtejbcledkhioeaaGreatDoorQ31
import Derived.Test.YtejbcledkhioeaaGreatDoorQ36
namespace Go.Proofs.YtejbcledkhioeaaGreatDoor
set_option linter.unusedVariables false
set_option linter.unusedSimpArgs false
set_option maxRecDepth 100000
set_option maxHeartbeats 4000000
open Go.RowKit Tryz
set_option maxRecDepth 1000000 in
theorem V3 {w w2:World} {hi hj:Nat} {m:AP} {A1 A2 A3 A6 A7 A8:Option Addr} {c1 c2 c3 c6 c7 c8:Nat} (C:Hid (Ot w w2 hi hj m A1 c1 A2 c2 A3 c3 A6 c6 A7 c7 A8 c8)) {k:Nat} {wr:World} (hk:k≤m.fns.length) (HP:Hid (PR w2 wr (fM m++(m.fns.take k).flatMap Zw)))
 (s0 s2 s3 s4 s7 s8 s9 s10 s11 s12 s13 Fw s15 s16 EN s20 Eo Ga EO s24 EP Ep Ea Eb Ec Ed E9 E_ FB FC FD FE G7 G8 G9 G_ Hf Hl s43 s44 Ho Hq Hw GI s49 Hz H_ IB s53 Gh Gi Gj Gl Gm Gn Gp Gq Gs Gt Gu Gv Ee Er s68 Fx Fy Fz s72 F4 F5 F6 F7 F8 F9 GA GD GH s82 s83 Gw Gx Gy s87 FH FI FJ FK FL FM FN FP FQ BF BM BN BO BP BQ BR BS DX DY DZ Da Db Dc Df Dh Di Dj Dk Dl Dm Dn Dp Dq Cb Cc Ce Cg Ch Ci Cj Ck Cm Bt Cn Co Cq Cr Ct Cu Cv Cw Cx Cy Cz C8 C9 C_ DC Bu Tq NK IY IZ Ia Ib Ic u105 Ie Ig Ih Ii Ij Ik Il Im Io Ip D9 D_ EA u119 FR FT FU FV u124 Ke:Value) (K:Act→World→Prop) (Q:Exit→Act→World→Prop) (HK:Hid (∀(Tq NK IY IZ Ia Ib Ic u105 Ie Ig Ih Ii Ij Ik Il Im Io Ip D9 D_ EA u119 FR FT FU FV u124 Ke:Value) (wx:World),k<m.fns.length→PR w2 wx (fM m++(m.fns.take (k+1)).flatMap Zw)→K ⟨(List.toArray (s0::(.pointer (some ⟨w.heap.size,0,none⟩))::s2::s3::s4::(.pointer (some ⟨w2.heap.size,0,none⟩))::(.func (.func 28) #[] #[.pointer (some ⟨w2.heap.size,0,none⟩)])::s7::s8::s9::s10::s11::s12::s13::Fw::s15::s16::Tq::EN::NK::s20::Eo::Ga::EO::s24::EP::Ep::Ea::Eb::Ec::Ed::E9::E_::FB::FC::FD::FE::G7::G8::G9::G_::Hf::Hl::s43::s44::Ho::Hq::Hw::GI::s49::Hz::H_::IB::s53::Gh::Gi::Gj::Gl::Gm::Gn::Gp::Gq::Gs::Gt::Gu::Gv::Ee::Er::s68::Fx::Fy::Fz::s72::F4::F5::F6::F7::F8::F9::GA::GD::GH::s82::s83::Gw::Gx::Gy::s87::FH::FI::FJ::FK::FL::FM::FN::FP::FQ::(.slice A6 m.fns.length c6)::(.int .i64 m.fns.length)::(.int .i64 ((k:Int)+1))::IY::IZ::Ia::Ib::Ic::u105::Ie::Ig::Ih::Ii::Ij::Ik::Il::Im::Io::Ip::D9::D_::EA::u119::FR::FT::FU::FV::u124::Ke::BF::BM::BN::BO::BP::BQ::BR::BS::DX::DY::DZ::Da::Db::Dc::Df::Dh::Di::Dj::Dk::Dl::Dm::Dn::Dp::Dq::Cb::Cc::Ce::Cg::Ch::Ci::Cj::Ck::Cm::Bt::Cn::Co::Cq::Cr::Ct::Cu::Cv::Cw::Cx::Cy::Cz::C8::C9::C_::DC::Bu:: [])),[]⟩ wx)) (HX:Hid (∀(Tq NK IY IZ Ia Ib Ic u105 Ie Ig Ih Ii Ij Ik Il Im Io Ip D9 D_ EA u119 FR FT FU FV u124 Ke:Value) (wx:World),PR w2 wx (bV m)→Q (.exit 6) ⟨(List.toArray (s0::(.pointer (some ⟨w.heap.size,0,none⟩))::s2::s3::s4::(.pointer (some ⟨w2.heap.size,0,none⟩))::(.func (.func 28) #[] #[.pointer (some ⟨w2.heap.size,0,none⟩)])::s7::s8::s9::s10::s11::s12::s13::Fw::s15::s16::Tq::EN::NK::s20::Eo::Ga::EO::s24::EP::Ep::Ea::Eb::Ec::Ed::E9::E_::FB::FC::FD::FE::G7::G8::G9::G_::Hf::Hl::s43::s44::Ho::Hq::Hw::GI::s49::Hz::H_::IB::s53::Gh::Gi::Gj::Gl::Gm::Gn::Gp::Gq::Gs::Gt::Gu::Gv::Ee::Er::s68::Fx::Fy::Fz::s72::F4::F5::F6::F7::F8::F9::GA::GD::GH::s82::s83::Gw::Gx::Gy::s87::FH::FI::FJ::FK::FL::FM::FN::FP::FQ::(.slice A6 m.fns.length c6)::(.int .i64 m.fns.length)::(.int .i64 m.fns.length)::IY::IZ::Ia::Ib::Ic::u105::Ie::Ig::Ih::Ii::Ij::Ik::Il::Im::Io::Ip::D9::D_::EA::u119::FR::FT::FU::FV::u124::Ke::BF::BM::BN::BO::BP::BQ::BR::BS::DX::DY::DZ::Da::Db::Dc::Df::Dh::Di::Dj::Dk::Dl::Dm::Dn::Dp::Dq::Cb::Cc::Ce::Cg::Ch::Ci::Cj::Ck::Cm::Bt::Cn::Co::Cq::Cr::Ct::Cu::Cv::Cw::Cx::Cy::Cz::C8::C9::C_::DC::Bu:: [])),[]⟩ wx)):
 Code.wp prog (I9 3) (Exit.then K Q) ⟨(List.toArray (s0::(.pointer (some ⟨w.heap.size,0,none⟩))::s2::s3::s4::(.pointer (some ⟨w2.heap.size,0,none⟩))::(.func (.func 28) #[] #[.pointer (some ⟨w2.heap.size,0,none⟩)])::s7::s8::s9::s10::s11::s12::s13::Fw::s15::s16::Tq::EN::NK::s20::Eo::Ga::EO::s24::EP::Ep::Ea::Eb::Ec::Ed::E9::E_::FB::FC::FD::FE::G7::G8::G9::G_::Hf::Hl::s43::s44::Ho::Hq::Hw::GI::s49::Hz::H_::IB::s53::Gh::Gi::Gj::Gl::Gm::Gn::Gp::Gq::Gs::Gt::Gu::Gv::Ee::Er::s68::Fx::Fy::Fz::s72::F4::F5::F6::F7::F8::F9::GA::GD::GH::s82::s83::Gw::Gx::Gy::s87::FH::FI::FJ::FK::FL::FM::FN::FP::FQ::(.slice A6 m.fns.length c6)::(.int .i64 m.fns.length)::(.int .i64 k)::IY::IZ::Ia::Ib::Ic::u105::Ie::Ig::Ih::Ii::Ij::Ik::Il::Im::Io::Ip::D9::D_::EA::u119::FR::FT::FU::FV::u124::Ke::BF::BM::BN::BO::BP::BQ::BR::BS::DX::DY::DZ::Da::Db::Dc::Df::Dh::Di::Dj::Dk::Dl::Dm::Dn::Dp::Dq::Cb::Cc::Ce::Cg::Ch::Ci::Cj::Ck::Cm::Bt::Cn::Co::Cq::Cr::Ct::Cu::Cv::Cw::Cx::Cy::Cz::C8::C9::C_::DC::Bu:: [])),[]⟩ wr:=by
 conv=>arg 2;whnf
 have J_:=AA (C.out.IE.trans (HP.out.IE.mono C.out.IE.size))
 have hsz:w2.heap.size≤wr.heap.size:=HP.out.IE.size
 have hsw:w.heap.size<w2.heap.size:=C.out.lt
 have iK:w2.heap.size<wr.heap.size:=by obtain⟨_,_,hb⟩:=HP.out.YR;exact hb.blk.lt
 have hhi:=C.out.hhi
 have Ms:=C.out.Ms
 have hk0:(0:Int)≤k:=by omega
 by_cases hlt:k<m.fns.length
 ·obtain⟨x,hx⟩: ∃x,m.fns[k]?=some x:=⟨_,List.getElem?_eq_getElem hlt⟩
  have KU:decide ((k:Int)<m.fns.length)=true:=decide_eq_true (by omega)
  have oq:m.fns.length≤2147483647:=by have:=C.out.few;unfold Ap at this;omega
  obtain⟨bk,ok,JO,JB,rfl,_,Nw,hc0,hc1,hc2,NH,hsok,hcode⟩:=UQ C.out.h6 hx
  have hc0:=(J_.out.cell (p:=⟨bk,ok+k*3,none⟩) (show bk<w.heap.size by omega)).trans hc0
  have hc1:=(J_.out.cell (p:=⟨bk,ok+k*3+1,none⟩) (show bk<w.heap.size by omega)).trans hc1
  have hc2:=(J_.out.cell (p:=⟨bk,ok+k*3+2,none⟩) (show bk<w.heap.size by omega)).trans hc2
  have NS:=AA (Jb (fM m) Zw hx)
  have MG:=AA (GL (fM m) Zw hx)
  have N8:(fM m++m.fns.flatMap Zw).length≤1048576:=by have:=VN m C.out.le;first | exact this.2.1 | exact this.2.2.1 | exact this.2.2.2.1 | exact this.2.2.2.2.1 | exact this.2.2.2.2.2.1 | exact this.2.2.2.2.2.2.1 | exact this.2.2.2.2.2.2.2
  have uO:=AA (List.mem_of_getElem? hx)
  clear hx
  have hfl:=zH uO.out C.out.few
  have HCD:=AA hcode
  have Xn:Hid (Zw x=Bv [WC,Lib.itoa x.t,Fq x.loc]++x.code.flatMap codeF):=AA rfl
  clear HX
  go_upto_region 30 with fail
  generalize hw3:World.alloc _ _=w3
  have hb3:Below wr.heap.size wr w3:=by rw [←hw3];exact(Below.refl _ _).alloc (Nat.le_refl _) _
  have IX:AL w3 wr.heap.size 56 [.int .i64 x.t,.string x.loc,.slice JO x.code.length JB]:=by rw [←hw3];exact AL.new wr _ _
  have hs3:wr.heap.size<w3.heap.size:=IX.lt
  have a0:=IX.q 0 rfl;have a1:=IX.q 1 rfl;have a2:=IX.q 2 rfl
  have b0:=IX.q 0 rfl;have b1:=IX.q 1 rfl;have b2:=IX.q 2 rfl
  have Vz:=AA IX;have HB3:=AA hb3
  have Z5:Hid (∀W,Below wr.heap.size wr W→Dv hj W):=AA (fun W hW=>C.out.env.to ((J_.out.trans (hW.mono (Nat.le_of_lt (Nat.lt_of_lt_of_le hsw hsz)))).mono Ms))
  clear hw3 hc0 hc1 hc2 hb3 IX
  go_region_held3 (fun w'=>w'.cell? ⟨wr.heap.size,0,none⟩=some (.int .i64 x.t)∧w'.cell? ⟨wr.heap.size,1,none⟩=some (.string x.loc)∧w'.cell? ⟨wr.heap.size,2,none⟩=some (.slice JO x.code.length JB))
   (first | exact⟨a0,a1,a2⟩ | exact⟨b0,b1,b2⟩ | exact⟨d0,d1,d2⟩ | exact⟨d0a _,d1a _,d2a _⟩ | exact⟨f0,f1,f2⟩)
   (first
    | (go_at_call 32;refine(Nr x.t NH w3.drew (Z5.out _ (HB3.out.drew)) (by simp;omega)).mono ?_;rintro e wa ⟨hba,rfl⟩;have O9:=Am hba;have bY:w3.heap.size≤wa.heap.size:=O9.size;have hma:=Vz.out.below O9 hs3;have d0:=hma.q 0 rfl;have d1:=hma.q 1 rfl;have d2:=hma.q 2 rfl;have d0a: ∀o,(wa.alloc o).cell? ⟨wr.heap.size,0,none⟩=some (.int .i64 x.t):=fun o=>(hma.alloc o).cell 0;have d1a: ∀o,(wa.alloc o).cell? ⟨wr.heap.size,1,none⟩=some (.string x.loc):=fun o=>(hma.alloc o).cell 1;have d2a: ∀o,(wa.alloc o).cell? ⟨wr.heap.size,2,none⟩=some (.slice JO x.code.length JB):=fun o=>(hma.alloc o).cell 2;have Vj:=AA (HB3.out.trans (O9.mono (Nat.le_of_lt hs3)));have ji:=AA hma;clear hba O9 hma)
    | (go_at_call 35;refine(mX x.loc _).mono ?_;rintro e wq ⟨rfl,rfl⟩)
    | (go_at_call 28;refine(JM [M7,CK (Lib.itoa x.t),DV x.loc] [WC,Lib.itoa x.t,Fq x.loc] (by rw [om];rfl) 3 rfl _ wa (by simp) (HP.out.YR.below Vj.out) (by omega) (by have h1:=MG.out;rw [Xn.out] at h1;simp only [List.length_append] at h1⊢;simp only [List.length_append] at N8;omega) (by decide)).mono ?_;rintro e w6 ⟨rfl,hA,hB,hK⟩;have Vk:=AA (PR.mk (HP.out.IE.trans ((Vj.out.mono hsz).trans hB)) hA);have MC:=hK.blk ji.out (by omega) (by decide);have f0:=MC.q 0 rfl;have f1:=MC.q 1 rfl;have f2:=MC.q 2 rfl;clear hA hB hK MC))
  go_wp2_with fail
  refine oz C (x:=x) HCD hfl.2 hfl.1 _ ?_ Vk _ _ _ _ _ _ _ _ _ _ _ _ _ _ _ _ _ _ _ _ _ _ _ _ _ _ _ _ _ _ _ _ _ _ _ _ _ _ _ _ _ _ _ _ _ _ _ _ _ _ _ _ _ _ _ _ _ _ _ _ _ _ _ _ _ _ _ _ _ _ _ _ _ _ _ _ _ _ _ _ _ _ _ _ _ _ _ _ _ _ _ _ _ _ _ _ _ _ _ _ _ _ _ _ _ _ _ _ _ _ _ _ _ _ _ _ _ _ _ _ _ _ _ _ _ _ _ _ _ _ _ _ _ _ _ _ _ _ _ _ _ _ _ _ _ _ _ _ _ _ _ _ _ _ _ _ _ _ _ _ _ _ _ _ _ _ _ _ _ _ _ (AA ?_)
  ·have h1:=Nat.le_trans MG.out N8
   rw [Xn.out,←List.append_assoc] at h1
   exact h1
  intro v0 v1 v2 v3 v4 v5 v6 v7 v8 v9 wx hpx
  have Zc:Hid (PR w2 wx (fM m++(m.fns.take (k+1)).flatMap Zw)):=AA (by rw [←NS.out,Xn.out,←List.append_assoc];exact hpx)
  clear hpx
  go_wp2_with fail
  apply HK.out
  ·exact hlt
  ·exact Zc.out
 ·obtain rfl:k=m.fns.length:=by omega
  have KU:decide ((m.fns.length:Int)<m.fns.length)=false:=decide_eq_false (by omega)
  have Zc:Hid (PR w2 wr (bV m)):=AA (by have:=HP.out;rw [List.take_length] at this;exact this)
  clear HP HK
  go_wp2_with fail
  apply HX.out
  exact Zc.out
set_option maxRecDepth 1000000 in
theorem uQ {w w2:World} {hi hj:Nat} {m:AP} {A1 A2 A3 A6 A7 A8:Option Addr} {c1 c2 c3 c6 c7 c8:Nat} (C:Hid (Ot w w2 hi hj m A1 c1 A2 c2 A3 c3 A6 c6 A7 c7 A8 c8)) {wr:World} (HP:Hid (PR w2 wr (fM m)))
 (s0 s2 s3 s4 s7 s8 s9 s10 s11 s12 s13 Fw s15 s16 EN s20 Eo Ga EO s24 EP Ep Ea Eb Ec Ed E9 E_ FB FC FD FE G7 G8 G9 G_ Hf Hl s43 s44 Ho Hq Hw GI s49 Hz H_ IB s53 Gh Gi Gj Gl Gm Gn Gp Gq Gs Gt Gu Gv Ee Er s68 Fx Fy Fz s72 F4 F5 F6 F7 F8 F9 GA GD GH s82 s83 Gw Gx Gy s87 FH FI FJ FK FL FM FN FP FQ BF BM BN BO BP BQ BR BS DX DY DZ Da Db Dc Df Dh Di Dj Dk Dl Dm Dn Dp Dq Cb Cc Ce Cg Ch Ci Cj Ck Cm Bt Cn Co Cq Cr Ct Cu Cv Cw Cx Cy Cz C8 C9 C_ DC Bu Tq NK IY IZ Ia Ib Ic u105 Ie Ig Ih Ii Ij Ik Il Im Io Ip D9 D_ EA u119 FR FT FU FV u124 Ke:Value) (Q0:Exit→Act→World→Prop) (HX:Hid (∀(Tq NK IY IZ Ia Ib Ic u105 Ie Ig Ih Ii Ij Ik Il Im Io Ip D9 D_ EA u119 FR FT FU FV u124 Ke:Value) (wx:World),PR w2 wx (bV m)→Q0 (.exit 6) ⟨(List.toArray (s0::(.pointer (some ⟨w.heap.size,0,none⟩))::s2::s3::s4::(.pointer (some ⟨w2.heap.size,0,none⟩))::(.func (.func 28) #[] #[.pointer (some ⟨w2.heap.size,0,none⟩)])::s7::s8::s9::s10::s11::s12::s13::Fw::s15::s16::Tq::EN::NK::s20::Eo::Ga::EO::s24::EP::Ep::Ea::Eb::Ec::Ed::E9::E_::FB::FC::FD::FE::G7::G8::G9::G_::Hf::Hl::s43::s44::Ho::Hq::Hw::GI::s49::Hz::H_::IB::s53::Gh::Gi::Gj::Gl::Gm::Gn::Gp::Gq::Gs::Gt::Gu::Gv::Ee::Er::s68::Fx::Fy::Fz::s72::F4::F5::F6::F7::F8::F9::GA::GD::GH::s82::s83::Gw::Gx::Gy::s87::FH::FI::FJ::FK::FL::FM::FN::FP::FQ::(.slice A6 m.fns.length c6)::(.int .i64 m.fns.length)::(.int .i64 m.fns.length)::IY::IZ::Ia::Ib::Ic::u105::Ie::Ig::Ih::Ii::Ij::Ik::Il::Im::Io::Ip::D9::D_::EA::u119::FR::FT::FU::FV::u124::Ke::BF::BM::BN::BO::BP::BQ::BR::BS::DX::DY::DZ::Da::Db::Dc::Df::Dh::Di::Dj::Dk::Dl::Dm::Dn::Dp::Dq::Cb::Cc::Ce::Cg::Ch::Ci::Cj::Ck::Cm::Bt::Cn::Co::Cq::Cr::Ct::Cu::Cv::Cw::Cx::Cy::Cz::C8::C9::C_::DC::Bu:: [])),[]⟩ wx)):
 Code.wp prog (Code.loop (I9 3)) Q0 ⟨(List.toArray (s0::(.pointer (some ⟨w.heap.size,0,none⟩))::s2::s3::s4::(.pointer (some ⟨w2.heap.size,0,none⟩))::(.func (.func 28) #[] #[.pointer (some ⟨w2.heap.size,0,none⟩)])::s7::s8::s9::s10::s11::s12::s13::Fw::s15::s16::Tq::EN::NK::s20::Eo::Ga::EO::s24::EP::Ep::Ea::Eb::Ec::Ed::E9::E_::FB::FC::FD::FE::G7::G8::G9::G_::Hf::Hl::s43::s44::Ho::Hq::Hw::GI::s49::Hz::H_::IB::s53::Gh::Gi::Gj::Gl::Gm::Gn::Gp::Gq::Gs::Gt::Gu::Gv::Ee::Er::s68::Fx::Fy::Fz::s72::F4::F5::F6::F7::F8::F9::GA::GD::GH::s82::s83::Gw::Gx::Gy::s87::FH::FI::FJ::FK::FL::FM::FN::FP::FQ::(.slice A6 m.fns.length c6)::(.int .i64 m.fns.length)::(.int .i64 0)::IY::IZ::Ia::Ib::Ic::u105::Ie::Ig::Ih::Ii::Ij::Ik::Il::Im::Io::Ip::D9::D_::EA::u119::FR::FT::FU::FV::u124::Ke::BF::BM::BN::BO::BP::BQ::BR::BS::DX::DY::DZ::Da::Db::Dc::Df::Dh::Di::Dj::Dk::Dl::Dm::Dn::Dp::Dq::Cb::Cc::Ce::Cg::Ch::Ci::Cj::Ck::Cm::Bt::Cn::Co::Cq::Cr::Ct::Cu::Cv::Cw::Cx::Cy::Cz::C8::C9::C_::DC::Bu:: [])),[]⟩ wr:=by
 refine wp_loop (fun a wx=> ∃(Tq NK IY IZ Ia Ib Ic u105 Ie Ig Ih Ii Ij Ik Il Im Io Ip D9 D_ EA u119 FR FT FU FV u124 Ke:Value) (k:Nat),k≤m.fns.length∧PR w2 wx (fM m++(m.fns.take k).flatMap Zw)∧a=⟨(List.toArray (s0::(.pointer (some ⟨w.heap.size,0,none⟩))::s2::s3::s4::(.pointer (some ⟨w2.heap.size,0,none⟩))::(.func (.func 28) #[] #[.pointer (some ⟨w2.heap.size,0,none⟩)])::s7::s8::s9::s10::s11::s12::s13::Fw::s15::s16::Tq::EN::NK::s20::Eo::Ga::EO::s24::EP::Ep::Ea::Eb::Ec::Ed::E9::E_::FB::FC::FD::FE::G7::G8::G9::G_::Hf::Hl::s43::s44::Ho::Hq::Hw::GI::s49::Hz::H_::IB::s53::Gh::Gi::Gj::Gl::Gm::Gn::Gp::Gq::Gs::Gt::Gu::Gv::Ee::Er::s68::Fx::Fy::Fz::s72::F4::F5::F6::F7::F8::F9::GA::GD::GH::s82::s83::Gw::Gx::Gy::s87::FH::FI::FJ::FK::FL::FM::FN::FP::FQ::(.slice A6 m.fns.length c6)::(.int .i64 m.fns.length)::(.int .i64 k)::IY::IZ::Ia::Ib::Ic::u105::Ie::Ig::Ih::Ii::Ij::Ik::Il::Im::Io::Ip::D9::D_::EA::u119::FR::FT::FU::FV::u124::Ke::BF::BM::BN::BO::BP::BQ::BR::BS::DX::DY::DZ::Da::Db::Dc::Df::Dh::Di::Dj::Dk::Dl::Dm::Dn::Dp::Dq::Cb::Cc::Ce::Cg::Ch::Ci::Cj::Ck::Cm::Bt::Cn::Co::Cq::Cr::Ct::Cu::Cv::Cw::Cx::Cy::Cz::C8::C9::C_::DC::Bu:: [])),[]⟩) (fun a _=>m.fns.length-(intOf (a.tmps.getD 99 undef)).toNat) ?_ ?_
 ·exact⟨Tq,NK,IY,IZ,Ia,Ib,Ic,u105,Ie,Ig,Ih,Ii,Ij,Ik,Il,Im,Io,Ip,D9,D_,EA,u119,FR,FT,FU,FV,u124,Ke,0,Nat.zero_le _,by rw [List.take_zero,List.flatMap_nil,List.append_nil];exact HP.out,rfl⟩
 ·intro a wx hI
  obtain⟨Tq,hI⟩:=hI
  obtain⟨NK,hI⟩:=hI
  obtain⟨IY,hI⟩:=hI
  obtain⟨IZ,hI⟩:=hI
  obtain⟨Ia,hI⟩:=hI
  obtain⟨Ib,hI⟩:=hI
  obtain⟨Ic,hI⟩:=hI
  obtain⟨u105,hI⟩:=hI
  obtain⟨Ie,hI⟩:=hI
  obtain⟨Ig,hI⟩:=hI
  obtain⟨Ih,hI⟩:=hI
  obtain⟨Ii,hI⟩:=hI
  obtain⟨Ij,hI⟩:=hI
  obtain⟨Ik,hI⟩:=hI
  obtain⟨Il,hI⟩:=hI
  obtain⟨Im,hI⟩:=hI
  obtain⟨Io,hI⟩:=hI
  obtain⟨Ip,hI⟩:=hI
  obtain⟨D9,hI⟩:=hI
  obtain⟨D_,hI⟩:=hI
  obtain⟨EA,hI⟩:=hI
  obtain⟨u119,hI⟩:=hI
  obtain⟨FR,hI⟩:=hI
  obtain⟨FT,hI⟩:=hI
  obtain⟨FU,hI⟩:=hI
  obtain⟨FV,hI⟩:=hI
  obtain⟨u124,hI⟩:=hI
  obtain⟨Ke,hI⟩:=hI
  obtain⟨k,hk,hp,rfl⟩:=hI
  refine V3 C hk (AA hp) _ _ _ _ _ _ _ _ _ _ _ _ _ _ _ _ _ _ _ _ _ _ _ _ _ _ _ _ _ _ _ _ _ _ _ _ _ _ _ _ _ _ _ _ _ _ _ _ _ _ _ _ _ _ _ _ _ _ _ _ _ _ _ _ _ _ _ _ _ _ _ _ _ _ _ _ _ _ _ _ _ _ _ _ _ _ _ _ _ _ _ _ _ _ _ _ _ _ _ _ _ _ _ _ _ _ _ _ _ _ _ _ _ _ _ _ _ _ _ _ _ _ _ _ _ _ _ _ _ _ _ _ _ _ _ _ _ _ _ _ _ _ _ _ _ _ _ _ _ _ _ _ _ _ _ _ _ _ _ _ _ _ _ _ _ _ _ _ _ _ _ _ (AA ?_) HX
  intro Tq NK IY IZ Ia Ib Ic u105 Ie Ig Ih Ii Ij Ik Il Im Io Ip D9 D_ EA u119 FR FT FU FV u124 Ke wy hlt hp2
  refine⟨⟨Tq,NK,IY,IZ,Ia,Ib,Ic,u105,Ie,Ig,Ih,Ii,Ij,Ik,Il,Im,Io,Ip,D9,D_,EA,u119,FR,FT,FU,FV,u124,Ke,k+1,hlt,hp2,rfl⟩,?_⟩
  show m.fns.length-(intOf (.int .i64 ((k+1:Nat):Int))).toNat<m.fns.length-(intOf (.int .i64 (k:Int))).toNat
  simp [intOf]
  omega
theorem uS {B b:Nat} {w:World} {l:List UInt8} (h:Mg B b w l):Lib.IsBuilderF 71 5 B b (Lib.byteCells l) w:=by
 obtain⟨p,v,h⟩:=h
 refine Lib.IsBuilderF.of ?_
 have h2:Lib.BuilderAt 71 5 B b p (Lib.byteCells l) w:=⟨h.low,v,h.blk,by rw [Xk,List.length_map];exact h.own,h.ne⟩
 rcases h.ptr with rfl | rfl
 ·exact .inl h2
 ·exact .inr h2
def UH (w:World) (m:AP) (e:Ending) (w':World):Prop:=Below w.heap.size w w'∧e= .returned (.tuple #[.string (if GU m=0 then CK (Gb m) else none_),.int .i64 (GU m)])
theorem Wq (cs:List Value) (hi hj:Nat) (m:AP) (w:World) (h:JQ.R w 0 hi cs m) (hhi:hi≤w.heap.size) (hle:Ap m≤2147483647) (hE:Dv hj w) (Ms:hj≤w.heap.size):
 Calls prog 10 #[.agg cs.toArray] w (UH w m):=by
 have Px:=SX h
 obtain⟨v1,v2,v3,v6,v7,v8,rfl,h1,h2,h3,h4,h5,h6,h7,h8⟩:=EK.1 h
 obtain⟨A1,c1,rfl⟩:=AX h1
 obtain⟨A2,c2,rfl⟩:=AX h2
 obtain⟨A3,c3,rfl⟩:=AX h3
 obtain⟨A6,c6,rfl⟩:=AX h6
 obtain⟨A7,c7,rfl⟩:=AX h7
 obtain⟨A8,c8,rfl⟩:=AX h8
 have HH:=AA h;have HE:=AA hE;have HN:=AA Px
 have H1:=AA h1;have H2:=AA h2;have H3:=AA h3;have H6:=AA h6;have H7:=AA h7;have H8:=AA h8
 clear h hE Px h1 h2 h3 h4 h5 h6 h7 h8
 go_enter func10,ntmps10
 go_wp2_with fail
 generalize hw1:World.alloc _ _=w1
 have hb1:Below w.heap.size w w1:=by rw [←hw1];exact(Below.refl _ _).alloc (Nat.le_refl _) _
 have hm1:AL w1 w.heap.size 29 [.slice A1 m.types.length c1,.slice A2 m.hosts.length c2,.slice A3 m.globs.length c3,.int .i64 m.first,.int .i64 m.most,.slice A6 m.fns.length c6,.slice A7 m.dat.length c7,.slice A8 m.AU.length c8]:=by rw [←hw1];exact AL.new w _ _
 clear hw1
 refine(Wo [.slice A1 m.types.length c1,.slice A2 m.hosts.length c2,.slice A3 m.globs.length c3,.int .i64 m.first,.int .i64 m.most,.slice A6 m.fns.length c6,.slice A7 m.dat.length c7,.slice A8 m.AU.length c8] w.heap.size m w1 (JQ.more (Nat.le_refl _) hhi (JQ.below HH.out hb1 hhi)) hb1.size hle HN.out (fun w' hb=>HE.out.sI w' ((hb1.mono Ms).trans (hb.mono Ms)))).mono ?_
 rintro e w2 ⟨hb2,rfl⟩
 have aW:=AA (hm1.below hb2 hm1.lt)
 have HB2:=AA (hb1.trans (hb2.mono hb1.size))
 clear hb1 hm1 hb2
 by_cases hz:GU m=0
 case' neg=>
  have hz0:(GU m !=0)=true:=bne_iff_ne.2 hz
  have HZ:Hid (UH w m (.returned (.tuple #[.string ⟨#[]⟩,.int .i64 (GU m)])) w2):=AA ⟨HB2.out,by rw [if_neg hz];rfl⟩
  clear hz
  go_wp2_with fail
  go_ret2
  exact HZ.out
 have HF:=AA (XL hz HN.out)
 have HLEN:=AA (WR hz HN.out)
 have hz0:(GU m !=0)=false:=by rw [hz];rfl
 have HZ:=AA hz
 have HT:Hid (∀W,PR w2 W (Gb m)→UH w m (.returned (.tuple #[.string (CK (Gb m)),.int .i64 0])) W):=AA (fun W hW=>⟨HB2.out.trans (hW.IE.mono HB2.out.size),by rw [hz,if_pos rfl]⟩)
 clear hz
 go_wp2_with fail
 have C:Hid (Ot w w2 hi hj m A1 c1 A2 c2 A3 c3 A6 c6 A7 c7 A8 c8):=AA ⟨hhi,Ms,HB2.out,aW.out.lt,HE.out,HF.out,HLEN.out,hle,aW.out,H1.out,H2.out,H3.out,H6.out,H7.out,H8.out⟩
 have Qv:=AA (VN m HLEN.out)
 have hbn:=(Below.refl w2.heap.size w2).alloc (Nat.le_refl _) (.cells #[.pointer none,.slice none 0 0] 71)
 refine(JM [Iy] [KG] rfl 1 rfl _ (w2.alloc (.cells #[.pointer none,.slice none 0 0] 71)) (by simp) (Mg.new w2) (by simp) Qv.out.1 (by decide)).mono ?_
 rintro e w4 ⟨rfl,hA,hB,hK⟩
 have P4:Hid (PR w2 w4 (kW m)):=AA ⟨hbn.trans hB,hA⟩
 have qx:=C.out.blk.below P4.out.IE C.out.lt
 have e4:=qx.q 0 rfl
 clear hA hB hK hbn qx
 go_wp2_with fail
 refine jg C P4 _ _ _ _ _ _ _ _ _ _ _ _ _ _ _ _ _ _ _ _ _ _ _ _ _ _ _ _ _ _ _ _ _ _ _ _ _ _ _ _ _ _ _ _ _ _ _ _ _ _ _ _ _ _ _ _ _ _ _ _ _ _ _ _ _ _ _ _ _ _ _ _ _ _ _ _ _ _ _ _ _ _ _ _ _ _ _ _ _ _ _ _ _ _ _ _ _ _ _ _ _ _ _ _ _ _ _ _ _ _ _ _ _ _ _ _ _ _ _ _ _ _ _ _ _ _ _ _ _ _ _ _ _ _ _ _ _ _ _ _ _ _ _ _ _ _ _ _ _ _ _ _ _ _ _ _ _ _ _ _ _ _ _ _ _ _ _ _ _ _ _ (AA ?_)
 intro v0_0 v0_1 v0_2 v0_3 v0_4 v0_5 v0_6 v0_7 v0_8 v0_9 v0_10 v0_11 v0_12 v0_13 v0_14 v0_15 w5 hp5
 have P5:=AA hp5
 have Z7:=C.out.blk.below hp5.IE C.out.lt
 have e5:=Z7.q 1 rfl
 clear hp5 Z7 e4
 go_wp2_with fail
 refine jh C P5 _ _ _ _ _ _ _ _ _ _ _ _ _ _ _ _ _ _ _ _ _ _ _ _ _ _ _ _ _ _ _ _ _ _ _ _ _ _ _ _ _ _ _ _ _ _ _ _ _ _ _ _ _ _ _ _ _ _ _ _ _ _ _ _ _ _ _ _ _ _ _ _ _ _ _ _ _ _ _ _ _ _ _ _ _ _ _ _ _ _ _ _ _ _ _ _ _ _ _ _ _ _ _ _ _ _ _ _ _ _ _ _ _ _ _ _ _ _ _ _ _ _ _ _ _ _ _ _ _ _ _ _ _ _ _ _ _ _ _ _ _ _ _ _ _ _ _ _ _ _ _ _ _ _ _ _ _ _ _ _ _ _ _ _ _ _ _ _ _ _ _ (AA ?_)
 intro v1_0 v1_1 v1_2 v1_3 v1_4 v1_5 v1_6 v1_7 v1_8 v1_9 w6 zL
 have P6:=AA zL
 have MC:=C.out.blk.below zL.IE C.out.lt
 have e6:=MC.q 2 rfl
 clear zL MC e5
 go_wp2_with fail
 refine jk C P6 _ _ _ _ _ _ _ _ _ _ _ _ _ _ _ _ _ _ _ _ _ _ _ _ _ _ _ _ _ _ _ _ _ _ _ _ _ _ _ _ _ _ _ _ _ _ _ _ _ _ _ _ _ _ _ _ _ _ _ _ _ _ _ _ _ _ _ _ _ _ _ _ _ _ _ _ _ _ _ _ _ _ _ _ _ _ _ _ _ _ _ _ _ _ _ _ _ _ _ _ _ _ _ _ _ _ _ _ _ _ _ _ _ _ _ _ _ _ _ _ _ _ _ _ _ _ _ _ _ _ _ _ _ _ _ _ _ _ _ _ _ _ _ _ _ _ _ _ _ _ _ _ _ _ _ _ _ _ _ _ _ _ _ _ _ _ _ _ _ _ _ (AA ?_)
 intro v2_0 v2_1 v2_2 v2_3 v2_4 v2_5 v2_6 v2_7 v2_8 v2_9 v2_10 v2_11 v2_12 v2_13 v2_14 v2_15 v2_16 v2_17 v2_18 w7 zM
 have P7:=AA zM
 have bE:=C.out.blk.below zM.IE C.out.lt
 have a0:=bE.q 3 rfl;have a1:=bE.q 4 rfl
 have b0:=bE.q 3 rfl;have b1:=bE.q 4 rfl
 have HM7:=AA bE
 have hl7:w.heap.size<w7.heap.size:=bE.lt
 have hl2:w2.heap.size≤w7.heap.size:=zM.IE.size
 have Z5:Hid (∀W,Below w7.heap.size w7 W→Dv hj W):=AA (fun W hW=>C.out.env.to ((C.out.IE.trans ((P7.out.IE.trans (hW.mono hl2)).mono C.out.IE.size)).mono Ms))
 have hfi:=HF.out.first
 have hmo:=HF.out.most
 clear zM bE e6
 go_upto_region 26 with fail
 go_region_held3 (fun w'=>w'.cell? ⟨w.heap.size,3,none⟩=some (.int .i64 m.first)∧w'.cell? ⟨w.heap.size,4,none⟩=some (.int .i64 m.most))
  (first | exact⟨a0,a1⟩ | exact⟨b0,b1⟩ | exact⟨d0,d1⟩ | exact⟨g0,g1⟩ | exact⟨g0a _,g1a _⟩ | exact⟨f0,f1⟩)
  (first
   | (go_at_call 32;refine(Nr m.first hfi w7.drew (Z5.out _ ((Below.refl _ _).drew)) (by simp;omega)).mono ?_;rintro e wa ⟨hba,rfl⟩;have O9:=Am hba;have bY:w7.heap.size≤wa.heap.size:=O9.size;have hma:=HM7.out.below O9 hl7;have d0:=hma.q 3 rfl;have d1:=hma.q 4 rfl;have Vj:=AA O9;have ji:=AA hma;clear hba O9 hma)
   | (go_at_call 32;refine(Nr m.most hmo wa (Z5.out _ Vj.out) (by omega)).mono ?_;rintro e wb ⟨hbb,rfl⟩;have uP:wa.heap.size≤wb.heap.size:=hbb.size;have hmb:=ji.out.below hbb (by omega);have g0:=hmb.q 3 rfl;have g1:=hmb.q 4 rfl;have g0a: ∀o,(wb.alloc o).cell? ⟨w.heap.size,3,none⟩=some (.int .i64 m.first):=fun o=>(hmb.alloc o).cell 3;have g1a: ∀o,(wb.alloc o).cell? ⟨w.heap.size,4,none⟩=some (.int .i64 m.most):=fun o=>(hmb.alloc o).cell 4;have fO:=AA (Vj.out.trans (hbb.mono bY));have wR:=AA hmb;clear hbb hmb)
   | (go_at_call 28;refine(JM [I4,CK (Lib.itoa m.first),CK (Lib.itoa m.most)] [JL,Lib.itoa m.first,Lib.itoa m.most] rfl 3 rfl _ wb (by simp) (P7.out.YR.below fO.out) (by omega) Qv.out.2.2.2.2.1 (by decide)).mono ?_;rintro e w8 ⟨rfl,hA,hB,hK⟩;have P8:Hid (PR w2 w8 (fM m)):=AA ⟨P7.out.IE.trans ((fO.out.mono hl2).trans hB),hA⟩;have hm8:=C.out.blk.below P8.out.IE C.out.lt;have f0:=hm8.q 3 rfl;have f1:=hm8.q 4 rfl;have HM8:=AA hm8;clear hA hB hK hm8))
 have e8:=HM8.out.q 5 rfl
 clear a0 a1 b0 b1 d0 d1 g0 g1 g0a g1a f0 f1
 go_wp2_with fail
 refine uQ C P8 _ _ _ _ _ _ _ _ _ _ _ _ _ _ _ _ _ _ _ _ _ _ _ _ _ _ _ _ _ _ _ _ _ _ _ _ _ _ _ _ _ _ _ _ _ _ _ _ _ _ _ _ _ _ _ _ _ _ _ _ _ _ _ _ _ _ _ _ _ _ _ _ _ _ _ _ _ _ _ _ _ _ _ _ _ _ _ _ _ _ _ _ _ _ _ _ _ _ _ _ _ _ _ _ _ _ _ _ _ _ _ _ _ _ _ _ _ _ _ _ _ _ _ _ _ _ _ _ _ _ _ _ _ _ _ _ _ _ _ _ _ _ _ _ _ _ _ _ _ _ _ _ _ _ _ _ _ _ _ _ _ _ _ _ _ _ _ _ _ _ _ (AA ?_)
 intro v3_0 v3_1 v3_2 v3_3 v3_4 v3_5 v3_6 v3_7 v3_8 v3_9 v3_10 v3_11 v3_12 v3_13 v3_14 v3_15 v3_16 v3_17 v3_18 v3_19 v3_20 v3_21 v3_22 v3_23 v3_24 v3_25 v3_26 v3_27 w9 hp9
 have P9:=AA hp9
 have hm9:=C.out.blk.below hp9.IE C.out.lt
 have e9:=hm9.q 6 rfl
 clear hp9 hm9 e8
 go_wp2_with fail
 refine o9 C P9 _ _ _ _ _ _ _ _ _ _ _ _ _ _ _ _ _ _ _ _ _ _ _ _ _ _ _ _ _ _ _ _ _ _ _ _ _ _ _ _ _ _ _ _ _ _ _ _ _ _ _ _ _ _ _ _ _ _ _ _ _ _ _ _ _ _ _ _ _ _ _ _ _ _ _ _ _ _ _ _ _ _ _ _ _ _ _ _ _ _ _ _ _ _ _ _ _ _ _ _ _ _ _ _ _ _ _ _ _ _ _ _ _ _ _ _ _ _ _ _ _ _ _ _ _ _ _ _ _ _ _ _ _ _ _ _ _ _ _ _ _ _ _ _ _ _ _ _ _ _ _ _ _ _ _ _ _ _ _ _ _ _ _ _ _ _ _ _ _ _ _ (AA ?_)
 intro v4_0 v4_1 v4_2 v4_3 v4_4 v4_5 v4_6 v4_7 v4_8 v4_9 v4_10 v4_11 v4_12 v4_13 v4_14 v4_15 v4_16 v4_17 v4_18 v4_19 v4_20 v4_21 v4_22 v4_23 v4_24 v4_25 v4_26 v4_27 v4_28 v4_29 v4_30 v4_31 w10 zN
 have P10:=AA zN
 have ABe:=C.out.blk.below zN.IE C.out.lt
 have e10:=ABe.q 7 rfl
 clear zN ABe e9
 go_wp2_with fail
 refine pE C P10 _ _ _ _ _ _ _ _ _ _ _ _ _ _ _ _ _ _ _ _ _ _ _ _ _ _ _ _ _ _ _ _ _ _ _ _ _ _ _ _ _ _ _ _ _ _ _ _ _ _ _ _ _ _ _ _ _ _ _ _ _ _ _ _ _ _ _ _ _ _ _ _ _ _ _ _ _ _ _ _ _ _ _ _ _ _ _ _ _ _ _ _ _ _ _ _ _ _ _ _ _ _ _ _ _ _ _ _ _ _ _ _ _ _ _ _ _ _ _ _ _ _ _ _ _ _ _ _ _ _ _ _ _ _ _ _ _ _ _ _ _ _ _ _ _ _ _ _ _ _ _ _ _ _ _ _ _ _ _ _ _ _ _ _ _ _ _ _ _ _ _ (AA ?_)
 intro v5_0 v5_1 v5_2 v5_3 v5_4 v5_5 v5_6 v5_7 v5_8 v5_9 v5_10 v5_11 v5_12 w11 zO
 have P11:=AA zO
 have hm11:=C.out.blk.below zO.IE C.out.lt
 clear zO hm11 e10
 have hbs:=uS P11.out.YR
 have HST:=AA (Builder_String_any_k w2.heap.size w2.heap.size (uM m) w11 hbs P11.out.IE.size)
 clear hbs
 go_wp2_with fail
 refine HST.out.mono ?_
 rintro e w12 ⟨rfl,_,GY,_⟩
 have Dz:Hid (UH w m (.returned (.tuple #[.string ⟨(uM m).toArray⟩,.int .i64 0])) w12):=AA ⟨HB2.out.trans ((P11.out.IE.trans GY).mono HB2.out.size),by rw [HZ.out,if_pos rfl,←oh];rfl⟩
 clear HST GY
 go_wp2_with fail
 go_ret2
 exact Dz.out
theorem Xu {α:Type} {r:Rd α} {W:World} {hi g:Nat} {t:TypeId} {vs:List Value} {xs:List α} (n:Nat) (hn:n=xs.length) (hb:AL W g t vs) (hg:g<hi) (hx: ∀(k:Nat) x,xs[k]?=some x→ ∃cs,r.R W 0 hi cs x∧ ∀(j:Nat) u,cs[j]?=some u→vs[k*r.z+j]?=some u):
 (r.sl false).R W 0 hi [.slice (some ⟨g,0,none⟩) n n] xs:=by
 subst hn
 refine⟨_,_,rfl,⟨fun h=>(by cases h),Nat.le_refl _⟩,fun _=>⟨g,0,rfl,Nat.zero_le _,hg,fun k x hk=> ?_⟩⟩
 obtain⟨cs,hr,hc⟩:=hx k x hk
 refine⟨cs,fun j u hu=> ?_,hr⟩
 have:=hb.cell (k*r.z+j)
 rw [hc j u hu] at this
 rwa [Nat.zero_add]
theorem pW {W:World} {hi g1 g2 g3 g4:Nat} (hb1:AL W g1 51 [.string ⟨#[119]⟩,.string ⟨#[]⟩]) (hb2:AL W g2 3 [.int .i64 0,.int .i64 1]) (hb3:AL W g3 53 [.int .u8 9,.int .i64 0,.slice (some ⟨g2,0,none⟩) 2 2,.int .u8 6,.int .i64 0,.slice none 0 0])
 (hb4:AL W g4 56 [.int .i64 0,.string ⟨#[108]⟩,.slice (some ⟨g3,0,none⟩) 2 2]) (h1:g1<hi) (h2:g2<hi) (h3:g3<hi) (h4:g4<hi):
 JQ.R W 0 hi [.slice (some ⟨g1,0,none⟩) 1 1,.slice none 0 0,.slice none 0 0,.int .i64 1,.int .i64 2,.slice (some ⟨g4,0,none⟩) 1 1,.slice none 0 0,.slice none 0 0] kM:=by
 have hz: ∀ {α:Type} (r:Rd α),(r.sl false).R W 0 hi [.slice none 0 0] []:=fun r=>⟨_,_,rfl,⟨fun h=>(by cases h),Nat.le_refl _⟩,fun h=>absurd h (Nat.lt_irrefl 0)⟩
 have hl:(Rd.i64.sl false).R W 0 hi [.slice (some ⟨g2,0,none⟩) 2 2] [0,1]:=Xu 2 rfl hb2 h2 fun k x hk=>by
  rcases k with _ | _ | k
  ·obtain rfl:(0:Int)=x:=by simpa using hk
   exact⟨_,⟨rfl,by decide,by decide⟩,fun j u hu=>by rcases j with _ | j;exact hu;simp at hu⟩
  ·obtain rfl:(1:Int)=x:=by simpa using hk
   exact⟨_,⟨rfl,by decide,by decide⟩,fun j u hu=>by rcases j with _ | j;exact hu;simp at hu⟩
  ·simp at hk
 have hc:(JA.sl false).R W 0 hi [.slice (some ⟨g3,0,none⟩) 2 2] [⟨9,0,[0,1]⟩,⟨6,0,[]⟩]:=Xu 2 rfl hb3 h3 fun k x hk=>by
  rcases k with _ | _ | k
  ·obtain rfl:(⟨9,0,[0,1]⟩:DL)=x:=by simpa using hk
   exact⟨_,Dw.2 ⟨_,rfl,⟨by decide,by decide⟩,hl⟩,fun j u hu=>by rcases j with _ | _ | _ | j;exact hu;exact hu;exact hu;simp at hu⟩
  ·obtain rfl:(⟨6,0,[]⟩:DL)=x:=by simpa using hk
   exact⟨_,Dw.2 ⟨_,rfl,⟨by decide,by decide⟩,hz _⟩,fun j u hu=>by rcases j with _ | _ | _ | j;exact hu;exact hu;exact hu;simp at hu⟩
  ·simp at hk
 have hf:(Rt.sl false).R W 0 hi [.slice (some ⟨g4,0,none⟩) 1 1] kM.fns:=Xu 1 rfl hb4 h4 fun k x hk=>by
  rcases k with _ | k
  ·obtain rfl:(⟨0,⟨#[108]⟩,[⟨9,0,[0,1]⟩,⟨6,0,[]⟩]⟩:GR)=x:=by simpa [kM] using hk
   exact⟨_,LG.2 ⟨_,rfl,⟨by decide,by decide⟩,(by decide:(1:Nat)≤140737488351232),hc⟩,fun j u hu=>by rcases j with _ | _ | _ | j;exact hu;exact hu;exact hu;simp at hu⟩
  ·simp [kM] at hk
 have ht:(LD.sl false).R W 0 hi [.slice (some ⟨g1,0,none⟩) 1 1] kM.types:=Xu 1 rfl hb1 h1 fun k x hk=>by
  rcases k with _ | k
  ·obtain rfl:(⟨⟨#[119]⟩,⟨#[]⟩⟩:DI)=x:=by simpa [kM] using hk
   exact⟨_,Mw.2 ⟨rfl,(by decide:(1:Nat)≤140737488351232),Nat.zero_le _⟩,fun j u hu=>by rcases j with _ | _ | j;exact hu;exact hu;simp at hu⟩
  ·simp [kM] at hk
 exact EK.2 ⟨_,_,_,_,_,_,rfl,ht,hz _,hz _,⟨by decide,by decide⟩,⟨by decide,by decide⟩,hf,hz _,hz _⟩
theorem uw {hi:Nat} (w:World) (hE:Dv hi w) (hhi:hi≤w.heap.size):
 Calls prog 7 #[] w fun e w'=>Below w.heap.size w w'∧e= .returned (.bool true):=by
 have HE:=AA hE
 clear hE
 go_enter func7,ntmps7
 go_upto_region 2 with fail
 generalize hw1:World.alloc _ _=w1
 have hb1:Below w.heap.size w w1:=by
  rw [←hw1]
  exact(((((Below.refl _ _).alloc (Nat.le_refl _) _).alloc (by simp only [World.size_alloc];omega) _).alloc (by simp only [World.size_alloc];omega) _).alloc (by simp only [World.size_alloc];omega) _).alloc (by simp only [World.size_alloc];omega) _
 have hk1:w1.heap.size=w.heap.size+1+1+1+1+1:=by rw [←hw1];simp only [World.size_alloc]
 have hm1:AL w1 (w.heap.size+1+1+1+1) 29 [.slice (some ⟨w.heap.size,0,none⟩) 1 1,.slice none 0 0,.slice none 0 0,.int .i64 1,.int .i64 2,.slice (some ⟨w.heap.size+1+1+1,0,none⟩) 1 1,.slice none 0 0,.slice none 0 0]:=by
  rw [←hw1];exact Lv _ _ [_,_,_,_,_,_,_,_] (by simp only [World.size_alloc])
 have hr1:JQ.R w1 0 w1.heap.size [.slice (some ⟨w.heap.size,0,none⟩) 1 1,.slice none 0 0,.slice none 0 0,.int .i64 1,.int .i64 2,.slice (some ⟨w.heap.size+1+1+1,0,none⟩) 1 1,.slice none 0 0,.slice none 0 0] kM:=by
  refine pW (g2:=w.heap.size+1) (g3:=w.heap.size+1+1) ?_ ?_ ?_ ?_ (by omega) (by omega) (by omega) (by omega)
  ·rw [←hw1];exact((((Lv w _ [_,_] rfl).alloc _).alloc _).alloc _).alloc _
  ·rw [←hw1];exact(((Lv _ _ [_,_] (by simp only [World.size_alloc])).alloc _).alloc _).alloc _
  ·rw [←hw1];exact((Lv _ _ [_,_,_,_,_,_] (by simp only [World.size_alloc])).alloc _).alloc _
  ·rw [←hw1];exact(Lv _ _ [_,_,_] (by simp only [World.size_alloc])).alloc _
 have Z4:=AA hm1;have HR1:=AA hr1;have HB1:=AA hb1
 have hl1:=hm1.lt
 clear hw1 hb1 hm1 hr1
 go_wp2_with (refine ldM Z4.out rfl _ rfl rfl ?_)
 refine(Wq [.slice (some ⟨w.heap.size,0,none⟩) 1 1,.slice none 0 0,.slice none 0 0,.int .i64 1,.int .i64 2,.slice (some ⟨w.heap.size+1+1+1,0,none⟩) 1 1,.slice none 0 0,.slice none 0 0] w1.heap.size hi kM w1 HR1.out (Nat.le_refl _) (by decide+kernel) (HE.out.to (HB1.out.mono hhi)) (by omega)).mono ?_
 rintro e w2 ⟨hb2,he2⟩
 rw [if_pos yB,AAr,yB] at he2
 subst he2
 have HB2:=AA (HB1.out.trans (hb2.mono HB1.out.size))
 have hs2:w.heap.size≤w2.heap.size:=HB2.out.size
 have pX:=hb2.size
 have aW:=AA (Z4.out.below hb2 hl1)
 have HR2:=AA (Rd.below HR1.out hb2 (Nat.le_refl _))
 clear hb2
 go_wp2_with fail
 refine(Sb kT (hi:=hi) w2 (HE.out.to (HB2.out.mono hhi)) (by omega)).mono ?_
 rintro e w3 ⟨hb3,cs3,hl3,qo,hr3⟩
 simp only [mU] at qo hr3
 obtain⟨u1,u2,u3,u6,u7,u8,rfl,h1,h2,h3,h4,h5,h6,h7,h8⟩:=EK.1 hr3
 obtain⟨A1,c1,rfl⟩:=AX h1
 obtain⟨A2,c2,rfl⟩:=AX h2
 obtain⟨A3,c3,rfl⟩:=AX h3
 obtain⟨A6,c6,rfl⟩:=AX h6
 obtain⟨A7,c7,rfl⟩:=AX h7
 obtain⟨A8,c8,rfl⟩:=AX h8
 subst qo
 have HB3:=AA (HB2.out.trans (hb3.mono hs2))
 have hs3:w.heap.size≤w3.heap.size:=HB3.out.size
 have uy:=hb3.size
 have Vz:=AA (aW.out.below hb3 aW.out.lt)
 have HR3:=AA (Rd.below HR2.out hb3 pX)
 have HP3:=AA hr3
 clear hb3 hr3 h1 h2 h3 h4 h5 h6 h7 h8 hl3
 go_wp2_with fail
 generalize hw4:World.alloc _ _=w4
 have hb4:Below w3.heap.size w3 w4:=by rw [←hw4];exact(Below.refl _ _).alloc (Nat.le_refl _) _
 have hn4:AL w4 w3.heap.size 29 [.slice A1 kM.types.length c1,.slice A2 kM.hosts.length c2,.slice A3 kM.globs.length c3,.int .i64 kM.first,.int .i64 kM.most,.slice A6 kM.fns.length c6,.slice A7 kM.dat.length c7,.slice A8 kM.AU.length c8]:=by rw [←hw4];exact AL.new w3 _ _
 have HN4:=AA hn4
 have hn4l:=hn4.lt
 have J9:=AA (HB3.out.trans (hb4.mono hs3))
 have hs4:w.heap.size≤w4.heap.size:=J9.out.size
 have j4:=hb4.size
 have HM4:=AA (Vz.out.below hb4 Vz.out.lt)
 have HR4:=AA (Rd.below HR3.out hb4 (Nat.le_trans pX uy))
 have HP4:=AA (Rd.below HP3.out hb4 (Nat.le_refl _))
 clear hw4 hb4 hn4
 refine(Sb kB (hi:=hi) w4 (HE.out.to (J9.out.mono hhi)) (by omega)).mono ?_
 rintro e w5 ⟨hb5,cs5,hl5,qp,SK⟩
 simp only [mV] at qp SK
 obtain⟨u1,u2,u3,u6,u7,u8,rfl,h1,h2,h3,h4,h5,h6,h7,h8⟩:=EK.1 SK
 obtain⟨D1,d1,rfl⟩:=AX h1
 obtain⟨D2,d2,rfl⟩:=AX h2
 obtain⟨D3,d3,rfl⟩:=AX h3
 obtain⟨D6,d6,rfl⟩:=AX h6
 obtain⟨D7,d7,rfl⟩:=AX h7
 obtain⟨D8,d8,rfl⟩:=AX h8
 subst qp
 have JX:=AA (J9.out.trans (hb5.mono hs4))
 have fK:=AA (HM4.out.below hb5 HM4.out.lt)
 have sN:=AA (HN4.out.below hb5 hn4l)
 have Pw:=AA (Rd.below HR4.out hb5 (Nat.le_trans pX (Nat.le_trans uy j4)))
 have HP5:=AA (Rd.below HP4.out hb5 j4)
 have pY:=hb5.size
 clear hb5 SK h1 h2 h3 h4 h5 h6 h7 h8 hl5
 go_upto_region 6 with fail
 generalize nD:World.alloc _ _=w6
 have hb6:Below w5.heap.size w5 w6:=by rw [←nD];exact(Below.refl _ _).alloc (Nat.le_refl _) _
 have Lr:=AA (JX.out.trans (hb6.mono (Nat.le_trans hs4 pY)))
 have Pz:=AA (fK.out.below hb6 fK.out.lt)
 have HN6:=AA (sN.out.below hb6 sN.out.lt)
 have HEQ:=AA (j3 [.slice A1 kM.types.length c1,.slice A2 kM.hosts.length c2,.slice A3 kM.globs.length c3,.int .i64 kM.first,.int .i64 kM.most,.slice A6 kM.fns.length c6,.slice A7 kM.dat.length c7,.slice A8 kM.AU.length c8] [.slice (some ⟨w.heap.size,0,none⟩) 1 1,.slice none 0 0,.slice none 0 0,.int .i64 1,.int .i64 2,.slice (some ⟨w.heap.size+1+1+1,0,none⟩) 1 1,.slice none 0 0,.slice none 0 0] w5.heap.size w5.heap.size kM kM w6 (JQ.more (Nat.zero_le _) (Nat.le_trans j4 pY) (Rd.below HP5.out hb6 (Nat.le_trans j4 pY))) (JQ.more (Nat.le_refl _) (Nat.le_trans pX (Nat.le_trans uy (Nat.le_trans j4 pY))) (Rd.below Pw.out hb6 (Nat.le_trans pX (Nat.le_trans uy (Nat.le_trans j4 pY))))) hb6.size hb6.size (lS (by decide+kernel)))
 have hz6:=Lr.out.size
 clear nD hb6
 rw [show({data:= #[102,108,97,103,111,110,10,116,121,112,101,32,119,32,45,62,32,45,10,109,101,109,111,114,121,32,49,32,50,10,102,117,110,99,32,48,32,108,10,32,32,98,114,116,97,98,108,101,32,48,32,49,10,32,32,101,110,100,10]}:ByteArray)=kT from rfl]
 go_wp2_with (first | refine ABW Pz.out rfl _ rfl rfl ?_ | refine ABW HN6.out rfl _ rfl rfl ?_)
 refine HEQ.out.mono ?_
 rintro e w7 ⟨M_,b,rfl,hb⟩
 obtain rfl:b=true:=hb.2 rfl
 have bD:=AA (Lr.out.trans (M_.mono hz6))
 clear M_ hb HEQ
 go_wp2_with fail
 go_ret
 exact⟨bD.out,rfl⟩
end Go.Proofs.YtejbcledkhioeaaGreatDoor
