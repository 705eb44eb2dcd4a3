/- Part 30 of the proof: PrtH PrtI PrtJ -/
import Derived.Test.YtejbcledkhioeaaGreatDoorQ29
namespace Go.Proofs.YtejbcledkhioeaaGreatDoor
set_option linter.unusedVariables false
set_option linter.unusedSimpArgs false
set_option maxRecDepth 100000
set_option maxHeartbeats 4000000
open Go.RowKit Tryz
set_option maxRecDepth 1000000 in
theorem VU {w w2:World} {hi hj:Nat} {m:AP} {A1 A2 A3 A6 A7 A8:Option Addr} {c1 c2 c3 c6 c7 c8:Nat} (C:Hid (Ot w w2 hi hj m A1 c1 A2 c2 A3 c3 A6 c6 A7 c7 A8 c8)) {k:Nat} {wr:World} (hk:k≤m.AU.length) (HP:Hid (PR w2 wr (bW m++(m.AU.take k).flatMap R6)))
 (s0 s2 s3 s4 s7 s8 s9 s10 s11 s12 s13 Fw s15 s16 En EN GZ s20 Eo Ga EO s24 EP Ea Eb Ec Ed E9 E_ FB FC FD FE G7 G8 G9 G_ Hf Hl s43 s44 Ho Hq Hw GI s49 Hz H_ IB s53 Gh Gi Gj Gl Gm Gn Gp Gq Gs Gt Gu Gv Ee Er s68 Fx Fy Fz s72 F4 F5 F6 F7 F8 F9 GA GD GH s82 s83 Gw Gx Gy s87 FH FI FJ FK FL FM FN FP FQ Gz G5 G6 BZ Ba Bb Bc Bd Bf Bg Bh Bj Bl Bn Bo Bp CS CU CV CW CX CY Bz B_ CB CF CG CJ BL BF BM BN BO BP BQ BR BS DX DY DZ Da Db Dc Df Dh Di Dj Dk Dl Dm Dn Dp Dq Cb Cc Ce Cg Ch Ci Cj Ck Cm Bt Bu u26 Kv u164 Kw Ky Kz K3 K4 K5 K6 K7 K8 K9:Value) (K:Act→World→Prop) (Q:Exit→Act→World→Prop) (HK:Hid (∀(u26 Kv u164 Kw Ky Kz K3 K4 K5 K6 K7 K8 K9:Value) (wx:World),k<m.AU.length→PR w2 wx (bW m++(m.AU.take (k+1)).flatMap R6)→K ⟨(List.toArray (s0::(.pointer (some ⟨w.heap.size,0,none⟩))::s2::s3::s4::(.pointer (some ⟨w2.heap.size,0,none⟩))::(.func (.func 28) #[] #[.pointer (some ⟨w2.heap.size,0,none⟩)])::s7::s8::s9::s10::s11::s12::s13::Fw::s15::s16::En::EN::GZ::s20::Eo::Ga::EO::s24::EP::u26::Ea::Eb::Ec::Ed::E9::E_::FB::FC::FD::FE::G7::G8::G9::G_::Hf::Hl::s43::s44::Ho::Hq::Hw::GI::s49::Hz::H_::IB::s53::Gh::Gi::Gj::Gl::Gm::Gn::Gp::Gq::Gs::Gt::Gu::Gv::Ee::Er::s68::Fx::Fy::Fz::s72::F4::F5::F6::F7::F8::F9::GA::GD::GH::s82::s83::Gw::Gx::Gy::s87::FH::FI::FJ::FK::FL::FM::FN::FP::FQ::Gz::G5::G6::BZ::Ba::Bb::Bc::Bd::Bf::Bg::Bh::Bj::Bl::Bn::Bo::Bp::CS::CU::CV::CW::CX::CY::Bz::B_::CB::CF::CG::CJ::BL::BF::BM::BN::BO::BP::BQ::BR::BS::DX::DY::DZ::Da::Db::Dc::Df::Dh::Di::Dj::Dk::Dl::Dm::Dn::Dp::Dq::Cb::Cc::Ce::Cg::Ch::Ci::Cj::Ck::Cm::Bt::(.slice A8 m.AU.length c8)::(.int .i64 m.AU.length)::(.int .i64 ((k:Int)+1))::Kv::u164::Kw::Ky::Kz::K3::K4::K5::K6::K7::K8::K9::Bu:: [])),[]⟩ wx)) (HX:Hid (∀(u26 Kv u164 Kw Ky Kz K3 K4 K5 K6 K7 K8 K9:Value) (wx:World),PR w2 wx (uM m)→Q (.exit 14) ⟨(List.toArray (s0::(.pointer (some ⟨w.heap.size,0,none⟩))::s2::s3::s4::(.pointer (some ⟨w2.heap.size,0,none⟩))::(.func (.func 28) #[] #[.pointer (some ⟨w2.heap.size,0,none⟩)])::s7::s8::s9::s10::s11::s12::s13::Fw::s15::s16::En::EN::GZ::s20::Eo::Ga::EO::s24::EP::u26::Ea::Eb::Ec::Ed::E9::E_::FB::FC::FD::FE::G7::G8::G9::G_::Hf::Hl::s43::s44::Ho::Hq::Hw::GI::s49::Hz::H_::IB::s53::Gh::Gi::Gj::Gl::Gm::Gn::Gp::Gq::Gs::Gt::Gu::Gv::Ee::Er::s68::Fx::Fy::Fz::s72::F4::F5::F6::F7::F8::F9::GA::GD::GH::s82::s83::Gw::Gx::Gy::s87::FH::FI::FJ::FK::FL::FM::FN::FP::FQ::Gz::G5::G6::BZ::Ba::Bb::Bc::Bd::Bf::Bg::Bh::Bj::Bl::Bn::Bo::Bp::CS::CU::CV::CW::CX::CY::Bz::B_::CB::CF::CG::CJ::BL::BF::BM::BN::BO::BP::BQ::BR::BS::DX::DY::DZ::Da::Db::Dc::Df::Dh::Di::Dj::Dk::Dl::Dm::Dn::Dp::Dq::Cb::Cc::Ce::Cg::Ch::Ci::Cj::Ck::Cm::Bt::(.slice A8 m.AU.length c8)::(.int .i64 m.AU.length)::(.int .i64 m.AU.length)::Kv::u164::Kw::Ky::Kz::K3::K4::K5::K6::K7::K8::K9::Bu:: [])),[]⟩ wx)):
 Code.wp prog (I9 5) (Exit.then K Q) ⟨(List.toArray (s0::(.pointer (some ⟨w.heap.size,0,none⟩))::s2::s3::s4::(.pointer (some ⟨w2.heap.size,0,none⟩))::(.func (.func 28) #[] #[.pointer (some ⟨w2.heap.size,0,none⟩)])::s7::s8::s9::s10::s11::s12::s13::Fw::s15::s16::En::EN::GZ::s20::Eo::Ga::EO::s24::EP::u26::Ea::Eb::Ec::Ed::E9::E_::FB::FC::FD::FE::G7::G8::G9::G_::Hf::Hl::s43::s44::Ho::Hq::Hw::GI::s49::Hz::H_::IB::s53::Gh::Gi::Gj::Gl::Gm::Gn::Gp::Gq::Gs::Gt::Gu::Gv::Ee::Er::s68::Fx::Fy::Fz::s72::F4::F5::F6::F7::F8::F9::GA::GD::GH::s82::s83::Gw::Gx::Gy::s87::FH::FI::FJ::FK::FL::FM::FN::FP::FQ::Gz::G5::G6::BZ::Ba::Bb::Bc::Bd::Bf::Bg::Bh::Bj::Bl::Bn::Bo::Bp::CS::CU::CV::CW::CX::CY::Bz::B_::CB::CF::CG::CJ::BL::BF::BM::BN::BO::BP::BQ::BR::BS::DX::DY::DZ::Da::Db::Dc::Df::Dh::Di::Dj::Dk::Dl::Dm::Dn::Dp::Dq::Cb::Cc::Ce::Cg::Ch::Ci::Cj::Ck::Cm::Bt::(.slice A8 m.AU.length c8)::(.int .i64 m.AU.length)::(.int .i64 k)::Kv::u164::Kw::Ky::Kz::K3::K4::K5::K6::K7::K8::K9::Bu:: [])),[]⟩ wr:=by
 conv=>arg 2;whnf
 have J_:=AA (C.out.IE.trans (HP.out.IE.mono C.out.IE.size))
 have hsz:w2.heap.size≤wr.heap.size:=HP.out.IE.size
 have hsw:w.heap.size<w2.heap.size:=C.out.lt
 have iK:w2.heap.size<wr.heap.size:=by obtain⟨_,_,hb⟩:=HP.out.YR;exact hb.blk.lt
 have hhi:=C.out.hhi
 have Ms:=C.out.Ms
 have hk0:(0:Int)≤k:=by omega
 by_cases hlt:k<m.AU.length
 ·obtain⟨x,hx⟩: ∃x,m.AU[k]?=some x:=⟨_,List.getElem?_eq_getElem hlt⟩
  have KU:decide ((k:Int)<m.AU.length)=true:=decide_eq_true (by omega)
  have oq:m.AU.length≤2147483647:=by have:=C.out.few;unfold Ap at this;omega
  obtain⟨bk,ok,rfl,_,Nw,hc0,hc1,ho0,NH⟩:=NY (Rd.below C.out.h8 J_.out hhi) hx
  have NS:=AA (Jb (bW m) R6 hx)
  have MG:=AA (GL (bW m) R6 hx)
  have N8:(bW m++m.AU.flatMap R6).length≤1048576:=by have:=VN m C.out.le;first | exact this.2.1 | exact this.2.2.1 | exact this.2.2.2.1 | exact this.2.2.2.2.1 | exact this.2.2.2.2.2.1 | exact this.2.2.2.2.2.2.1 | exact this.2.2.2.2.2.2.2
  have uO:=AA (List.mem_of_getElem? hx)
  clear hx
  clear HX
  go_upto_region 51 with fail
  generalize hw3:World.alloc _ _=w3
  have hb3:Below wr.heap.size wr w3:=by rw [←hw3];exact(Below.refl _ _).alloc (Nat.le_refl _) _
  have IX:AL w3 wr.heap.size 61 [.string x.n,.int .i64 x.f]:=by rw [←hw3];exact AL.new wr _ _
  have hs3:wr.heap.size<w3.heap.size:=IX.lt
  have hm3d:AL w3.drew wr.heap.size 61 [.string x.n,.int .i64 x.f]:=IX
  have a0:=IX.q 0 rfl
  have a1:=IX.q 1 rfl
  have b0:=IX.q 0 rfl
  have b1:=IX.q 1 rfl
  have Vz:=AA IX;have HB3:=AA hb3
  have HED:=AA (C.out.env.to (((J_.out.trans (hb3.mono (Nat.le_of_lt (Nat.lt_of_lt_of_le hsw hsz)))).drew).mono Ms))
  clear hw3 hc0 hc1 hb3 IX hm3d
  go_region_held3 (fun w'=>w'.cell? ⟨wr.heap.size,0,none⟩=some (.string x.n)∧w'.cell? ⟨wr.heap.size,1,none⟩=some (.int .i64 x.f))
   (first | exact⟨a0,a1⟩ | exact⟨b0,b1⟩ | exact⟨d0,d1⟩ | exact⟨d0a _,d1a _⟩ | exact⟨f0,f1⟩)
   (first
    | (go_at_call 32;refine(Nr x.f NH w3.drew HED.out (by simp;omega)).mono ?_;rintro e w5 ⟨hb5,rfl⟩;have hS:=Am hb5;have hS5:w3.heap.size≤w5.heap.size:=hS.size;have Z7:=Vz.out.below hS hs3;have d0:=Z7.q 0 rfl;have d1:=Z7.q 1 rfl;have JX:=AA (HB3.out.trans (hS.mono (Nat.le_of_lt hs3)));have d0a: ∀o,(w5.alloc o).cell? ⟨wr.heap.size,0,none⟩=some (.string x.n):=fun o=>(Z7.alloc o).cell 0;have d1a: ∀o,(w5.alloc o).cell? ⟨wr.heap.size,1,none⟩=some (.int .i64 x.f):=fun o=>(Z7.alloc o).cell 1;have fK:=AA Z7;clear hb5 hS Z7)
    | (go_at_call 28;refine(JM [I5,x.n,CK (Lib.itoa x.f)] [Qm,x.n.data.toList,Lib.itoa x.f] (by rw [List.map_cons,List.map_cons,List.map_cons,List.map_nil];simp [CK];rfl) 3 rfl _ w5 (by simp) (HP.out.YR.below JX.out) (by omega) (Nat.le_trans MG.out N8) (by decide)).mono ?_;rintro e w6 ⟨rfl,hA,hB,hK⟩;have Vk:=AA (PR.mk (HP.out.IE.trans ((JX.out.mono hsz).trans hB)) (NS.out▸hA));have MC:=hK.blk fK.out (by omega) (by decide);have f0:=MC.q 0 rfl;have f1:=MC.q 1 rfl;clear hA hB hK MC))
  go_wp2_with fail
  apply HK.out
  ·exact hlt
  ·exact Vk.out
 ·obtain rfl:k=m.AU.length:=by omega
  have KU:decide ((m.AU.length:Int)<m.AU.length)=false:=decide_eq_false (by omega)
  have Zc:Hid (PR w2 wr (uM m)):=AA (by have:=HP.out;rw [List.take_length] at this;exact this)
  clear HP HK
  go_wp2_with fail
  apply HX.out
  exact Zc.out
set_option maxRecDepth 1000000 in
theorem pE {w w2:World} {hi hj:Nat} {m:AP} {A1 A2 A3 A6 A7 A8:Option Addr} {c1 c2 c3 c6 c7 c8:Nat} (C:Hid (Ot w w2 hi hj m A1 c1 A2 c2 A3 c3 A6 c6 A7 c7 A8 c8)) {wr:World} (HP:Hid (PR w2 wr (bW m)))
 (s0 s2 s3 s4 s7 s8 s9 s10 s11 s12 s13 Fw s15 s16 En EN GZ s20 Eo Ga EO s24 EP Ea Eb Ec Ed E9 E_ FB FC FD FE G7 G8 G9 G_ Hf Hl s43 s44 Ho Hq Hw GI s49 Hz H_ IB s53 Gh Gi Gj Gl Gm Gn Gp Gq Gs Gt Gu Gv Ee Er s68 Fx Fy Fz s72 F4 F5 F6 F7 F8 F9 GA GD GH s82 s83 Gw Gx Gy s87 FH FI FJ FK FL FM FN FP FQ Gz G5 G6 BZ Ba Bb Bc Bd Bf Bg Bh Bj Bl Bn Bo Bp CS CU CV CW CX CY Bz B_ CB CF CG CJ BL BF BM BN BO BP BQ BR BS DX DY DZ Da Db Dc Df Dh Di Dj Dk Dl Dm Dn Dp Dq Cb Cc Ce Cg Ch Ci Cj Ck Cm Bt Bu u26 Kv u164 Kw Ky Kz K3 K4 K5 K6 K7 K8 K9:Value) (Q0:Exit→Act→World→Prop) (HX:Hid (∀(u26 Kv u164 Kw Ky Kz K3 K4 K5 K6 K7 K8 K9:Value) (wx:World),PR w2 wx (uM m)→Q0 (.exit 14) ⟨(List.toArray (s0::(.pointer (some ⟨w.heap.size,0,none⟩))::s2::s3::s4::(.pointer (some ⟨w2.heap.size,0,none⟩))::(.func (.func 28) #[] #[.pointer (some ⟨w2.heap.size,0,none⟩)])::s7::s8::s9::s10::s11::s12::s13::Fw::s15::s16::En::EN::GZ::s20::Eo::Ga::EO::s24::EP::u26::Ea::Eb::Ec::Ed::E9::E_::FB::FC::FD::FE::G7::G8::G9::G_::Hf::Hl::s43::s44::Ho::Hq::Hw::GI::s49::Hz::H_::IB::s53::Gh::Gi::Gj::Gl::Gm::Gn::Gp::Gq::Gs::Gt::Gu::Gv::Ee::Er::s68::Fx::Fy::Fz::s72::F4::F5::F6::F7::F8::F9::GA::GD::GH::s82::s83::Gw::Gx::Gy::s87::FH::FI::FJ::FK::FL::FM::FN::FP::FQ::Gz::G5::G6::BZ::Ba::Bb::Bc::Bd::Bf::Bg::Bh::Bj::Bl::Bn::Bo::Bp::CS::CU::CV::CW::CX::CY::Bz::B_::CB::CF::CG::CJ::BL::BF::BM::BN::BO::BP::BQ::BR::BS::DX::DY::DZ::Da::Db::Dc::Df::Dh::Di::Dj::Dk::Dl::Dm::Dn::Dp::Dq::Cb::Cc::Ce::Cg::Ch::Ci::Cj::Ck::Cm::Bt::(.slice A8 m.AU.length c8)::(.int .i64 m.AU.length)::(.int .i64 m.AU.length)::Kv::u164::Kw::Ky::Kz::K3::K4::K5::K6::K7::K8::K9::Bu:: [])),[]⟩ wx)):
 Code.wp prog (Code.loop (I9 5)) Q0 ⟨(List.toArray (s0::(.pointer (some ⟨w.heap.size,0,none⟩))::s2::s3::s4::(.pointer (some ⟨w2.heap.size,0,none⟩))::(.func (.func 28) #[] #[.pointer (some ⟨w2.heap.size,0,none⟩)])::s7::s8::s9::s10::s11::s12::s13::Fw::s15::s16::En::EN::GZ::s20::Eo::Ga::EO::s24::EP::u26::Ea::Eb::Ec::Ed::E9::E_::FB::FC::FD::FE::G7::G8::G9::G_::Hf::Hl::s43::s44::Ho::Hq::Hw::GI::s49::Hz::H_::IB::s53::Gh::Gi::Gj::Gl::Gm::Gn::Gp::Gq::Gs::Gt::Gu::Gv::Ee::Er::s68::Fx::Fy::Fz::s72::F4::F5::F6::F7::F8::F9::GA::GD::GH::s82::s83::Gw::Gx::Gy::s87::FH::FI::FJ::FK::FL::FM::FN::FP::FQ::Gz::G5::G6::BZ::Ba::Bb::Bc::Bd::Bf::Bg::Bh::Bj::Bl::Bn::Bo::Bp::CS::CU::CV::CW::CX::CY::Bz::B_::CB::CF::CG::CJ::BL::BF::BM::BN::BO::BP::BQ::BR::BS::DX::DY::DZ::Da::Db::Dc::Df::Dh::Di::Dj::Dk::Dl::Dm::Dn::Dp::Dq::Cb::Cc::Ce::Cg::Ch::Ci::Cj::Ck::Cm::Bt::(.slice A8 m.AU.length c8)::(.int .i64 m.AU.length)::(.int .i64 0)::Kv::u164::Kw::Ky::Kz::K3::K4::K5::K6::K7::K8::K9::Bu:: [])),[]⟩ wr:=by
 refine wp_loop (fun a wx=> ∃(u26 Kv u164 Kw Ky Kz K3 K4 K5 K6 K7 K8 K9:Value) (k:Nat),k≤m.AU.length∧PR w2 wx (bW m++(m.AU.take k).flatMap R6)∧a=⟨(List.toArray (s0::(.pointer (some ⟨w.heap.size,0,none⟩))::s2::s3::s4::(.pointer (some ⟨w2.heap.size,0,none⟩))::(.func (.func 28) #[] #[.pointer (some ⟨w2.heap.size,0,none⟩)])::s7::s8::s9::s10::s11::s12::s13::Fw::s15::s16::En::EN::GZ::s20::Eo::Ga::EO::s24::EP::u26::Ea::Eb::Ec::Ed::E9::E_::FB::FC::FD::FE::G7::G8::G9::G_::Hf::Hl::s43::s44::Ho::Hq::Hw::GI::s49::Hz::H_::IB::s53::Gh::Gi::Gj::Gl::Gm::Gn::Gp::Gq::Gs::Gt::Gu::Gv::Ee::Er::s68::Fx::Fy::Fz::s72::F4::F5::F6::F7::F8::F9::GA::GD::GH::s82::s83::Gw::Gx::Gy::s87::FH::FI::FJ::FK::FL::FM::FN::FP::FQ::Gz::G5::G6::BZ::Ba::Bb::Bc::Bd::Bf::Bg::Bh::Bj::Bl::Bn::Bo::Bp::CS::CU::CV::CW::CX::CY::Bz::B_::CB::CF::CG::CJ::BL::BF::BM::BN::BO::BP::BQ::BR::BS::DX::DY::DZ::Da::Db::Dc::Df::Dh::Di::Dj::Dk::Dl::Dm::Dn::Dp::Dq::Cb::Cc::Ce::Cg::Ch::Ci::Cj::Ck::Cm::Bt::(.slice A8 m.AU.length c8)::(.int .i64 m.AU.length)::(.int .i64 k)::Kv::u164::Kw::Ky::Kz::K3::K4::K5::K6::K7::K8::K9::Bu:: [])),[]⟩) (fun a _=>m.AU.length-(intOf (a.tmps.getD 162 undef)).toNat) ?_ ?_
 ·exact⟨u26,Kv,u164,Kw,Ky,Kz,K3,K4,K5,K6,K7,K8,K9,0,Nat.zero_le _,by rw [List.take_zero,List.flatMap_nil,List.append_nil];exact HP.out,rfl⟩
 ·intro a wx hI
  obtain⟨u26,hI⟩:=hI
  obtain⟨Kv,hI⟩:=hI
  obtain⟨u164,hI⟩:=hI
  obtain⟨Kw,hI⟩:=hI
  obtain⟨Ky,hI⟩:=hI
  obtain⟨Kz,hI⟩:=hI
  obtain⟨K3,hI⟩:=hI
  obtain⟨K4,hI⟩:=hI
  obtain⟨K5,hI⟩:=hI
  obtain⟨K6,hI⟩:=hI
  obtain⟨K7,hI⟩:=hI
  obtain⟨K8,hI⟩:=hI
  obtain⟨K9,hI⟩:=hI
  obtain⟨k,hk,hp,rfl⟩:=hI
  refine VU C hk (AA hp) _ _ _ _ _ _ _ _ _ _ _ _ _ _ _ _ _ _ _ _ _ _ _ _ _ _ _ _ _ _ _ _ _ _ _ _ _ _ _ _ _ _ _ _ _ _ _ _ _ _ _ _ _ _ _ _ _ _ _ _ _ _ _ _ _ _ _ _ _ _ _ _ _ _ _ _ _ _ _ _ _ _ _ _ _ _ _ _ _ _ _ _ _ _ _ _ _ _ _ _ _ _ _ _ _ _ _ _ _ _ _ _ _ _ _ _ _ _ _ _ _ _ _ _ _ _ _ _ _ _ _ _ _ _ _ _ _ _ _ _ _ _ _ _ _ _ _ _ _ _ _ _ _ _ _ _ _ _ _ _ _ _ _ _ _ _ _ _ _ _ _ _ (AA ?_) HX
  intro u26 Kv u164 Kw Ky Kz K3 K4 K5 K6 K7 K8 K9 wy hlt hp2
  refine⟨⟨u26,Kv,u164,Kw,Ky,Kz,K3,K4,K5,K6,K7,K8,K9,k+1,hlt,hp2,rfl⟩,?_⟩
  show m.AU.length-(intOf (.int .i64 ((k+1:Nat):Int))).toNat<m.AU.length-(intOf (.int .i64 (k:Int))).toNat
  simp [intOf]
  omega
theorem below_grown {w0 W w4:World} {o:Option Nat} (h:Below w0.heap.size w0 W) (hg:W.grownBy w4 o) (ho: ∀q,o=some q→w0.heap.size≤q):Below w0.heap.size w0 w4:=
 ⟨hg.os.trans h.os,hg.tape.trans h.tape,hg.output.trans h.output,Nat.le_trans h.size hg.size,fun q hq=>(hg.block q (Nat.lt_of_lt_of_le hq h.size) (fun e=>by have:=ho q e.symm;omega)).trans (h.block q hq)⟩
theorem VP (w:World) (xs:List Value) (t:TypeId):Row (w.alloc (.cells xs.toArray t)).drew (w.heap.size+1) (some ⟨w.heap.size,0,none⟩) xs:=Ak w xs t
theorem o7 (i:Int) (n:Nat) (hi:i.toNat=n) (hn:n<16) (h:i.toNat<(ByteArray.mk #[48,49,50,51,52,53,54,55,56,57,97,98,99,100,101,102]).size):(ByteArray.mk #[48,49,50,51,52,53,54,55,56,57,97,98,99,100,101,102])[i.toNat]'h=OP n:=by
 subst hi
 have h2: ∀j:Fin 16,(ByteArray.mk #[48,49,50,51,52,53,54,55,56,57,97,98,99,100,101,102])[j.val]'(by have:=j.isLt;exact this)=OP j.val:=by decide+kernel
 exact h2 ⟨i.toNat,hn⟩
theorem ABc (c:Nat) (h:c<256):bits .and .u8 (c:Int) 15=(c:Int)%16:=by
 have h2: ∀c:Fin 256,bits .and .u8 (c.val:Int) 15=(c.val:Int)%16:=by decide+kernel
 exact h2 ⟨c,h⟩
theorem bytes_at {W:World} {lo hi:Nat} {A:Option Addr} {n c:Nat} {xs:List UInt8} (h:(Rd.u8.sl false).R W lo hi [.slice A n c] xs) {k:Nat} {t:UInt8} (hk:xs[k]?=some t): ∃b o,A=some ⟨b,o,none⟩∧lo≤b∧b<hi∧W.cell? ⟨b,o+k,none⟩=some (.int .u8 (t.toNat:Int)):=by
 obtain⟨b,o,e,h1,h2,cs,hc,hr⟩:=OE h hk
 obtain⟨rfl,_⟩:=hr
 refine⟨b,o,e,h1,h2,?_⟩
 have:=hc 0 _ rfl
 rwa [show o+k*Rd.u8.z+0=o+k from by show o+k*1+0=_;omega] at this
set_option maxRecDepth 1000000 in
theorem V4 {w w2:World} {hi hj:Nat} {m:AP} {A1 A2 A3 A6 A7 A8:Option Addr} {c1 c2 c3 c6 c7 c8:Nat} (C:Hid (Ot w w2 hi hj m A1 c1 A2 c2 A3 c3 A6 c6 A7 c7 A8 c8)) {x:EU} {Ab:Option Addr} {cb:Nat} (Hb:Hid ((Rd.u8.sl false).R w 0 hi [.slice Ab x.b.length cb] x.b)) (hbl:x.b.length≤2147483647) (ws:World) (Hws:Hid (Below w.heap.size w ws)) {k:Nat} {wr:World} (v22:Value) (hk:k≤x.b.length) (HP:Hid (Below ws.heap.size ws wr∧wr.ownsRow ws.heap.size 5 1 v22 (2*k) ((KJ (x.b.take k)).map bv)))
 (s0 s2 s3 s4 s7 s8 s9 s10 s11 s12 s13 Fw s15 s16 En EN GZ s20 Eo EO EP Ep Ea Eb Ec Ed E9 E_ FB FC FD FE G7 G8 G9 G_ Hf Hl s43 s44 Ho Hq Hw GI s49 Hz H_ IB s53 Gh Gi Gj Gl Gm Gn Gp Gq Gs Gt Gu Gv Ee Er s68 Fx Fy Fz s72 F4 F5 F6 F7 F8 F9 GA GD GH s82 s83 Gw Gx Gy s87 FH FI FJ FK FL FM FN FP FQ Gz G5 G6 BZ Ba Bb Bc Bd Bf Bg Bh Bj Bl Bn Bo Bp CS CU CV CW CX CY Bz B_ CB CF CG CJ BL BF BM BN BO BP BQ BR BS Cb Cc Ce Cg Ch Ci Cj Ck Cm Bt Cn Co Cq Cr Ct Cu Cv Cw Cx Cy Cz C8 C9 C_ DC Bu u24 FW u138 u139 FX FY FZ Fa Fb Fe Fg Fh Fj Fp:Value) (K:Act→World→Prop) (Q:Exit→Act→World→Prop) (HK:Hid (∀(v22 u24 FW u138 u139 FX FY FZ Fa Fb Fe Fg Fh Fj Fp:Value) (wx:World),k<x.b.length→Below ws.heap.size ws wx∧wx.ownsRow ws.heap.size 5 1 v22 (2*(k+1)) ((KJ (x.b.take (k+1))).map bv)→K ⟨(List.toArray (s0::(.pointer (some ⟨w.heap.size,0,none⟩))::s2::s3::s4::(.pointer (some ⟨w2.heap.size,0,none⟩))::(.func (.func 28) #[] #[.pointer (some ⟨w2.heap.size,0,none⟩)])::s7::s8::s9::s10::s11::s12::s13::Fw::s15::s16::En::EN::GZ::s20::Eo::v22::EO::u24::EP::Ep::Ea::Eb::Ec::Ed::E9::E_::FB::FC::FD::FE::G7::G8::G9::G_::Hf::Hl::s43::s44::Ho::Hq::Hw::GI::s49::Hz::H_::IB::s53::Gh::Gi::Gj::Gl::Gm::Gn::Gp::Gq::Gs::Gt::Gu::Gv::Ee::Er::s68::Fx::Fy::Fz::s72::F4::F5::F6::F7::F8::F9::GA::GD::GH::s82::s83::Gw::Gx::Gy::s87::FH::FI::FJ::FK::FL::FM::FN::FP::FQ::Gz::G5::G6::BZ::Ba::Bb::Bc::Bd::Bf::Bg::Bh::Bj::Bl::Bn::Bo::Bp::CS::CU::CV::CW::CX::CY::Bz::B_::CB::CF::CG::CJ::BL::BF::BM::BN::BO::BP::BQ::BR::BS::(.slice Ab x.b.length cb)::(.int .i64 x.b.length)::(.int .i64 ((k:Int)+1))::FW::u138::u139::FX::FY::FZ::Fa::Fb::Fe::Fg::Fh::Fj::Fp::Cb::Cc::Ce::Cg::Ch::Ci::Cj::Ck::Cm::Bt::Cn::Co::Cq::Cr::Ct::Cu::Cv::Cw::Cx::Cy::Cz::C8::C9::C_::DC::Bu:: [])),[]⟩ wx)) (HX:Hid (∀(v22 u24 FW u138 u139 FX FY FZ Fa Fb Fe Fg Fh Fj Fp:Value) (wx:World),Below ws.heap.size ws wx∧wx.ownsRow ws.heap.size 5 1 v22 (2*x.b.length) ((KJ x.b).map bv)→Q (.exit 12) ⟨(List.toArray (s0::(.pointer (some ⟨w.heap.size,0,none⟩))::s2::s3::s4::(.pointer (some ⟨w2.heap.size,0,none⟩))::(.func (.func 28) #[] #[.pointer (some ⟨w2.heap.size,0,none⟩)])::s7::s8::s9::s10::s11::s12::s13::Fw::s15::s16::En::EN::GZ::s20::Eo::v22::EO::u24::EP::Ep::Ea::Eb::Ec::Ed::E9::E_::FB::FC::FD::FE::G7::G8::G9::G_::Hf::Hl::s43::s44::Ho::Hq::Hw::GI::s49::Hz::H_::IB::s53::Gh::Gi::Gj::Gl::Gm::Gn::Gp::Gq::Gs::Gt::Gu::Gv::Ee::Er::s68::Fx::Fy::Fz::s72::F4::F5::F6::F7::F8::F9::GA::GD::GH::s82::s83::Gw::Gx::Gy::s87::FH::FI::FJ::FK::FL::FM::FN::FP::FQ::Gz::G5::G6::BZ::Ba::Bb::Bc::Bd::Bf::Bg::Bh::Bj::Bl::Bn::Bo::Bp::CS::CU::CV::CW::CX::CY::Bz::B_::CB::CF::CG::CJ::BL::BF::BM::BN::BO::BP::BQ::BR::BS::(.slice Ab x.b.length cb)::(.int .i64 x.b.length)::(.int .i64 x.b.length)::FW::u138::u139::FX::FY::FZ::Fa::Fb::Fe::Fg::Fh::Fj::Fp::Cb::Cc::Ce::Cg::Ch::Ci::Cj::Ck::Cm::Bt::Cn::Co::Cq::Cr::Ct::Cu::Cv::Cw::Cx::Cy::Cz::C8::C9::C_::DC::Bu:: [])),[]⟩ wx)):
 Code.wp prog (RG 4) (Exit.then K Q) ⟨(List.toArray (s0::(.pointer (some ⟨w.heap.size,0,none⟩))::s2::s3::s4::(.pointer (some ⟨w2.heap.size,0,none⟩))::(.func (.func 28) #[] #[.pointer (some ⟨w2.heap.size,0,none⟩)])::s7::s8::s9::s10::s11::s12::s13::Fw::s15::s16::En::EN::GZ::s20::Eo::v22::EO::u24::EP::Ep::Ea::Eb::Ec::Ed::E9::E_::FB::FC::FD::FE::G7::G8::G9::G_::Hf::Hl::s43::s44::Ho::Hq::Hw::GI::s49::Hz::H_::IB::s53::Gh::Gi::Gj::Gl::Gm::Gn::Gp::Gq::Gs::Gt::Gu::Gv::Ee::Er::s68::Fx::Fy::Fz::s72::F4::F5::F6::F7::F8::F9::GA::GD::GH::s82::s83::Gw::Gx::Gy::s87::FH::FI::FJ::FK::FL::FM::FN::FP::FQ::Gz::G5::G6::BZ::Ba::Bb::Bc::Bd::Bf::Bg::Bh::Bj::Bl::Bn::Bo::Bp::CS::CU::CV::CW::CX::CY::Bz::B_::CB::CF::CG::CJ::BL::BF::BM::BN::BO::BP::BQ::BR::BS::(.slice Ab x.b.length cb)::(.int .i64 x.b.length)::(.int .i64 k)::FW::u138::u139::FX::FY::FZ::Fa::Fb::Fe::Fg::Fh::Fj::Fp::Cb::Cc::Ce::Cg::Ch::Ci::Cj::Ck::Cm::Bt::Cn::Co::Cq::Cr::Ct::Cu::Cv::Cw::Cx::Cy::Cz::C8::C9::C_::DC::Bu:: [])),[]⟩ wr:=by
 conv=>arg 2;whnf
 have hk0:(0:Int)≤k:=by omega
 have hhi:=C.out.hhi
 have Ms:=C.out.Ms
 have hsw:w.heap.size<w2.heap.size:=C.out.lt
 by_cases hlt:k<x.b.length
 ·obtain⟨z,hz⟩: ∃z,x.b[k]?=some z:=⟨_,List.getElem?_eq_getElem hlt⟩
  have KU:decide ((k:Int)<x.b.length)=true:=decide_eq_true (by omega)
  have J_:=AA (Hws.out.trans (HP.out.1.mono Hws.out.size))
  obtain⟨bk,ok,rfl,_,Nw,hc0⟩:=bytes_at (Rd.below Hb.out J_.out hhi) hz
  have hzz:z.toNat<256:=z.toNat_lt
  have q1:(0:Int)≤(z.toNat:Int)/16:=by omega
  have q2:(z.toNat:Int)/16<16:=by omega
  have q3:bits .and .u8 (z.toNat:Int) 15=(z.toNat:Int)%16:=ABc _ hzz
  have q4:(0:Int)≤(z.toNat:Int)%16:=by omega
  have q5:(z.toNat:Int)%16<16:=by omega
  obtain⟨i0,hi0,hz0,hs0,hby0⟩:=info_parts Jl
  have HO:=AA HP.out.2
  have hszw:=HP.out.1.size
  obtain⟨A22,c22,rfl⟩:=LZ HO.out
  clear HX
  go_upto_region 44 with fail
  refine wp_region_noPanic ?_
  go_region_law? (refine Au rfl (.tmp 140) (.tmp 147) 41 rfl ws.heap.size 5 i0 _ 1 1 underlying41 hi0 hz0 hs0 hby0 rfl (by omega) _ (2*k) _ rfl (HO.out.alloc _) (wr.heap.size+1) _ 2 2 _ rfl (by rfl) (VP _ _ _) (by intro u hu;simp at hu;rcases hu with rfl | rfl<;>rfl) (by unfold maxLen;omega) (by omega) (by simp;omega) ?_;intro A4 c4 w4 h2 h3 h4;have H2:=AA h2;have H3:=AA h3;clear h2 h3 h4)
  all_goals
   refine NoPanic.normal ?_
   have h2:=H2.out
   rw [o7 _ (z.toNat/16) (by omega) (by omega),o7 _ (z.toNat%16) (by omega) (by omega)] at h2
   have hHN:(KJ (x.b.take k)).map bv++ [Value.int .u8 ((OP (z.toNat/16)).toNat:Int),Value.int .u8 ((OP (z.toNat%16)).toNat:Int)]=(KJ (x.b.take (k+1))).map bv:=by
    have:=Ev (f:=fun c:UInt8=> [OP (c.toNat/16),OP (c.toNat%16)]) hz
    unfold KJ
    rw [this,List.map_append]
    rfl
   rw [hHN] at h2
   have hB4:Below ws.heap.size ws w4:=below_grown ((HP.out.1.alloc hszw _).drew) H3.out (fun q e=>(HO.out.lt q e).1)
   have HF4:Hid (Below ws.heap.size ws w4∧w4.ownsRow ws.heap.size 5 1 (.slice A4 (2*k+2) c4) (2*(k+1)) ((KJ (x.b.take (k+1))).map bv)):=AA ⟨hB4,h2⟩
   clear h2 hHN hB4 H2 H3
   go_wp2_with fail
   apply HK.out
   ·exact hlt
   ·exact HF4.out
 ·obtain rfl:k=x.b.length:=by omega
  have KU:decide ((x.b.length:Int)<x.b.length)=false:=decide_eq_false (by omega)
  have Zc:Hid (Below ws.heap.size ws wr∧wr.ownsRow ws.heap.size 5 1 v22 (2*x.b.length) ((KJ x.b).map bv)):=AA (by have:=HP.out;rw [List.take_length] at this;exact this)
  clear HP HK
  go_wp2_with fail
  apply HX.out
  exact Zc.out
set_option maxRecDepth 1000000 in
theorem uR {w w2:World} {hi hj:Nat} {m:AP} {A1 A2 A3 A6 A7 A8:Option Addr} {c1 c2 c3 c6 c7 c8:Nat} (C:Hid (Ot w w2 hi hj m A1 c1 A2 c2 A3 c3 A6 c6 A7 c7 A8 c8)) {x:EU} {Ab:Option Addr} {cb:Nat} (Hb:Hid ((Rd.u8.sl false).R w 0 hi [.slice Ab x.b.length cb] x.b)) (hbl:x.b.length≤2147483647) (ws:World) (Hws:Hid (Below w.heap.size w ws)) {wr:World} (v22:Value) (HP:Hid (Below ws.heap.size ws wr∧wr.ownsRow ws.heap.size 5 1 v22 (2*0) ((KJ (x.b.take 0)).map bv)))
 (s0 s2 s3 s4 s7 s8 s9 s10 s11 s12 s13 Fw s15 s16 En EN GZ s20 Eo EO EP Ep Ea Eb Ec Ed E9 E_ FB FC FD FE G7 G8 G9 G_ Hf Hl s43 s44 Ho Hq Hw GI s49 Hz H_ IB s53 Gh Gi Gj Gl Gm Gn Gp Gq Gs Gt Gu Gv Ee Er s68 Fx Fy Fz s72 F4 F5 F6 F7 F8 F9 GA GD GH s82 s83 Gw Gx Gy s87 FH FI FJ FK FL FM FN FP FQ Gz G5 G6 BZ Ba Bb Bc Bd Bf Bg Bh Bj Bl Bn Bo Bp CS CU CV CW CX CY Bz B_ CB CF CG CJ BL BF BM BN BO BP BQ BR BS Cb Cc Ce Cg Ch Ci Cj Ck Cm Bt Cn Co Cq Cr Ct Cu Cv Cw Cx Cy Cz C8 C9 C_ DC Bu u24 FW u138 u139 FX FY FZ Fa Fb Fe Fg Fh Fj Fp:Value) (Q0:Exit→Act→World→Prop) (HX:Hid (∀(v22 u24 FW u138 u139 FX FY FZ Fa Fb Fe Fg Fh Fj Fp:Value) (wx:World),Below ws.heap.size ws wx∧wx.ownsRow ws.heap.size 5 1 v22 (2*x.b.length) ((KJ x.b).map bv)→Q0 (.exit 12) ⟨(List.toArray (s0::(.pointer (some ⟨w.heap.size,0,none⟩))::s2::s3::s4::(.pointer (some ⟨w2.heap.size,0,none⟩))::(.func (.func 28) #[] #[.pointer (some ⟨w2.heap.size,0,none⟩)])::s7::s8::s9::s10::s11::s12::s13::Fw::s15::s16::En::EN::GZ::s20::Eo::v22::EO::u24::EP::Ep::Ea::Eb::Ec::Ed::E9::E_::FB::FC::FD::FE::G7::G8::G9::G_::Hf::Hl::s43::s44::Ho::Hq::Hw::GI::s49::Hz::H_::IB::s53::Gh::Gi::Gj::Gl::Gm::Gn::Gp::Gq::Gs::Gt::Gu::Gv::Ee::Er::s68::Fx::Fy::Fz::s72::F4::F5::F6::F7::F8::F9::GA::GD::GH::s82::s83::Gw::Gx::Gy::s87::FH::FI::FJ::FK::FL::FM::FN::FP::FQ::Gz::G5::G6::BZ::Ba::Bb::Bc::Bd::Bf::Bg::Bh::Bj::Bl::Bn::Bo::Bp::CS::CU::CV::CW::CX::CY::Bz::B_::CB::CF::CG::CJ::BL::BF::BM::BN::BO::BP::BQ::BR::BS::(.slice Ab x.b.length cb)::(.int .i64 x.b.length)::(.int .i64 x.b.length)::FW::u138::u139::FX::FY::FZ::Fa::Fb::Fe::Fg::Fh::Fj::Fp::Cb::Cc::Ce::Cg::Ch::Ci::Cj::Ck::Cm::Bt::Cn::Co::Cq::Cr::Ct::Cu::Cv::Cw::Cx::Cy::Cz::C8::C9::C_::DC::Bu:: [])),[]⟩ wx)):
 Code.wp prog (Code.loop (RG 4)) Q0 ⟨(List.toArray (s0::(.pointer (some ⟨w.heap.size,0,none⟩))::s2::s3::s4::(.pointer (some ⟨w2.heap.size,0,none⟩))::(.func (.func 28) #[] #[.pointer (some ⟨w2.heap.size,0,none⟩)])::s7::s8::s9::s10::s11::s12::s13::Fw::s15::s16::En::EN::GZ::s20::Eo::v22::EO::u24::EP::Ep::Ea::Eb::Ec::Ed::E9::E_::FB::FC::FD::FE::G7::G8::G9::G_::Hf::Hl::s43::s44::Ho::Hq::Hw::GI::s49::Hz::H_::IB::s53::Gh::Gi::Gj::Gl::Gm::Gn::Gp::Gq::Gs::Gt::Gu::Gv::Ee::Er::s68::Fx::Fy::Fz::s72::F4::F5::F6::F7::F8::F9::GA::GD::GH::s82::s83::Gw::Gx::Gy::s87::FH::FI::FJ::FK::FL::FM::FN::FP::FQ::Gz::G5::G6::BZ::Ba::Bb::Bc::Bd::Bf::Bg::Bh::Bj::Bl::Bn::Bo::Bp::CS::CU::CV::CW::CX::CY::Bz::B_::CB::CF::CG::CJ::BL::BF::BM::BN::BO::BP::BQ::BR::BS::(.slice Ab x.b.length cb)::(.int .i64 x.b.length)::(.int .i64 0)::FW::u138::u139::FX::FY::FZ::Fa::Fb::Fe::Fg::Fh::Fj::Fp::Cb::Cc::Ce::Cg::Ch::Ci::Cj::Ck::Cm::Bt::Cn::Co::Cq::Cr::Ct::Cu::Cv::Cw::Cx::Cy::Cz::C8::C9::C_::DC::Bu:: [])),[]⟩ wr:=by
 refine wp_loop (fun a wx=> ∃(v22 u24 FW u138 u139 FX FY FZ Fa Fb Fe Fg Fh Fj Fp:Value) (k:Nat),k≤x.b.length∧(Below ws.heap.size ws wx∧wx.ownsRow ws.heap.size 5 1 v22 (2*k) ((KJ (x.b.take k)).map bv))∧a=⟨(List.toArray (s0::(.pointer (some ⟨w.heap.size,0,none⟩))::s2::s3::s4::(.pointer (some ⟨w2.heap.size,0,none⟩))::(.func (.func 28) #[] #[.pointer (some ⟨w2.heap.size,0,none⟩)])::s7::s8::s9::s10::s11::s12::s13::Fw::s15::s16::En::EN::GZ::s20::Eo::v22::EO::u24::EP::Ep::Ea::Eb::Ec::Ed::E9::E_::FB::FC::FD::FE::G7::G8::G9::G_::Hf::Hl::s43::s44::Ho::Hq::Hw::GI::s49::Hz::H_::IB::s53::Gh::Gi::Gj::Gl::Gm::Gn::Gp::Gq::Gs::Gt::Gu::Gv::Ee::Er::s68::Fx::Fy::Fz::s72::F4::F5::F6::F7::F8::F9::GA::GD::GH::s82::s83::Gw::Gx::Gy::s87::FH::FI::FJ::FK::FL::FM::FN::FP::FQ::Gz::G5::G6::BZ::Ba::Bb::Bc::Bd::Bf::Bg::Bh::Bj::Bl::Bn::Bo::Bp::CS::CU::CV::CW::CX::CY::Bz::B_::CB::CF::CG::CJ::BL::BF::BM::BN::BO::BP::BQ::BR::BS::(.slice Ab x.b.length cb)::(.int .i64 x.b.length)::(.int .i64 k)::FW::u138::u139::FX::FY::FZ::Fa::Fb::Fe::Fg::Fh::Fj::Fp::Cb::Cc::Ce::Cg::Ch::Ci::Cj::Ck::Cm::Bt::Cn::Co::Cq::Cr::Ct::Cu::Cv::Cw::Cx::Cy::Cz::C8::C9::C_::DC::Bu:: [])),[]⟩) (fun a _=>x.b.length-(intOf (a.tmps.getD 136 undef)).toNat) ?_ ?_
 ·exact⟨v22,u24,FW,u138,u139,FX,FY,FZ,Fa,Fb,Fe,Fg,Fh,Fj,Fp,0,Nat.zero_le _,by first | exact HP.out | (rw [List.take_zero,List.flatMap_nil,List.append_nil];exact HP.out),rfl⟩
 ·intro a wx hI
  obtain⟨v22,hI⟩:=hI
  obtain⟨u24,hI⟩:=hI
  obtain⟨FW,hI⟩:=hI
  obtain⟨u138,hI⟩:=hI
  obtain⟨u139,hI⟩:=hI
  obtain⟨FX,hI⟩:=hI
  obtain⟨FY,hI⟩:=hI
  obtain⟨FZ,hI⟩:=hI
  obtain⟨Fa,hI⟩:=hI
  obtain⟨Fb,hI⟩:=hI
  obtain⟨Fe,hI⟩:=hI
  obtain⟨Fg,hI⟩:=hI
  obtain⟨Fh,hI⟩:=hI
  obtain⟨Fj,hI⟩:=hI
  obtain⟨Fp,hI⟩:=hI
  obtain⟨k,hk,hp,rfl⟩:=hI
  refine V4 C Hb hbl ws Hws _ hk (AA hp) _ _ _ _ _ _ _ _ _ _ _ _ _ _ _ _ _ _ _ _ _ _ _ _ _ _ _ _ _ _ _ _ _ _ _ _ _ _ _ _ _ _ _ _ _ _ _ _ _ _ _ _ _ _ _ _ _ _ _ _ _ _ _ _ _ _ _ _ _ _ _ _ _ _ _ _ _ _ _ _ _ _ _ _ _ _ _ _ _ _ _ _ _ _ _ _ _ _ _ _ _ _ _ _ _ _ _ _ _ _ _ _ _ _ _ _ _ _ _ _ _ _ _ _ _ _ _ _ _ _ _ _ _ _ _ _ _ _ _ _ _ _ _ _ _ _ _ _ _ _ _ _ _ _ _ _ _ _ _ _ _ _ _ _ _ _ _ _ _ _ _ (AA ?_) HX
  intro v22 u24 FW u138 u139 FX FY FZ Fa Fb Fe Fg Fh Fj Fp wy hlt hp2
  refine⟨⟨v22,u24,FW,u138,u139,FX,FY,FZ,Fa,Fb,Fe,Fg,Fh,Fj,Fp,k+1,hlt,hp2,rfl⟩,?_⟩
  show x.b.length-(intOf (.int .i64 ((k+1:Nat):Int))).toNat<x.b.length-(intOf (.int .i64 (k:Int))).toNat
  simp [intOf]
  omega
theorem VQ {W:World} {base:Nat} {e:TypeId} {A:Option Addr} {n c:Nat} {xs:List Value} (h:W.ownsRow base e 1 (.slice A n c) n xs):Row W W.heap.size A xs:=by
 intro hn
 rcases h.2 with⟨_,h0⟩ | ⟨g,cap,cur,hv,_,hg,_⟩
 ·have:=h.1
  omega
 ·injection hv with e1
  subst e1
  refine⟨g,0,rfl,(Array.getElem?_eq_some_iff.1 hg).1,fun j u hu=> ?_⟩
  have:=h.cells (g:=g) rfl j u hu
  rwa [Addr.add_lit] at this
theorem VR (l:List UInt8):(KJ l).length=2*l.length:=by
 unfold KJ
 induction l with
 | nil=>rfl
 | cons a l ih=>rw [List.flatMap_cons,List.length_append,ih];simp;omega
set_option maxRecDepth 1000000 in
theorem VT {w w2:World} {hi hj:Nat} {m:AP} {A1 A2 A3 A6 A7 A8:Option Addr} {c1 c2 c3 c6 c7 c8:Nat} (C:Hid (Ot w w2 hi hj m A1 c1 A2 c2 A3 c3 A6 c6 A7 c7 A8 c8)) {k:Nat} {wr:World} (hk:k≤m.dat.length) (HP:Hid (PR w2 wr (bV m++(m.dat.take k).flatMap R5)))
 (s0 s2 s3 s4 s7 s8 s9 s10 s11 s12 s13 Fw s15 s16 En EN GZ s20 EO EP Ep Ea Eb Ec Ed E9 E_ FB FC FD FE G7 G8 G9 G_ Hf Hl s43 s44 Ho Hq Hw GI s49 Hz H_ IB s53 Gh Gi Gj Gl Gm Gn Gp Gq Gs Gt Gu Gv Ee Er s68 Fx Fy Fz s72 F4 F5 F6 F7 F8 F9 GA GD GH s82 s83 Gw Gx Gy s87 FH FI FJ FK FL FM FN FP FQ Gz G5 G6 BZ Ba Bb Bc Bd Bf Bg Bh Bj Bl Bn Bo Bp CS CU CV CW CX CY Bz B_ CB CF CG CJ BL BF Bt Cn Co Cq Cr Ct Cu Cv Cw Cx Cy Cz C8 C9 C_ DC Bu u21 u22 u24 Kg u131 Kh Ki Kj Kk Kl FW u138 u139 FX FY FZ Fa Fb Fe Fg Fh Fj Fp Km Kn u152 Ko u154 Kq Kr Kt Ku:Value) (K:Act→World→Prop) (Q:Exit→Act→World→Prop) (HK:Hid (∀(u21 u22 u24 Kg u131 Kh Ki Kj Kk Kl FW u138 u139 FX FY FZ Fa Fb Fe Fg Fh Fj Fp Km Kn u152 Ko u154 Kq Kr Kt Ku:Value) (wx:World),k<m.dat.length→PR w2 wx (bV m++(m.dat.take (k+1)).flatMap R5)→K ⟨(List.toArray (s0::(.pointer (some ⟨w.heap.size,0,none⟩))::s2::s3::s4::(.pointer (some ⟨w2.heap.size,0,none⟩))::(.func (.func 28) #[] #[.pointer (some ⟨w2.heap.size,0,none⟩)])::s7::s8::s9::s10::s11::s12::s13::Fw::s15::s16::En::EN::GZ::s20::u21::u22::EO::u24::EP::Ep::Ea::Eb::Ec::Ed::E9::E_::FB::FC::FD::FE::G7::G8::G9::G_::Hf::Hl::s43::s44::Ho::Hq::Hw::GI::s49::Hz::H_::IB::s53::Gh::Gi::Gj::Gl::Gm::Gn::Gp::Gq::Gs::Gt::Gu::Gv::Ee::Er::s68::Fx::Fy::Fz::s72::F4::F5::F6::F7::F8::F9::GA::GD::GH::s82::s83::Gw::Gx::Gy::s87::FH::FI::FJ::FK::FL::FM::FN::FP::FQ::Gz::G5::G6::BZ::Ba::Bb::Bc::Bd::Bf::Bg::Bh::Bj::Bl::Bn::Bo::Bp::CS::CU::CV::CW::CX::CY::Bz::B_::CB::CF::CG::CJ::BL::BF::(.slice A7 m.dat.length c7)::(.int .i64 m.dat.length)::(.int .i64 ((k:Int)+1))::Kg::u131::Kh::Ki::Kj::Kk::Kl::FW::u138::u139::FX::FY::FZ::Fa::Fb::Fe::Fg::Fh::Fj::Fp::Km::Kn::u152::Ko::u154::Kq::Kr::Kt::Ku::Bt::Cn::Co::Cq::Cr::Ct::Cu::Cv::Cw::Cx::Cy::Cz::C8::C9::C_::DC::Bu:: [])),[]⟩ wx)) (HX:Hid (∀(u21 u22 u24 Kg u131 Kh Ki Kj Kk Kl FW u138 u139 FX FY FZ Fa Fb Fe Fg Fh Fj Fp Km Kn u152 Ko u154 Kq Kr Kt Ku:Value) (wx:World),PR w2 wx (bW m)→Q (.exit 10) ⟨(List.toArray (s0::(.pointer (some ⟨w.heap.size,0,none⟩))::s2::s3::s4::(.pointer (some ⟨w2.heap.size,0,none⟩))::(.func (.func 28) #[] #[.pointer (some ⟨w2.heap.size,0,none⟩)])::s7::s8::s9::s10::s11::s12::s13::Fw::s15::s16::En::EN::GZ::s20::u21::u22::EO::u24::EP::Ep::Ea::Eb::Ec::Ed::E9::E_::FB::FC::FD::FE::G7::G8::G9::G_::Hf::Hl::s43::s44::Ho::Hq::Hw::GI::s49::Hz::H_::IB::s53::Gh::Gi::Gj::Gl::Gm::Gn::Gp::Gq::Gs::Gt::Gu::Gv::Ee::Er::s68::Fx::Fy::Fz::s72::F4::F5::F6::F7::F8::F9::GA::GD::GH::s82::s83::Gw::Gx::Gy::s87::FH::FI::FJ::FK::FL::FM::FN::FP::FQ::Gz::G5::G6::BZ::Ba::Bb::Bc::Bd::Bf::Bg::Bh::Bj::Bl::Bn::Bo::Bp::CS::CU::CV::CW::CX::CY::Bz::B_::CB::CF::CG::CJ::BL::BF::(.slice A7 m.dat.length c7)::(.int .i64 m.dat.length)::(.int .i64 m.dat.length)::Kg::u131::Kh::Ki::Kj::Kk::Kl::FW::u138::u139::FX::FY::FZ::Fa::Fb::Fe::Fg::Fh::Fj::Fp::Km::Kn::u152::Ko::u154::Kq::Kr::Kt::Ku::Bt::Cn::Co::Cq::Cr::Ct::Cu::Cv::Cw::Cx::Cy::Cz::C8::C9::C_::DC::Bu:: [])),[]⟩ wx)):
 Code.wp prog (I9 4) (Exit.then K Q) ⟨(List.toArray (s0::(.pointer (some ⟨w.heap.size,0,none⟩))::s2::s3::s4::(.pointer (some ⟨w2.heap.size,0,none⟩))::(.func (.func 28) #[] #[.pointer (some ⟨w2.heap.size,0,none⟩)])::s7::s8::s9::s10::s11::s12::s13::Fw::s15::s16::En::EN::GZ::s20::u21::u22::EO::u24::EP::Ep::Ea::Eb::Ec::Ed::E9::E_::FB::FC::FD::FE::G7::G8::G9::G_::Hf::Hl::s43::s44::Ho::Hq::Hw::GI::s49::Hz::H_::IB::s53::Gh::Gi::Gj::Gl::Gm::Gn::Gp::Gq::Gs::Gt::Gu::Gv::Ee::Er::s68::Fx::Fy::Fz::s72::F4::F5::F6::F7::F8::F9::GA::GD::GH::s82::s83::Gw::Gx::Gy::s87::FH::FI::FJ::FK::FL::FM::FN::FP::FQ::Gz::G5::G6::BZ::Ba::Bb::Bc::Bd::Bf::Bg::Bh::Bj::Bl::Bn::Bo::Bp::CS::CU::CV::CW::CX::CY::Bz::B_::CB::CF::CG::CJ::BL::BF::(.slice A7 m.dat.length c7)::(.int .i64 m.dat.length)::(.int .i64 k)::Kg::u131::Kh::Ki::Kj::Kk::Kl::FW::u138::u139::FX::FY::FZ::Fa::Fb::Fe::Fg::Fh::Fj::Fp::Km::Kn::u152::Ko::u154::Kq::Kr::Kt::Ku::Bt::Cn::Co::Cq::Cr::Ct::Cu::Cv::Cw::Cx::Cy::Cz::C8::C9::C_::DC::Bu:: [])),[]⟩ wr:=by
 conv=>arg 2;whnf
 have J_:=AA (C.out.IE.trans (HP.out.IE.mono C.out.IE.size))
 have hsz:w2.heap.size≤wr.heap.size:=HP.out.IE.size
 have hsw:w.heap.size<w2.heap.size:=C.out.lt
 have iK:w2.heap.size<wr.heap.size:=by obtain⟨_,_,hb⟩:=HP.out.YR;exact hb.blk.lt
 have hhi:=C.out.hhi
 have Ms:=C.out.Ms
 have hk0:(0:Int)≤k:=by omega
 by_cases hlt:k<m.dat.length
 ·obtain⟨x,hx⟩: ∃x,m.dat[k]?=some x:=⟨_,List.getElem?_eq_getElem hlt⟩
  have KU:decide ((k:Int)<m.dat.length)=true:=decide_eq_true (by omega)
  have oq:m.dat.length≤2147483647:=by have:=C.out.few;unfold Ap at this;omega
  obtain⟨bk,ok,Vh,Tz,rfl,_,Nw,hc0,hc1,NH,hbr⟩:=NW C.out.h7 hx
  have hc0:=(J_.out.cell (p:=⟨bk,ok+k*2,none⟩) (show bk<w.heap.size by omega)).trans hc0
  have hc1:=(J_.out.cell (p:=⟨bk,ok+k*2+1,none⟩) (show bk<w.heap.size by omega)).trans hc1
  have NS:=AA (Jb (bV m) R5 hx)
  have MG:=AA (GL (bV m) R5 hx)
  have N8:(bV m++m.dat.flatMap R5).length≤1048576:=by have:=VN m C.out.le;first | exact this.2.1 | exact this.2.2.1 | exact this.2.2.2.1 | exact this.2.2.2.2.1 | exact this.2.2.2.2.2.1 | exact this.2.2.2.2.2.2.1 | exact this.2.2.2.2.2.2.2
  have uO:=AA (List.mem_of_getElem? hx)
  clear hx
  have hfl:=uN uO.out C.out.few
  have HCD:=AA hbr
  clear HX
  go_upto_region 40 with fail
  generalize hw3:World.alloc _ _=w3
  have hb3:Below wr.heap.size wr w3:=by rw [←hw3];exact(Below.refl _ _).alloc (Nat.le_refl _) _
  have IX:AL w3 wr.heap.size 59 [.int .i64 x.at_,.slice Vh x.b.length Tz]:=by rw [←hw3];exact AL.new wr _ _
  have hs3:wr.heap.size<w3.heap.size:=IX.lt
  have a0:=IX.q 0 rfl;have a1:=IX.q 1 rfl
  have Vz:=AA IX;have HB3:=AA hb3
  have Z5:Hid (∀W,Below wr.heap.size wr W→Dv hj W):=AA (fun W hW=>C.out.env.to ((J_.out.trans (hW.mono (Nat.le_of_lt (Nat.lt_of_lt_of_le hsw hsz)))).mono Ms))
  have HW3:=AA (J_.out.trans (hb3.mono (Nat.le_of_lt (Nat.lt_of_lt_of_le hsw hsz))))
  clear hw3 hc0 hc1 hb3 IX
  go_wp2_with fail
  refine uR C (x:=x) HCD hfl w3 HW3 _ (AA ⟨Below.refl _ _,World.ownsRow_nil _ _ _ _⟩) _ _ _ _ _ _ _ _ _ _ _ _ _ _ _ _ _ _ _ _ _ _ _ _ _ _ _ _ _ _ _ _ _ _ _ _ _ _ _ _ _ _ _ _ _ _ _ _ _ _ _ _ _ _ _ _ _ _ _ _ _ _ _ _ _ _ _ _ _ _ _ _ _ _ _ _ _ _ _ _ _ _ _ _ _ _ _ _ _ _ _ _ _ _ _ _ _ _ _ _ _ _ _ _ _ _ _ _ _ _ _ _ _ _ _ _ _ _ _ _ _ _ _ _ _ _ _ _ _ _ _ _ _ _ _ _ _ _ _ _ _ _ _ _ _ _ _ _ _ _ _ _ _ _ _ _ _ _ _ _ _ _ _ _ _ _ _ _ _ _ (AA ?_)
  intro v22 v0_ v1_ v2_ v3_ v4_ v5_ v6_ v7_ v8_ v9_ v10_ v11_ v12_ v13_ wx hpx
  have hbx:=hpx.1
  have hox:=hpx.2
  have hsx:w3.heap.size≤wx.heap.size:=hbx.size
  obtain⟨A22,c22,rfl⟩:=LZ hox
  have hrow:=VQ hox
  have hmx:=Vz.out.below hbx hs3
  have g0:=hmx.q 0 rfl;have g1:=hmx.q 1 rfl
  have b0:=hmx.q 0 rfl;have b1:=hmx.q 1 rfl
  have HMX2:=AA hmx
  have o8:=AA (HB3.out.trans (hbx.mono (Nat.le_of_lt hs3)))
  have HOX:=AA hox
  have cvx:=Jv (P:=prog) 41 5 9 underlying41 underlying5 underlying9 wx _ A22 (2*x.b.length) c22 (KJ x.b) (VR x.b).symm hrow
  have cvd:=Jv (P:=prog) 41 5 9 underlying41 underlying5 underlying9 wx.drew _ A22 (2*x.b.length) c22 (KJ x.b) (VR x.b).symm hrow
  clear hpx hbx hox hmx hrow a0 a1
  go_upto_region 46 with fail
  refine wp_region_noPanic ?_
  go_region_with
   (first
    | (go_at_call 32;refine(Nr x.at_ NH wx.drew (Z5.out _ (o8.out.drew)) (by simp;omega)).mono ?_;rintro e wa ⟨hba,rfl⟩;have O9:=Am hba;have bY:wx.heap.size≤wa.heap.size:=O9.size;have hma:=HMX2.out.below O9 (by omega);have d0:=hma.q 0 rfl;have d1:=hma.q 1 rfl;have d0a: ∀o,(wa.alloc o).cell? ⟨wr.heap.size,0,none⟩=some (.int .i64 x.at_):=fun o=>(hma.alloc o).cell 0;have d1a: ∀o,(wa.alloc o).cell? ⟨wr.heap.size,1,none⟩=some (.slice Vh x.b.length Tz):=fun o=>(hma.alloc o).cell 1;have Vj:=AA (o8.out.trans (O9.mono (by omega)));have ji:=AA hma;have cva:=Jv (P:=prog) 41 5 9 underlying41 underlying5 underlying9 wa _ A22 (2*x.b.length) c22 (KJ x.b) (VR x.b).symm (VQ (BI HOX.out O9));clear hba O9 hma)
    | (go_at_call 28;refine(JM [M8,CK (Lib.itoa x.at_),CK (KJ x.b)] [Yf,Lib.itoa x.at_,KJ x.b] rfl 3 rfl _ wa (by simp) (HP.out.YR.below Vj.out) (by omega) (Nat.le_trans MG.out N8) (by decide)).mono ?_;rintro e w6 ⟨rfl,hA,hB,hK⟩;have Vk:=AA (PR.mk (HP.out.IE.trans ((Vj.out.mono hsz).trans hB)) (NS.out▸hA));have MC:=hK.blk ji.out (by omega) (by decide);have f0:=MC.q 0 rfl;have f1:=MC.q 1 rfl;clear hA hB hK MC))
  all_goals
   refine NoPanic.normal ?_
   go_wp2_with fail
   apply HK.out
   ·exact hlt
   ·exact Vk.out
 ·obtain rfl:k=m.dat.length:=by omega
  have KU:decide ((m.dat.length:Int)<m.dat.length)=false:=decide_eq_false (by omega)
  have Zc:Hid (PR w2 wr (bW m)):=AA (by have:=HP.out;rw [List.take_length] at this;exact this)
  clear HP HK
  go_wp2_with fail
  apply HX.out
  exact Zc.out
set_option maxRecDepth 1000000 in
theorem o9 {w w2:World} {hi hj:Nat} {m:AP} {A1 A2 A3 A6 A7 A8:Option Addr} {c1 c2 c3 c6 c7 c8:Nat} (C:Hid (Ot w w2 hi hj m A1 c1 A2 c2 A3 c3 A6 c6 A7 c7 A8 c8)) {wr:World} (HP:Hid (PR w2 wr (bV m)))
 (s0 s2 s3 s4 s7 s8 s9 s10 s11 s12 s13 Fw s15 s16 En EN GZ s20 EO EP Ep Ea Eb Ec Ed E9 E_ FB FC FD FE G7 G8 G9 G_ Hf Hl s43 s44 Ho Hq Hw GI s49 Hz H_ IB s53 Gh Gi Gj Gl Gm Gn Gp Gq Gs Gt Gu Gv Ee Er s68 Fx Fy Fz s72 F4 F5 F6 F7 F8 F9 GA GD GH s82 s83 Gw Gx Gy s87 FH FI FJ FK FL FM FN FP FQ Gz G5 G6 BZ Ba Bb Bc Bd Bf Bg Bh Bj Bl Bn Bo Bp CS CU CV CW CX CY Bz B_ CB CF CG CJ BL BF Bt Cn Co Cq Cr Ct Cu Cv Cw Cx Cy Cz C8 C9 C_ DC Bu u21 u22 u24 Kg u131 Kh Ki Kj Kk Kl FW u138 u139 FX FY FZ Fa Fb Fe Fg Fh Fj Fp Km Kn u152 Ko u154 Kq Kr Kt Ku:Value) (Q0:Exit→Act→World→Prop) (HX:Hid (∀(u21 u22 u24 Kg u131 Kh Ki Kj Kk Kl FW u138 u139 FX FY FZ Fa Fb Fe Fg Fh Fj Fp Km Kn u152 Ko u154 Kq Kr Kt Ku:Value) (wx:World),PR w2 wx (bW m)→Q0 (.exit 10) ⟨(List.toArray (s0::(.pointer (some ⟨w.heap.size,0,none⟩))::s2::s3::s4::(.pointer (some ⟨w2.heap.size,0,none⟩))::(.func (.func 28) #[] #[.pointer (some ⟨w2.heap.size,0,none⟩)])::s7::s8::s9::s10::s11::s12::s13::Fw::s15::s16::En::EN::GZ::s20::u21::u22::EO::u24::EP::Ep::Ea::Eb::Ec::Ed::E9::E_::FB::FC::FD::FE::G7::G8::G9::G_::Hf::Hl::s43::s44::Ho::Hq::Hw::GI::s49::Hz::H_::IB::s53::Gh::Gi::Gj::Gl::Gm::Gn::Gp::Gq::Gs::Gt::Gu::Gv::Ee::Er::s68::Fx::Fy::Fz::s72::F4::F5::F6::F7::F8::F9::GA::GD::GH::s82::s83::Gw::Gx::Gy::s87::FH::FI::FJ::FK::FL::FM::FN::FP::FQ::Gz::G5::G6::BZ::Ba::Bb::Bc::Bd::Bf::Bg::Bh::Bj::Bl::Bn::Bo::Bp::CS::CU::CV::CW::CX::CY::Bz::B_::CB::CF::CG::CJ::BL::BF::(.slice A7 m.dat.length c7)::(.int .i64 m.dat.length)::(.int .i64 m.dat.length)::Kg::u131::Kh::Ki::Kj::Kk::Kl::FW::u138::u139::FX::FY::FZ::Fa::Fb::Fe::Fg::Fh::Fj::Fp::Km::Kn::u152::Ko::u154::Kq::Kr::Kt::Ku::Bt::Cn::Co::Cq::Cr::Ct::Cu::Cv::Cw::Cx::Cy::Cz::C8::C9::C_::DC::Bu:: [])),[]⟩ wx)):
 Code.wp prog (Code.loop (I9 4)) Q0 ⟨(List.toArray (s0::(.pointer (some ⟨w.heap.size,0,none⟩))::s2::s3::s4::(.pointer (some ⟨w2.heap.size,0,none⟩))::(.func (.func 28) #[] #[.pointer (some ⟨w2.heap.size,0,none⟩)])::s7::s8::s9::s10::s11::s12::s13::Fw::s15::s16::En::EN::GZ::s20::u21::u22::EO::u24::EP::Ep::Ea::Eb::Ec::Ed::E9::E_::FB::FC::FD::FE::G7::G8::G9::G_::Hf::Hl::s43::s44::Ho::Hq::Hw::GI::s49::Hz::H_::IB::s53::Gh::Gi::Gj::Gl::Gm::Gn::Gp::Gq::Gs::Gt::Gu::Gv::Ee::Er::s68::Fx::Fy::Fz::s72::F4::F5::F6::F7::F8::F9::GA::GD::GH::s82::s83::Gw::Gx::Gy::s87::FH::FI::FJ::FK::FL::FM::FN::FP::FQ::Gz::G5::G6::BZ::Ba::Bb::Bc::Bd::Bf::Bg::Bh::Bj::Bl::Bn::Bo::Bp::CS::CU::CV::CW::CX::CY::Bz::B_::CB::CF::CG::CJ::BL::BF::(.slice A7 m.dat.length c7)::(.int .i64 m.dat.length)::(.int .i64 0)::Kg::u131::Kh::Ki::Kj::Kk::Kl::FW::u138::u139::FX::FY::FZ::Fa::Fb::Fe::Fg::Fh::Fj::Fp::Km::Kn::u152::Ko::u154::Kq::Kr::Kt::Ku::Bt::Cn::Co::Cq::Cr::Ct::Cu::Cv::Cw::Cx::Cy::Cz::C8::C9::C_::DC::Bu:: [])),[]⟩ wr:=by
 refine wp_loop (fun a wx=> ∃(u21 u22 u24 Kg u131 Kh Ki Kj Kk Kl FW u138 u139 FX FY FZ Fa Fb Fe Fg Fh Fj Fp Km Kn u152 Ko u154 Kq Kr Kt Ku:Value) (k:Nat),k≤m.dat.length∧PR w2 wx (bV m++(m.dat.take k).flatMap R5)∧a=⟨(List.toArray (s0::(.pointer (some ⟨w.heap.size,0,none⟩))::s2::s3::s4::(.pointer (some ⟨w2.heap.size,0,none⟩))::(.func (.func 28) #[] #[.pointer (some ⟨w2.heap.size,0,none⟩)])::s7::s8::s9::s10::s11::s12::s13::Fw::s15::s16::En::EN::GZ::s20::u21::u22::EO::u24::EP::Ep::Ea::Eb::Ec::Ed::E9::E_::FB::FC::FD::FE::G7::G8::G9::G_::Hf::Hl::s43::s44::Ho::Hq::Hw::GI::s49::Hz::H_::IB::s53::Gh::Gi::Gj::Gl::Gm::Gn::Gp::Gq::Gs::Gt::Gu::Gv::Ee::Er::s68::Fx::Fy::Fz::s72::F4::F5::F6::F7::F8::F9::GA::GD::GH::s82::s83::Gw::Gx::Gy::s87::FH::FI::FJ::FK::FL::FM::FN::FP::FQ::Gz::G5::G6::BZ::Ba::Bb::Bc::Bd::Bf::Bg::Bh::Bj::Bl::Bn::Bo::Bp::CS::CU::CV::CW::CX::CY::Bz::B_::CB::CF::CG::CJ::BL::BF::(.slice A7 m.dat.length c7)::(.int .i64 m.dat.length)::(.int .i64 k)::Kg::u131::Kh::Ki::Kj::Kk::Kl::FW::u138::u139::FX::FY::FZ::Fa::Fb::Fe::Fg::Fh::Fj::Fp::Km::Kn::u152::Ko::u154::Kq::Kr::Kt::Ku::Bt::Cn::Co::Cq::Cr::Ct::Cu::Cv::Cw::Cx::Cy::Cz::C8::C9::C_::DC::Bu:: [])),[]⟩) (fun a _=>m.dat.length-(intOf (a.tmps.getD 129 undef)).toNat) ?_ ?_
 ·exact⟨u21,u22,u24,Kg,u131,Kh,Ki,Kj,Kk,Kl,FW,u138,u139,FX,FY,FZ,Fa,Fb,Fe,Fg,Fh,Fj,Fp,Km,Kn,u152,Ko,u154,Kq,Kr,Kt,Ku,0,Nat.zero_le _,by rw [List.take_zero,List.flatMap_nil,List.append_nil];exact HP.out,rfl⟩
 ·intro a wx hI
  obtain⟨u21,hI⟩:=hI
  obtain⟨u22,hI⟩:=hI
  obtain⟨u24,hI⟩:=hI
  obtain⟨Kg,hI⟩:=hI
  obtain⟨u131,hI⟩:=hI
  obtain⟨Kh,hI⟩:=hI
  obtain⟨Ki,hI⟩:=hI
  obtain⟨Kj,hI⟩:=hI
  obtain⟨Kk,hI⟩:=hI
  obtain⟨Kl,hI⟩:=hI
  obtain⟨FW,hI⟩:=hI
  obtain⟨u138,hI⟩:=hI
  obtain⟨u139,hI⟩:=hI
  obtain⟨FX,hI⟩:=hI
  obtain⟨FY,hI⟩:=hI
  obtain⟨FZ,hI⟩:=hI
  obtain⟨Fa,hI⟩:=hI
  obtain⟨Fb,hI⟩:=hI
  obtain⟨Fe,hI⟩:=hI
  obtain⟨Fg,hI⟩:=hI
  obtain⟨Fh,hI⟩:=hI
  obtain⟨Fj,hI⟩:=hI
  obtain⟨Fp,hI⟩:=hI
  obtain⟨Km,hI⟩:=hI
  obtain⟨Kn,hI⟩:=hI
  obtain⟨u152,hI⟩:=hI
  obtain⟨Ko,hI⟩:=hI
  obtain⟨u154,hI⟩:=hI
  obtain⟨Kq,hI⟩:=hI
  obtain⟨Kr,hI⟩:=hI
  obtain⟨Kt,hI⟩:=hI
  obtain⟨Ku,hI⟩:=hI
  obtain⟨k,hk,hp,rfl⟩:=hI
  refine VT C hk (AA hp) _ _ _ _ _ _ _ _ _ _ _ _ _ _ _ _ _ _ _ _ _ _ _ _ _ _ _ _ _ _ _ _ _ _ _ _ _ _ _ _ _ _ _ _ _ _ _ _ _ _ _ _ _ _ _ _ _ _ _ _ _ _ _ _ _ _ _ _ _ _ _ _ _ _ _ _ _ _ _ _ _ _ _ _ _ _ _ _ _ _ _ _ _ _ _ _ _ _ _ _ _ _ _ _ _ _ _ _ _ _ _ _ _ _ _ _ _ _ _ _ _ _ _ _ _ _ _ _ _ _ _ _ _ _ _ _ _ _ _ _ _ _ _ _ _ _ _ _ _ _ _ _ _ _ _ _ _ _ _ _ _ _ _ _ _ _ _ _ _ _ _ _ (AA ?_) HX
  intro u21 u22 u24 Kg u131 Kh Ki Kj Kk Kl FW u138 u139 FX FY FZ Fa Fb Fe Fg Fh Fj Fp Km Kn u152 Ko u154 Kq Kr Kt Ku wy hlt hp2
  refine⟨⟨u21,u22,u24,Kg,u131,Kh,Ki,Kj,Kk,Kl,FW,u138,u139,FX,FY,FZ,Fa,Fb,Fe,Fg,Fh,Fj,Fp,Km,Kn,u152,Ko,u154,Kq,Kr,Kt,Ku,k+1,hlt,hp2,rfl⟩,?_⟩
  show m.dat.length-(intOf (.int .i64 ((k+1:Nat):Int))).toNat<m.dat.length-(intOf (.int .i64 (k:Int))).toNat
  simp [intOf]
  omega
end Go.Proofs.YtejbcledkhioeaaGreatDoor
