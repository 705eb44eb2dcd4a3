/- Part 31 of the proof: PrtE PrtF -/
import Derived.Test.YtejbcledkhioeaaGreatDoorQ29
namespace Go.Proofs.YtejbcledkhioeaaGreatDoor
set_option linter.unusedVariables false
set_option linter.unusedSimpArgs false
set_option maxRecDepth 100000
set_option maxHeartbeats 4000000
open Go.RowKit Tryz
set_option maxRecDepth 1000000 in
theorem Ti {w w2:World} {hi hj:Nat} {m:AP} {A1 A2 A3 A6 A7 A8:Option Addr} {c1 c2 c3 c6 c7 c8:Nat} (C:Hid (Ot w w2 hi hj m A1 c1 A2 c2 A3 c3 A6 c6 A7 c7 A8 c8)) {k:Nat} {wr:World} (hk:k≤m.globs.length) (HP:Hid (PR w2 wr (bU m++(m.globs.take k).flatMap JH)))
 (s0 s2 s3 s4 s7 s8 s9 s10 s11 s12 s13 s16 En EN GZ s20 Eo Ga EO s24 EP Ep Ea Eb Ec Ed E9 E_ FB FC FD FE G7 G8 G9 G_ Hf Hl s43 s44 Ho Hq Hw GI s49 Hz H_ IB s53 Gh Gi Gj Gl Gm Gn Gp Gq Gs Gt Gu Gv Ee s87 FH FI FJ FK FL FM FN FP FQ Gz G5 G6 BZ Ba Bb Bc Bd Bf Bg Bh Bj Bl Bn Bo Bp CS CU CV CW CX CY Bz B_ CB CF CG CJ BL BF BM BN BO BP BQ BR BS DX DY DZ Da Db Dc Df Dh Di Dj Dk Dl Dm Dn Dp Dq Cb Cc Ce Cg Ch Ci Cj Ck Cm Bt Cn Co Cq Cr Ct Cu Cv Cw Cx Cy Cz C8 C9 C_ DC Bu Ov Ow u70 Ox u72 u73 Oy u75 Oz O1 O4 O5 O6 O7 Tj Tk Tn Tp O8:Value) (K:Act→World→Prop) (Q:Exit→Act→World→Prop) (HK:Hid (∀(Ov Ow u70 Ox u72 u73 Oy u75 Oz O1 O4 O5 O6 O7 Tj Tk Tn Tp O8:Value) (wx:World),k<m.globs.length→PR w2 wx (bU m++(m.globs.take (k+1)).flatMap JH)→K ⟨(List.toArray (s0::(.pointer (some ⟨w.heap.size,0,none⟩))::s2::s3::s4::(.pointer (some ⟨w2.heap.size,0,none⟩))::(.func (.func 28) #[] #[.pointer (some ⟨w2.heap.size,0,none⟩)])::s7::s8::s9::s10::s11::s12::s13::Ov::Ow::s16::En::EN::GZ::s20::Eo::Ga::EO::s24::EP::Ep::Ea::Eb::Ec::Ed::E9::E_::FB::FC::FD::FE::G7::G8::G9::G_::Hf::Hl::s43::s44::Ho::Hq::Hw::GI::s49::Hz::H_::IB::s53::Gh::Gi::Gj::Gl::Gm::Gn::Gp::Gq::Gs::Gt::Gu::Gv::Ee::(.slice A3 m.globs.length c3)::(.int .i64 m.globs.length)::(.int .i64 ((k:Int)+1))::u70::Ox::u72::u73::Oy::u75::Oz::O1::O4::O5::O6::O7::Tj::Tk::Tn::Tp::O8::s87::FH::FI::FJ::FK::FL::FM::FN::FP::FQ::Gz::G5::G6::BZ::Ba::Bb::Bc::Bd::Bf::Bg::Bh::Bj::Bl::Bn::Bo::Bp::CS::CU::CV::CW::CX::CY::Bz::B_::CB::CF::CG::CJ::BL::BF::BM::BN::BO::BP::BQ::BR::BS::DX::DY::DZ::Da::Db::Dc::Df::Dh::Di::Dj::Dk::Dl::Dm::Dn::Dp::Dq::Cb::Cc::Ce::Cg::Ch::Ci::Cj::Ck::Cm::Bt::Cn::Co::Cq::Cr::Ct::Cu::Cv::Cw::Cx::Cy::Cz::C8::C9::C_::DC::Bu:: [])),[]⟩ wx)) (HX:Hid (∀(Ov Ow u70 Ox u72 u73 Oy u75 Oz O1 O4 O5 O6 O7 Tj Tk Tn Tp O8:Value) (wx:World),PR w2 wx (wP m)→Q (.exit 4) ⟨(List.toArray (s0::(.pointer (some ⟨w.heap.size,0,none⟩))::s2::s3::s4::(.pointer (some ⟨w2.heap.size,0,none⟩))::(.func (.func 28) #[] #[.pointer (some ⟨w2.heap.size,0,none⟩)])::s7::s8::s9::s10::s11::s12::s13::Ov::Ow::s16::En::EN::GZ::s20::Eo::Ga::EO::s24::EP::Ep::Ea::Eb::Ec::Ed::E9::E_::FB::FC::FD::FE::G7::G8::G9::G_::Hf::Hl::s43::s44::Ho::Hq::Hw::GI::s49::Hz::H_::IB::s53::Gh::Gi::Gj::Gl::Gm::Gn::Gp::Gq::Gs::Gt::Gu::Gv::Ee::(.slice A3 m.globs.length c3)::(.int .i64 m.globs.length)::(.int .i64 m.globs.length)::u70::Ox::u72::u73::Oy::u75::Oz::O1::O4::O5::O6::O7::Tj::Tk::Tn::Tp::O8::s87::FH::FI::FJ::FK::FL::FM::FN::FP::FQ::Gz::G5::G6::BZ::Ba::Bb::Bc::Bd::Bf::Bg::Bh::Bj::Bl::Bn::Bo::Bp::CS::CU::CV::CW::CX::CY::Bz::B_::CB::CF::CG::CJ::BL::BF::BM::BN::BO::BP::BQ::BR::BS::DX::DY::DZ::Da::Db::Dc::Df::Dh::Di::Dj::Dk::Dl::Dm::Dn::Dp::Dq::Cb::Cc::Ce::Cg::Ch::Ci::Cj::Ck::Cm::Bt::Cn::Co::Cq::Cr::Ct::Cu::Cv::Cw::Cx::Cy::Cz::C8::C9::C_::DC::Bu:: [])),[]⟩ wx)):
 Code.wp prog (I9 2) (Exit.then K Q) ⟨(List.toArray (s0::(.pointer (some ⟨w.heap.size,0,none⟩))::s2::s3::s4::(.pointer (some ⟨w2.heap.size,0,none⟩))::(.func (.func 28) #[] #[.pointer (some ⟨w2.heap.size,0,none⟩)])::s7::s8::s9::s10::s11::s12::s13::Ov::Ow::s16::En::EN::GZ::s20::Eo::Ga::EO::s24::EP::Ep::Ea::Eb::Ec::Ed::E9::E_::FB::FC::FD::FE::G7::G8::G9::G_::Hf::Hl::s43::s44::Ho::Hq::Hw::GI::s49::Hz::H_::IB::s53::Gh::Gi::Gj::Gl::Gm::Gn::Gp::Gq::Gs::Gt::Gu::Gv::Ee::(.slice A3 m.globs.length c3)::(.int .i64 m.globs.length)::(.int .i64 k)::u70::Ox::u72::u73::Oy::u75::Oz::O1::O4::O5::O6::O7::Tj::Tk::Tn::Tp::O8::s87::FH::FI::FJ::FK::FL::FM::FN::FP::FQ::Gz::G5::G6::BZ::Ba::Bb::Bc::Bd::Bf::Bg::Bh::Bj::Bl::Bn::Bo::Bp::CS::CU::CV::CW::CX::CY::Bz::B_::CB::CF::CG::CJ::BL::BF::BM::BN::BO::BP::BQ::BR::BS::DX::DY::DZ::Da::Db::Dc::Df::Dh::Di::Dj::Dk::Dl::Dm::Dn::Dp::Dq::Cb::Cc::Ce::Cg::Ch::Ci::Cj::Ck::Cm::Bt::Cn::Co::Cq::Cr::Ct::Cu::Cv::Cw::Cx::Cy::Cz::C8::C9::C_::DC::Bu:: [])),[]⟩ wr:=by
 conv=>arg 2;whnf
 have J_:=AA (C.out.IE.trans (HP.out.IE.mono C.out.IE.size))
 have hsz:w2.heap.size≤wr.heap.size:=HP.out.IE.size
 have hsw:w.heap.size<w2.heap.size:=C.out.lt
 have iK:w2.heap.size<wr.heap.size:=by obtain⟨_,_,hb⟩:=HP.out.YR;exact hb.blk.lt
 have hhi:=C.out.hhi
 have Ms:=C.out.Ms
 have hk0:(0:Int)≤k:=by omega
 by_cases hlt:k<m.globs.length
 ·obtain⟨x,hx⟩: ∃x,m.globs[k]?=some x:=⟨_,List.getElem?_eq_getElem hlt⟩
  have KU:decide ((k:Int)<m.globs.length)=true:=decide_eq_true (by omega)
  have oq:m.globs.length≤2147483647:=by have:=C.out.few;unfold Ap at this;omega
  obtain⟨bk,ok,rfl,_,Nw,hc0,hc1,hc2,hb64⟩:=OX (Rd.below C.out.h3 J_.out hhi) hx
  have NS:=AA (Jb (bU m) JH hx)
  have MG:=AA (GL (bU m) JH hx)
  have N8:(bU m++m.globs.flatMap JH).length≤1048576:=by have:=VN m C.out.le;first | exact this.2.1 | exact this.2.2.1 | exact this.2.2.2.1 | exact this.2.2.2.2.1 | exact this.2.2.2.2.2.1 | exact this.2.2.2.2.2.2.1 | exact this.2.2.2.2.2.2.2
  have uO:=AA (List.mem_of_getElem? hx)
  clear hx
  clear HX
  obtain⟨hn,hft,hvv⟩:=C.out.fine.globs x uO.out
  have hff:x.l.toNat=119→x.v<4294967296:=fun h=>by unfold Je at hft;rw [h] at hft;simpa using hft
  have HSB:Hid (Rd.ER (BK x)):=AA (Oh hvv hft)
  have wQ:=AA (fun W=>bS x W hvv hff)
  have hll:x.l=119∨x.l=108:=by
   unfold Qg at hn
   rw [Bool.or_eq_true,beq_iff_eq,beq_iff_eq] at hn
   rcases hn with h | h
   ·exact .inl (UInt8.toNat_inj.1 h)
   ·exact .inr (UInt8.toNat_inj.1 h)
  clear hn hft hff hvv
  rcases hll with hll | hll<;>cases hmu:x.m
  ·have hG:JH x=Bv [JK,[119],KZ,Lib.itoa (BK x)]:=by unfold JH;rw [hll,hmu];rfl
   have NS:=NS.out
   have MG:=MG.out
   rw [hG] at NS MG
   have NS:=AA NS
   have MG:=AA MG
   have HS:Hid (∀W,Calls prog 34 #[.agg #[.int .u8 119,.bool false,.int .u64 (x.v:Int)]] W fun e w'=>Below W.heap.size W w'∧e= .returned (.int .i64 (BK x))):=AA (fun W=>by have:=wQ.out W;rw [hll,hmu] at this;exact this)
   have h0:wr.cell? ⟨bk,ok+k*3,none⟩=some (.int .u8 119):=by rw [hc0,hll];rfl
   have h1:wr.cell? ⟨bk,ok+k*3+1,none⟩=some (.bool false):=by rw [hc1,hmu]
   clear hG hc0 hc1 wQ hll hmu
   go_upto_region 24 with fail
   generalize hw3:World.alloc _ _=w3
   have hb3:Below wr.heap.size wr w3:=by rw [←hw3];exact(Below.refl _ _).alloc (Nat.le_refl _) _
   have IX:AL w3 wr.heap.size 82 [.int .u8 119,.bool false,.int .u64 (x.v:Int)]:=by rw [←hw3];exact AL.new wr _ _
   have hs3:wr.heap.size<w3.heap.size:=IX.lt
   have a0:=IX.q 0 rfl;have a1:=IX.q 1 rfl;have a2:=IX.q 2 rfl
   have b0:=IX.q 0 rfl;have b1:=IX.q 1 rfl;have b2:=IX.q 2 rfl
   have Vz:=AA IX;have HB3:=AA hb3
   have Z5:Hid (∀W,Below wr.heap.size wr W→Dv hj W):=AA (fun W hW=>C.out.env.to ((J_.out.trans (hW.mono (Nat.le_of_lt (Nat.lt_of_lt_of_le hsw hsz)))).mono Ms))
   clear hw3 h0 h1 hc2 hb3 IX
   go_region_held3 (fun w'=>w'.cell? ⟨wr.heap.size,0,none⟩=some (.int .u8 119)∧w'.cell? ⟨wr.heap.size,1,none⟩=some (.bool false)∧w'.cell? ⟨wr.heap.size,2,none⟩=some (.int .u64 (x.v:Int)))
    (first | exact⟨a0,a1,a2⟩ | exact⟨b0,b1,b2⟩ | exact⟨d0,d1,d2⟩ | exact⟨e0,e1,e2⟩ | exact⟨zI _,zJ _,zK _⟩ | exact⟨f0,f1,f2⟩)
    (first
     | (go_at_call 34;refine(HS.out _).mono ?_;rintro e wa ⟨hba,rfl⟩;have O9:=Am hba;have bY:w3.heap.size≤wa.heap.size:=O9.size;have hma:=Vz.out.below O9 hs3;have d0:=hma.q 0 rfl;have d1:=hma.q 1 rfl;have d2:=hma.q 2 rfl;have Vj:=AA (HB3.out.trans (O9.mono (Nat.le_of_lt hs3)));have ji:=AA hma;clear hba O9 hma)
     | (go_at_call 33;refine(Lb (BK x) HSB.out wa (Z5.out _ Vj.out) (by omega)).mono ?_;rintro e wb ⟨hbb,rfl⟩;have uP:wa.heap.size≤wb.heap.size:=hbb.size;have hmb:=ji.out.below hbb (by omega);have e0:=hmb.q 0 rfl;have e1:=hmb.q 1 rfl;have e2:=hmb.q 2 rfl;have zI: ∀o,(wb.alloc o).cell? ⟨wr.heap.size,0,none⟩=some (.int .u8 119):=fun o=>(hmb.alloc o).cell 0;have zJ: ∀o,(wb.alloc o).cell? ⟨wr.heap.size,1,none⟩=some (.bool false):=fun o=>(hmb.alloc o).cell 1;have zK: ∀o,(wb.alloc o).cell? ⟨wr.heap.size,2,none⟩=some (.int .u64 (x.v:Int)):=fun o=>(hmb.alloc o).cell 2;have fO:=AA (Vj.out.trans (hbb.mono (by omega)));have wR:=AA hmb;clear hbb hmb)
     | (go_at_call 28;refine(JM [Et,⟨#[119]⟩,JV,CK (Lib.itoa (BK x))] [JK,[119],KZ,Lib.itoa (BK x)] (by rw [List.map_cons,List.map_cons,List.map_cons,List.map_cons,List.map_nil];simp [CK];exact⟨rfl,rfl⟩) 4 rfl _ wb (by simp) (HP.out.YR.below fO.out) (by omega) (Nat.le_trans MG.out N8) (by decide)).mono ?_;rintro e w6 ⟨rfl,hA,hB,hK⟩;have Vk:=AA (PR.mk (HP.out.IE.trans ((fO.out.mono hsz).trans hB)) (NS.out▸hA));have MC:=hK.blk wR.out (by omega) (by decide);have f0:=MC.q 0 rfl;have f1:=MC.q 1 rfl;have f2:=MC.q 2 rfl;clear hA hB hK MC))
   go_wp2_with fail
   apply HK.out
   ·exact hlt
   ·exact Vk.out
  ·have hG:JH x=Bv [JK,[119],TT,Lib.itoa (BK x)]:=by unfold JH;rw [hll,hmu];rfl
   have NS:=NS.out
   have MG:=MG.out
   rw [hG] at NS MG
   have NS:=AA NS
   have MG:=AA MG
   have HS:Hid (∀W,Calls prog 34 #[.agg #[.int .u8 119,.bool true,.int .u64 (x.v:Int)]] W fun e w'=>Below W.heap.size W w'∧e= .returned (.int .i64 (BK x))):=AA (fun W=>by have:=wQ.out W;rw [hll,hmu] at this;exact this)
   have h0:wr.cell? ⟨bk,ok+k*3,none⟩=some (.int .u8 119):=by rw [hc0,hll];rfl
   have h1:wr.cell? ⟨bk,ok+k*3+1,none⟩=some (.bool true):=by rw [hc1,hmu]
   clear hG hc0 hc1 wQ hll hmu
   go_upto_region 24 with fail
   generalize hw3:World.alloc _ _=w3
   have hb3:Below wr.heap.size wr w3:=by rw [←hw3];exact(Below.refl _ _).alloc (Nat.le_refl _) _
   have IX:AL w3 wr.heap.size 82 [.int .u8 119,.bool true,.int .u64 (x.v:Int)]:=by rw [←hw3];exact AL.new wr _ _
   have hs3:wr.heap.size<w3.heap.size:=IX.lt
   have a0:=IX.q 0 rfl;have a1:=IX.q 1 rfl;have a2:=IX.q 2 rfl
   have b0:=IX.q 0 rfl;have b1:=IX.q 1 rfl;have b2:=IX.q 2 rfl
   have Vz:=AA IX;have HB3:=AA hb3
   have Z5:Hid (∀W,Below wr.heap.size wr W→Dv hj W):=AA (fun W hW=>C.out.env.to ((J_.out.trans (hW.mono (Nat.le_of_lt (Nat.lt_of_lt_of_le hsw hsz)))).mono Ms))
   clear hw3 h0 h1 hc2 hb3 IX
   go_region_held3 (fun w'=>w'.cell? ⟨wr.heap.size,0,none⟩=some (.int .u8 119)∧w'.cell? ⟨wr.heap.size,1,none⟩=some (.bool true)∧w'.cell? ⟨wr.heap.size,2,none⟩=some (.int .u64 (x.v:Int)))
    (first | exact⟨a0,a1,a2⟩ | exact⟨b0,b1,b2⟩ | exact⟨d0,d1,d2⟩ | exact⟨e0,e1,e2⟩ | exact⟨zI _,zJ _,zK _⟩ | exact⟨f0,f1,f2⟩)
    (first
     | (go_at_call 34;refine(HS.out _).mono ?_;rintro e wa ⟨hba,rfl⟩;have O9:=Am hba;have bY:w3.heap.size≤wa.heap.size:=O9.size;have hma:=Vz.out.below O9 hs3;have d0:=hma.q 0 rfl;have d1:=hma.q 1 rfl;have d2:=hma.q 2 rfl;have Vj:=AA (HB3.out.trans (O9.mono (Nat.le_of_lt hs3)));have ji:=AA hma;clear hba O9 hma)
     | (go_at_call 33;refine(Lb (BK x) HSB.out wa (Z5.out _ Vj.out) (by omega)).mono ?_;rintro e wb ⟨hbb,rfl⟩;have uP:wa.heap.size≤wb.heap.size:=hbb.size;have hmb:=ji.out.below hbb (by omega);have e0:=hmb.q 0 rfl;have e1:=hmb.q 1 rfl;have e2:=hmb.q 2 rfl;have zI: ∀o,(wb.alloc o).cell? ⟨wr.heap.size,0,none⟩=some (.int .u8 119):=fun o=>(hmb.alloc o).cell 0;have zJ: ∀o,(wb.alloc o).cell? ⟨wr.heap.size,1,none⟩=some (.bool true):=fun o=>(hmb.alloc o).cell 1;have zK: ∀o,(wb.alloc o).cell? ⟨wr.heap.size,2,none⟩=some (.int .u64 (x.v:Int)):=fun o=>(hmb.alloc o).cell 2;have fO:=AA (Vj.out.trans (hbb.mono (by omega)));have wR:=AA hmb;clear hbb hmb)
     | (go_at_call 28;refine(JM [Et,⟨#[119]⟩,OQ,CK (Lib.itoa (BK x))] [JK,[119],TT,Lib.itoa (BK x)] (by rw [List.map_cons,List.map_cons,List.map_cons,List.map_cons,List.map_nil];simp [CK];exact⟨rfl,rfl⟩) 4 rfl _ wb (by simp) (HP.out.YR.below fO.out) (by omega) (Nat.le_trans MG.out N8) (by decide)).mono ?_;rintro e w6 ⟨rfl,hA,hB,hK⟩;have Vk:=AA (PR.mk (HP.out.IE.trans ((fO.out.mono hsz).trans hB)) (NS.out▸hA));have MC:=hK.blk wR.out (by omega) (by decide);have f0:=MC.q 0 rfl;have f1:=MC.q 1 rfl;have f2:=MC.q 2 rfl;clear hA hB hK MC))
   go_wp2_with fail
   apply HK.out
   ·exact hlt
   ·exact Vk.out
  ·have hG:JH x=Bv [JK,[108],KZ,Lib.itoa (BK x)]:=by unfold JH;rw [hll,hmu];rfl
   have NS:=NS.out
   have MG:=MG.out
   rw [hG] at NS MG
   have NS:=AA NS
   have MG:=AA MG
   have HS:Hid (∀W,Calls prog 34 #[.agg #[.int .u8 108,.bool false,.int .u64 (x.v:Int)]] W fun e w'=>Below W.heap.size W w'∧e= .returned (.int .i64 (BK x))):=AA (fun W=>by have:=wQ.out W;rw [hll,hmu] at this;exact this)
   have h0:wr.cell? ⟨bk,ok+k*3,none⟩=some (.int .u8 108):=by rw [hc0,hll];rfl
   have h1:wr.cell? ⟨bk,ok+k*3+1,none⟩=some (.bool false):=by rw [hc1,hmu]
   clear hG hc0 hc1 wQ hll hmu
   go_upto_region 24 with fail
   generalize hw3:World.alloc _ _=w3
   have hb3:Below wr.heap.size wr w3:=by rw [←hw3];exact(Below.refl _ _).alloc (Nat.le_refl _) _
   have IX:AL w3 wr.heap.size 82 [.int .u8 108,.bool false,.int .u64 (x.v:Int)]:=by rw [←hw3];exact AL.new wr _ _
   have hs3:wr.heap.size<w3.heap.size:=IX.lt
   have a0:=IX.q 0 rfl;have a1:=IX.q 1 rfl;have a2:=IX.q 2 rfl
   have b0:=IX.q 0 rfl;have b1:=IX.q 1 rfl;have b2:=IX.q 2 rfl
   have Vz:=AA IX;have HB3:=AA hb3
   have Z5:Hid (∀W,Below wr.heap.size wr W→Dv hj W):=AA (fun W hW=>C.out.env.to ((J_.out.trans (hW.mono (Nat.le_of_lt (Nat.lt_of_lt_of_le hsw hsz)))).mono Ms))
   clear hw3 h0 h1 hc2 hb3 IX
   go_region_held3 (fun w'=>w'.cell? ⟨wr.heap.size,0,none⟩=some (.int .u8 108)∧w'.cell? ⟨wr.heap.size,1,none⟩=some (.bool false)∧w'.cell? ⟨wr.heap.size,2,none⟩=some (.int .u64 (x.v:Int)))
    (first | exact⟨a0,a1,a2⟩ | exact⟨b0,b1,b2⟩ | exact⟨d0,d1,d2⟩ | exact⟨e0,e1,e2⟩ | exact⟨zI _,zJ _,zK _⟩ | exact⟨f0,f1,f2⟩)
    (first
     | (go_at_call 34;refine(HS.out _).mono ?_;rintro e wa ⟨hba,rfl⟩;have O9:=Am hba;have bY:w3.heap.size≤wa.heap.size:=O9.size;have hma:=Vz.out.below O9 hs3;have d0:=hma.q 0 rfl;have d1:=hma.q 1 rfl;have d2:=hma.q 2 rfl;have Vj:=AA (HB3.out.trans (O9.mono (Nat.le_of_lt hs3)));have ji:=AA hma;clear hba O9 hma)
     | (go_at_call 33;refine(Lb (BK x) HSB.out wa (Z5.out _ Vj.out) (by omega)).mono ?_;rintro e wb ⟨hbb,rfl⟩;have uP:wa.heap.size≤wb.heap.size:=hbb.size;have hmb:=ji.out.below hbb (by omega);have e0:=hmb.q 0 rfl;have e1:=hmb.q 1 rfl;have e2:=hmb.q 2 rfl;have zI: ∀o,(wb.alloc o).cell? ⟨wr.heap.size,0,none⟩=some (.int .u8 108):=fun o=>(hmb.alloc o).cell 0;have zJ: ∀o,(wb.alloc o).cell? ⟨wr.heap.size,1,none⟩=some (.bool false):=fun o=>(hmb.alloc o).cell 1;have zK: ∀o,(wb.alloc o).cell? ⟨wr.heap.size,2,none⟩=some (.int .u64 (x.v:Int)):=fun o=>(hmb.alloc o).cell 2;have fO:=AA (Vj.out.trans (hbb.mono (by omega)));have wR:=AA hmb;clear hbb hmb)
     | (go_at_call 28;refine(JM [Et,⟨#[108]⟩,JV,CK (Lib.itoa (BK x))] [JK,[108],KZ,Lib.itoa (BK x)] (by rw [List.map_cons,List.map_cons,List.map_cons,List.map_cons,List.map_nil];simp [CK];exact⟨rfl,rfl⟩) 4 rfl _ wb (by simp) (HP.out.YR.below fO.out) (by omega) (Nat.le_trans MG.out N8) (by decide)).mono ?_;rintro e w6 ⟨rfl,hA,hB,hK⟩;have Vk:=AA (PR.mk (HP.out.IE.trans ((fO.out.mono hsz).trans hB)) (NS.out▸hA));have MC:=hK.blk wR.out (by omega) (by decide);have f0:=MC.q 0 rfl;have f1:=MC.q 1 rfl;have f2:=MC.q 2 rfl;clear hA hB hK MC))
   go_wp2_with fail
   apply HK.out
   ·exact hlt
   ·exact Vk.out
  ·have hG:JH x=Bv [JK,[108],TT,Lib.itoa (BK x)]:=by unfold JH;rw [hll,hmu];rfl
   have NS:=NS.out
   have MG:=MG.out
   rw [hG] at NS MG
   have NS:=AA NS
   have MG:=AA MG
   have HS:Hid (∀W,Calls prog 34 #[.agg #[.int .u8 108,.bool true,.int .u64 (x.v:Int)]] W fun e w'=>Below W.heap.size W w'∧e= .returned (.int .i64 (BK x))):=AA (fun W=>by have:=wQ.out W;rw [hll,hmu] at this;exact this)
   have h0:wr.cell? ⟨bk,ok+k*3,none⟩=some (.int .u8 108):=by rw [hc0,hll];rfl
   have h1:wr.cell? ⟨bk,ok+k*3+1,none⟩=some (.bool true):=by rw [hc1,hmu]
   clear hG hc0 hc1 wQ hll hmu
   go_upto_region 24 with fail
   generalize hw3:World.alloc _ _=w3
   have hb3:Below wr.heap.size wr w3:=by rw [←hw3];exact(Below.refl _ _).alloc (Nat.le_refl _) _
   have IX:AL w3 wr.heap.size 82 [.int .u8 108,.bool true,.int .u64 (x.v:Int)]:=by rw [←hw3];exact AL.new wr _ _
   have hs3:wr.heap.size<w3.heap.size:=IX.lt
   have a0:=IX.q 0 rfl;have a1:=IX.q 1 rfl;have a2:=IX.q 2 rfl
   have b0:=IX.q 0 rfl;have b1:=IX.q 1 rfl;have b2:=IX.q 2 rfl
   have Vz:=AA IX;have HB3:=AA hb3
   have Z5:Hid (∀W,Below wr.heap.size wr W→Dv hj W):=AA (fun W hW=>C.out.env.to ((J_.out.trans (hW.mono (Nat.le_of_lt (Nat.lt_of_lt_of_le hsw hsz)))).mono Ms))
   clear hw3 h0 h1 hc2 hb3 IX
   go_region_held3 (fun w'=>w'.cell? ⟨wr.heap.size,0,none⟩=some (.int .u8 108)∧w'.cell? ⟨wr.heap.size,1,none⟩=some (.bool true)∧w'.cell? ⟨wr.heap.size,2,none⟩=some (.int .u64 (x.v:Int)))
    (first | exact⟨a0,a1,a2⟩ | exact⟨b0,b1,b2⟩ | exact⟨d0,d1,d2⟩ | exact⟨e0,e1,e2⟩ | exact⟨zI _,zJ _,zK _⟩ | exact⟨f0,f1,f2⟩)
    (first
     | (go_at_call 34;refine(HS.out _).mono ?_;rintro e wa ⟨hba,rfl⟩;have O9:=Am hba;have bY:w3.heap.size≤wa.heap.size:=O9.size;have hma:=Vz.out.below O9 hs3;have d0:=hma.q 0 rfl;have d1:=hma.q 1 rfl;have d2:=hma.q 2 rfl;have Vj:=AA (HB3.out.trans (O9.mono (Nat.le_of_lt hs3)));have ji:=AA hma;clear hba O9 hma)
     | (go_at_call 33;refine(Lb (BK x) HSB.out wa (Z5.out _ Vj.out) (by omega)).mono ?_;rintro e wb ⟨hbb,rfl⟩;have uP:wa.heap.size≤wb.heap.size:=hbb.size;have hmb:=ji.out.below hbb (by omega);have e0:=hmb.q 0 rfl;have e1:=hmb.q 1 rfl;have e2:=hmb.q 2 rfl;have zI: ∀o,(wb.alloc o).cell? ⟨wr.heap.size,0,none⟩=some (.int .u8 108):=fun o=>(hmb.alloc o).cell 0;have zJ: ∀o,(wb.alloc o).cell? ⟨wr.heap.size,1,none⟩=some (.bool true):=fun o=>(hmb.alloc o).cell 1;have zK: ∀o,(wb.alloc o).cell? ⟨wr.heap.size,2,none⟩=some (.int .u64 (x.v:Int)):=fun o=>(hmb.alloc o).cell 2;have fO:=AA (Vj.out.trans (hbb.mono (by omega)));have wR:=AA hmb;clear hbb hmb)
     | (go_at_call 28;refine(JM [Et,⟨#[108]⟩,OQ,CK (Lib.itoa (BK x))] [JK,[108],TT,Lib.itoa (BK x)] (by rw [List.map_cons,List.map_cons,List.map_cons,List.map_cons,List.map_nil];simp [CK];exact⟨rfl,rfl⟩) 4 rfl _ wb (by simp) (HP.out.YR.below fO.out) (by omega) (Nat.le_trans MG.out N8) (by decide)).mono ?_;rintro e w6 ⟨rfl,hA,hB,hK⟩;have Vk:=AA (PR.mk (HP.out.IE.trans ((fO.out.mono hsz).trans hB)) (NS.out▸hA));have MC:=hK.blk wR.out (by omega) (by decide);have f0:=MC.q 0 rfl;have f1:=MC.q 1 rfl;have f2:=MC.q 2 rfl;clear hA hB hK MC))
   go_wp2_with fail
   apply HK.out
   ·exact hlt
   ·exact Vk.out
 ·obtain rfl:k=m.globs.length:=by omega
  have KU:decide ((m.globs.length:Int)<m.globs.length)=false:=decide_eq_false (by omega)
  have Zc:Hid (PR w2 wr (wP m)):=AA (by have:=HP.out;rw [List.take_length] at this;exact this)
  clear HP HK
  go_wp2_with fail
  apply HX.out
  exact Zc.out
set_option maxRecDepth 1000000 in
theorem jk {w w2:World} {hi hj:Nat} {m:AP} {A1 A2 A3 A6 A7 A8:Option Addr} {c1 c2 c3 c6 c7 c8:Nat} (C:Hid (Ot w w2 hi hj m A1 c1 A2 c2 A3 c3 A6 c6 A7 c7 A8 c8)) {wr:World} (HP:Hid (PR w2 wr (bU m)))
 (s0 s2 s3 s4 s7 s8 s9 s10 s11 s12 s13 s16 En EN GZ s20 Eo Ga EO s24 EP Ep Ea Eb Ec Ed E9 E_ FB FC FD FE G7 G8 G9 G_ Hf Hl s43 s44 Ho Hq Hw GI s49 Hz H_ IB s53 Gh Gi Gj Gl Gm Gn Gp Gq Gs Gt Gu Gv Ee s87 FH FI FJ FK FL FM FN FP FQ Gz G5 G6 BZ Ba Bb Bc Bd Bf Bg Bh Bj Bl Bn Bo Bp CS CU CV CW CX CY Bz B_ CB CF CG CJ BL BF BM BN BO BP BQ BR BS DX DY DZ Da Db Dc Df Dh Di Dj Dk Dl Dm Dn Dp Dq Cb Cc Ce Cg Ch Ci Cj Ck Cm Bt Cn Co Cq Cr Ct Cu Cv Cw Cx Cy Cz C8 C9 C_ DC Bu Ov Ow u70 Ox u72 u73 Oy u75 Oz O1 O4 O5 O6 O7 Tj Tk Tn Tp O8:Value) (Q0:Exit→Act→World→Prop) (HX:Hid (∀(Ov Ow u70 Ox u72 u73 Oy u75 Oz O1 O4 O5 O6 O7 Tj Tk Tn Tp O8:Value) (wx:World),PR w2 wx (wP m)→Q0 (.exit 4) ⟨(List.toArray (s0::(.pointer (some ⟨w.heap.size,0,none⟩))::s2::s3::s4::(.pointer (some ⟨w2.heap.size,0,none⟩))::(.func (.func 28) #[] #[.pointer (some ⟨w2.heap.size,0,none⟩)])::s7::s8::s9::s10::s11::s12::s13::Ov::Ow::s16::En::EN::GZ::s20::Eo::Ga::EO::s24::EP::Ep::Ea::Eb::Ec::Ed::E9::E_::FB::FC::FD::FE::G7::G8::G9::G_::Hf::Hl::s43::s44::Ho::Hq::Hw::GI::s49::Hz::H_::IB::s53::Gh::Gi::Gj::Gl::Gm::Gn::Gp::Gq::Gs::Gt::Gu::Gv::Ee::(.slice A3 m.globs.length c3)::(.int .i64 m.globs.length)::(.int .i64 m.globs.length)::u70::Ox::u72::u73::Oy::u75::Oz::O1::O4::O5::O6::O7::Tj::Tk::Tn::Tp::O8::s87::FH::FI::FJ::FK::FL::FM::FN::FP::FQ::Gz::G5::G6::BZ::Ba::Bb::Bc::Bd::Bf::Bg::Bh::Bj::Bl::Bn::Bo::Bp::CS::CU::CV::CW::CX::CY::Bz::B_::CB::CF::CG::CJ::BL::BF::BM::BN::BO::BP::BQ::BR::BS::DX::DY::DZ::Da::Db::Dc::Df::Dh::Di::Dj::Dk::Dl::Dm::Dn::Dp::Dq::Cb::Cc::Ce::Cg::Ch::Ci::Cj::Ck::Cm::Bt::Cn::Co::Cq::Cr::Ct::Cu::Cv::Cw::Cx::Cy::Cz::C8::C9::C_::DC::Bu:: [])),[]⟩ wx)):
 Code.wp prog (Code.loop (I9 2)) Q0 ⟨(List.toArray (s0::(.pointer (some ⟨w.heap.size,0,none⟩))::s2::s3::s4::(.pointer (some ⟨w2.heap.size,0,none⟩))::(.func (.func 28) #[] #[.pointer (some ⟨w2.heap.size,0,none⟩)])::s7::s8::s9::s10::s11::s12::s13::Ov::Ow::s16::En::EN::GZ::s20::Eo::Ga::EO::s24::EP::Ep::Ea::Eb::Ec::Ed::E9::E_::FB::FC::FD::FE::G7::G8::G9::G_::Hf::Hl::s43::s44::Ho::Hq::Hw::GI::s49::Hz::H_::IB::s53::Gh::Gi::Gj::Gl::Gm::Gn::Gp::Gq::Gs::Gt::Gu::Gv::Ee::(.slice A3 m.globs.length c3)::(.int .i64 m.globs.length)::(.int .i64 0)::u70::Ox::u72::u73::Oy::u75::Oz::O1::O4::O5::O6::O7::Tj::Tk::Tn::Tp::O8::s87::FH::FI::FJ::FK::FL::FM::FN::FP::FQ::Gz::G5::G6::BZ::Ba::Bb::Bc::Bd::Bf::Bg::Bh::Bj::Bl::Bn::Bo::Bp::CS::CU::CV::CW::CX::CY::Bz::B_::CB::CF::CG::CJ::BL::BF::BM::BN::BO::BP::BQ::BR::BS::DX::DY::DZ::Da::Db::Dc::Df::Dh::Di::Dj::Dk::Dl::Dm::Dn::Dp::Dq::Cb::Cc::Ce::Cg::Ch::Ci::Cj::Ck::Cm::Bt::Cn::Co::Cq::Cr::Ct::Cu::Cv::Cw::Cx::Cy::Cz::C8::C9::C_::DC::Bu:: [])),[]⟩ wr:=by
 refine wp_loop (fun a wx=> ∃(Ov Ow u70 Ox u72 u73 Oy u75 Oz O1 O4 O5 O6 O7 Tj Tk Tn Tp O8:Value) (k:Nat),k≤m.globs.length∧PR w2 wx (bU m++(m.globs.take k).flatMap JH)∧a=⟨(List.toArray (s0::(.pointer (some ⟨w.heap.size,0,none⟩))::s2::s3::s4::(.pointer (some ⟨w2.heap.size,0,none⟩))::(.func (.func 28) #[] #[.pointer (some ⟨w2.heap.size,0,none⟩)])::s7::s8::s9::s10::s11::s12::s13::Ov::Ow::s16::En::EN::GZ::s20::Eo::Ga::EO::s24::EP::Ep::Ea::Eb::Ec::Ed::E9::E_::FB::FC::FD::FE::G7::G8::G9::G_::Hf::Hl::s43::s44::Ho::Hq::Hw::GI::s49::Hz::H_::IB::s53::Gh::Gi::Gj::Gl::Gm::Gn::Gp::Gq::Gs::Gt::Gu::Gv::Ee::(.slice A3 m.globs.length c3)::(.int .i64 m.globs.length)::(.int .i64 k)::u70::Ox::u72::u73::Oy::u75::Oz::O1::O4::O5::O6::O7::Tj::Tk::Tn::Tp::O8::s87::FH::FI::FJ::FK::FL::FM::FN::FP::FQ::Gz::G5::G6::BZ::Ba::Bb::Bc::Bd::Bf::Bg::Bh::Bj::Bl::Bn::Bo::Bp::CS::CU::CV::CW::CX::CY::Bz::B_::CB::CF::CG::CJ::BL::BF::BM::BN::BO::BP::BQ::BR::BS::DX::DY::DZ::Da::Db::Dc::Df::Dh::Di::Dj::Dk::Dl::Dm::Dn::Dp::Dq::Cb::Cc::Ce::Cg::Ch::Ci::Cj::Ck::Cm::Bt::Cn::Co::Cq::Cr::Ct::Cu::Cv::Cw::Cx::Cy::Cz::C8::C9::C_::DC::Bu:: [])),[]⟩) (fun a _=>m.globs.length-(intOf (a.tmps.getD 69 undef)).toNat) ?_ ?_
 ·exact⟨Ov,Ow,u70,Ox,u72,u73,Oy,u75,Oz,O1,O4,O5,O6,O7,Tj,Tk,Tn,Tp,O8,0,Nat.zero_le _,by rw [List.take_zero,List.flatMap_nil,List.append_nil];exact HP.out,rfl⟩
 ·intro a wx hI
  obtain⟨Ov,hI⟩:=hI
  obtain⟨Ow,hI⟩:=hI
  obtain⟨u70,hI⟩:=hI
  obtain⟨Ox,hI⟩:=hI
  obtain⟨u72,hI⟩:=hI
  obtain⟨u73,hI⟩:=hI
  obtain⟨Oy,hI⟩:=hI
  obtain⟨u75,hI⟩:=hI
  obtain⟨Oz,hI⟩:=hI
  obtain⟨O1,hI⟩:=hI
  obtain⟨O4,hI⟩:=hI
  obtain⟨O5,hI⟩:=hI
  obtain⟨O6,hI⟩:=hI
  obtain⟨O7,hI⟩:=hI
  obtain⟨Tj,hI⟩:=hI
  obtain⟨Tk,hI⟩:=hI
  obtain⟨Tn,hI⟩:=hI
  obtain⟨Tp,hI⟩:=hI
  obtain⟨O8,hI⟩:=hI
  obtain⟨k,hk,hp,rfl⟩:=hI
  refine Ti C hk (AA hp) _ _ _ _ _ _ _ _ _ _ _ _ _ _ _ _ _ _ _ _ _ _ _ _ _ _ _ _ _ _ _ _ _ _ _ _ _ _ _ _ _ _ _ _ _ _ _ _ _ _ _ _ _ _ _ _ _ _ _ _ _ _ _ _ _ _ _ _ _ _ _ _ _ _ _ _ _ _ _ _ _ _ _ _ _ _ _ _ _ _ _ _ _ _ _ _ _ _ _ _ _ _ _ _ _ _ _ _ _ _ _ _ _ _ _ _ _ _ _ _ _ _ _ _ _ _ _ _ _ _ _ _ _ _ _ _ _ _ _ _ _ _ _ _ _ _ _ _ _ _ _ _ _ _ _ _ _ _ _ _ _ _ _ _ _ _ _ _ _ _ _ _ (AA ?_) HX
  intro Ov Ow u70 Ox u72 u73 Oy u75 Oz O1 O4 O5 O6 O7 Tj Tk Tn Tp O8 wy hlt hp2
  refine⟨⟨Ov,Ow,u70,Ox,u72,u73,Oy,u75,Oz,O1,O4,O5,O6,O7,Tj,Tk,Tn,Tp,O8,k+1,hlt,hp2,rfl⟩,?_⟩
  show m.globs.length-(intOf (.int .i64 ((k+1:Nat):Int))).toNat<m.globs.length-(intOf (.int .i64 (k:Int))).toNat
  simp [intOf]
  omega
def codeF (z:DL):List UInt8:=Bv [[32,32]++R4 z]
set_option maxRecDepth 1000000 in
theorem VO {w w2:World} {hi hj:Nat} {m:AP} {A1 A2 A3 A6 A7 A8:Option Addr} {c1 c2 c3 c6 c7 c8:Nat} (C:Hid (Ot w w2 hi hj m A1 c1 A2 c2 A3 c3 A6 c6 A7 c7 A8 c8)) {x:GR} {Ac:Option Addr} {cc:Nat} (ou:Hid ((JA.sl false).R w 0 hi [.slice Ac x.code.length cc] x.code)) (ow: ∀y∈x.code,y.l.length≤2147483647) (hcl:x.code.length≤2147483647) (P:List UInt8) (N8:(P++x.code.flatMap codeF).length≤1048576) {k:Nat} {wr:World} (hk:k≤x.code.length) (HP:Hid (PR w2 wr (P++(x.code.take k).flatMap codeF)))
 (s0 s2 s3 s4 s7 s8 s9 s10 s11 s12 s13 Fw s15 s16 En EN s20 Eo Ga EO s24 EP Ep Ea Eb Ec Ed E9 E_ FB FC FD FE G7 G8 G9 G_ Hf Hl s43 s44 Ho Hq Hw GI s49 Hz H_ IB s53 Gh Gi Gj Gl Gm Gn Gp Gq Gs Gt Gu Gv Ee Er s68 Fx Fy Fz s72 F4 F5 F6 F7 F8 F9 GA GD GH s82 s83 Gw Gx Gy s87 FH FI FJ FK FL FM FN FP FQ Gz G5 G6 BZ Ba Bb Bc Bd Bf Bg Bh Bj Bl Bn Bo Bp BL BF BM BN BO BP BQ BR BS DX DY DZ Da Db Dc Df Dh Di Dj Dk Dl Dm Dn Dp Dq Cb Cc Ce Cg Ch Ci Cj Ck Cm Bt Cn Co Cq Cr Ct Cu Cv Cw Cx Cy Cz C8 C9 C_ DC Bu NK D9 D_ EA u119 FR FT FU FV u124:Value) (K:Act→World→Prop) (Q:Exit→Act→World→Prop) (HK:Hid (∀(NK D9 D_ EA u119 FR FT FU FV u124:Value) (wx:World),k<x.code.length→PR w2 wx (P++(x.code.take (k+1)).flatMap codeF)→K ⟨(List.toArray (s0::(.pointer (some ⟨w.heap.size,0,none⟩))::s2::s3::s4::(.pointer (some ⟨w2.heap.size,0,none⟩))::(.func (.func 28) #[] #[.pointer (some ⟨w2.heap.size,0,none⟩)])::s7::s8::s9::s10::s11::s12::s13::Fw::s15::s16::En::EN::NK::s20::Eo::Ga::EO::s24::EP::Ep::Ea::Eb::Ec::Ed::E9::E_::FB::FC::FD::FE::G7::G8::G9::G_::Hf::Hl::s43::s44::Ho::Hq::Hw::GI::s49::Hz::H_::IB::s53::Gh::Gi::Gj::Gl::Gm::Gn::Gp::Gq::Gs::Gt::Gu::Gv::Ee::Er::s68::Fx::Fy::Fz::s72::F4::F5::F6::F7::F8::F9::GA::GD::GH::s82::s83::Gw::Gx::Gy::s87::FH::FI::FJ::FK::FL::FM::FN::FP::FQ::Gz::G5::G6::BZ::Ba::Bb::Bc::Bd::Bf::Bg::Bh::Bj::Bl::Bn::Bo::Bp::(.slice Ac x.code.length cc)::(.int .i64 x.code.length)::(.int .i64 ((k:Int)+1))::D9::D_::EA::u119::FR::FT::FU::FV::u124::BL::BF::BM::BN::BO::BP::BQ::BR::BS::DX::DY::DZ::Da::Db::Dc::Df::Dh::Di::Dj::Dk::Dl::Dm::Dn::Dp::Dq::Cb::Cc::Ce::Cg::Ch::Ci::Cj::Ck::Cm::Bt::Cn::Co::Cq::Cr::Ct::Cu::Cv::Cw::Cx::Cy::Cz::C8::C9::C_::DC::Bu:: [])),[]⟩ wx)) (HX:Hid (∀(NK D9 D_ EA u119 FR FT FU FV u124:Value) (wx:World),PR w2 wx (P++x.code.flatMap codeF)→Q (.exit 8) ⟨(List.toArray (s0::(.pointer (some ⟨w.heap.size,0,none⟩))::s2::s3::s4::(.pointer (some ⟨w2.heap.size,0,none⟩))::(.func (.func 28) #[] #[.pointer (some ⟨w2.heap.size,0,none⟩)])::s7::s8::s9::s10::s11::s12::s13::Fw::s15::s16::En::EN::NK::s20::Eo::Ga::EO::s24::EP::Ep::Ea::Eb::Ec::Ed::E9::E_::FB::FC::FD::FE::G7::G8::G9::G_::Hf::Hl::s43::s44::Ho::Hq::Hw::GI::s49::Hz::H_::IB::s53::Gh::Gi::Gj::Gl::Gm::Gn::Gp::Gq::Gs::Gt::Gu::Gv::Ee::Er::s68::Fx::Fy::Fz::s72::F4::F5::F6::F7::F8::F9::GA::GD::GH::s82::s83::Gw::Gx::Gy::s87::FH::FI::FJ::FK::FL::FM::FN::FP::FQ::Gz::G5::G6::BZ::Ba::Bb::Bc::Bd::Bf::Bg::Bh::Bj::Bl::Bn::Bo::Bp::(.slice Ac x.code.length cc)::(.int .i64 x.code.length)::(.int .i64 x.code.length)::D9::D_::EA::u119::FR::FT::FU::FV::u124::BL::BF::BM::BN::BO::BP::BQ::BR::BS::DX::DY::DZ::Da::Db::Dc::Df::Dh::Di::Dj::Dk::Dl::Dm::Dn::Dp::Dq::Cb::Cc::Ce::Cg::Ch::Ci::Cj::Ck::Cm::Bt::Cn::Co::Cq::Cr::Ct::Cu::Cv::Cw::Cx::Cy::Cz::C8::C9::C_::DC::Bu:: [])),[]⟩ wx)):
 Code.wp prog (RG 3) (Exit.then K Q) ⟨(List.toArray (s0::(.pointer (some ⟨w.heap.size,0,none⟩))::s2::s3::s4::(.pointer (some ⟨w2.heap.size,0,none⟩))::(.func (.func 28) #[] #[.pointer (some ⟨w2.heap.size,0,none⟩)])::s7::s8::s9::s10::s11::s12::s13::Fw::s15::s16::En::EN::NK::s20::Eo::Ga::EO::s24::EP::Ep::Ea::Eb::Ec::Ed::E9::E_::FB::FC::FD::FE::G7::G8::G9::G_::Hf::Hl::s43::s44::Ho::Hq::Hw::GI::s49::Hz::H_::IB::s53::Gh::Gi::Gj::Gl::Gm::Gn::Gp::Gq::Gs::Gt::Gu::Gv::Ee::Er::s68::Fx::Fy::Fz::s72::F4::F5::F6::F7::F8::F9::GA::GD::GH::s82::s83::Gw::Gx::Gy::s87::FH::FI::FJ::FK::FL::FM::FN::FP::FQ::Gz::G5::G6::BZ::Ba::Bb::Bc::Bd::Bf::Bg::Bh::Bj::Bl::Bn::Bo::Bp::(.slice Ac x.code.length cc)::(.int .i64 x.code.length)::(.int .i64 k)::D9::D_::EA::u119::FR::FT::FU::FV::u124::BL::BF::BM::BN::BO::BP::BQ::BR::BS::DX::DY::DZ::Da::Db::Dc::Df::Dh::Di::Dj::Dk::Dl::Dm::Dn::Dp::Dq::Cb::Cc::Ce::Cg::Ch::Ci::Cj::Ck::Cm::Bt::Cn::Co::Cq::Cr::Ct::Cu::Cv::Cw::Cx::Cy::Cz::C8::C9::C_::DC::Bu:: [])),[]⟩ wr:=by
 conv=>arg 2;whnf
 have hk0:(0:Int)≤k:=by omega
 have hhi:=C.out.hhi
 have Ms:=C.out.Ms
 have hsw:w.heap.size<w2.heap.size:=C.out.lt
 by_cases hlt:k<x.code.length
 ·obtain⟨z,hz⟩: ∃z,x.code[k]?=some z:=⟨_,List.getElem?_eq_getElem hlt⟩
  have KU:decide ((k:Int)<x.code.length)=true:=decide_eq_true (by omega)
  have J_:=AA (C.out.IE.trans (HP.out.IE.mono C.out.IE.size))
  have hsz:w2.heap.size≤wr.heap.size:=HP.out.IE.size
  obtain⟨bk,ok,Sw,Rs,rfl,_,Nw,hc0,hc1,hc2,NH,hlab⟩:=Tx (Rd.below ou.out J_.out hhi) hz
  have NS:=AA (Jb P codeF hz)
  have MG:=AA (GL P codeF hz)
  have hll:=ow z (List.mem_of_getElem? hz)
  have hop:z.op.toNat<256:=z.op.toNat_lt
  have HI:=AA (fun(W:World) (hW:Below wr.heap.size wr W)=>Td z Sw Rs hi hj W (Rd.below hlab hW (Nat.le_trans hhi J_.out.size)) (Nat.le_trans (Nat.le_trans hhi J_.out.size) hW.size) NH (C.out.env.to ((J_.out.trans (hW.mono J_.out.size)).mono Ms)) (Nat.le_trans (Nat.le_trans Ms J_.out.size) hW.size) hop (by omega))
  clear hz HX hlab NH hll hop
  go_wp2_with fail
  refine(HI.out _ ((Below.refl _ _).alloc (Nat.le_refl _) _)).mono ?_
  rintro e w5 ⟨hb5,rfl⟩
  have hB5:Below wr.heap.size wr w5:=((Below.refl _ _).alloc (Nat.le_refl _) _).trans (hb5.mono (by simp))
  have JX:=AA hB5
  have hs5:wr.heap.size≤w5.heap.size:=JX.out.size
  clear hb5 HI hB5
  go_wp2_with fail
  refine(JM [CK ([32,32]++R4 z)] [[32,32]++R4 z] rfl 1 rfl _ w5 (by simp) (HP.out.YR.below JX.out) (by omega) (Nat.le_trans MG.out N8) (by decide)).mono ?_
  rintro e w6 ⟨rfl,hA,hB,hK⟩
  have Vk:=AA (PR.mk (HP.out.IE.trans ((JX.out.mono hsz).trans hB)) (NS.out▸hA))
  clear hA hB hK
  go_wp2_with fail
  apply HK.out
  ·exact hlt
  ·exact Vk.out
 ·obtain rfl:k=x.code.length:=by omega
  have KU:decide ((x.code.length:Int)<x.code.length)=false:=decide_eq_false (by omega)
  have Zc:Hid (PR w2 wr (P++x.code.flatMap codeF)):=AA (by have:=HP.out;rw [List.take_length] at this;exact this)
  clear HP HK
  go_wp2_with fail
  apply HX.out
  exact Zc.out
set_option maxRecDepth 1000000 in
theorem oz {w w2:World} {hi hj:Nat} {m:AP} {A1 A2 A3 A6 A7 A8:Option Addr} {c1 c2 c3 c6 c7 c8:Nat} (C:Hid (Ot w w2 hi hj m A1 c1 A2 c2 A3 c3 A6 c6 A7 c7 A8 c8)) {x:GR} {Ac:Option Addr} {cc:Nat} (ou:Hid ((JA.sl false).R w 0 hi [.slice Ac x.code.length cc] x.code)) (ow: ∀y∈x.code,y.l.length≤2147483647) (hcl:x.code.length≤2147483647) (P:List UInt8) (N8:(P++x.code.flatMap codeF).length≤1048576) {wr:World} (HP:Hid (PR w2 wr P))
 (s0 s2 s3 s4 s7 s8 s9 s10 s11 s12 s13 Fw s15 s16 En EN s20 Eo Ga EO s24 EP Ep Ea Eb Ec Ed E9 E_ FB FC FD FE G7 G8 G9 G_ Hf Hl s43 s44 Ho Hq Hw GI s49 Hz H_ IB s53 Gh Gi Gj Gl Gm Gn Gp Gq Gs Gt Gu Gv Ee Er s68 Fx Fy Fz s72 F4 F5 F6 F7 F8 F9 GA GD GH s82 s83 Gw Gx Gy s87 FH FI FJ FK FL FM FN FP FQ Gz G5 G6 BZ Ba Bb Bc Bd Bf Bg Bh Bj Bl Bn Bo Bp BL BF BM BN BO BP BQ BR BS DX DY DZ Da Db Dc Df Dh Di Dj Dk Dl Dm Dn Dp Dq Cb Cc Ce Cg Ch Ci Cj Ck Cm Bt Cn Co Cq Cr Ct Cu Cv Cw Cx Cy Cz C8 C9 C_ DC Bu NK D9 D_ EA u119 FR FT FU FV u124:Value) (Q0:Exit→Act→World→Prop) (HX:Hid (∀(NK D9 D_ EA u119 FR FT FU FV u124:Value) (wx:World),PR w2 wx (P++x.code.flatMap codeF)→Q0 (.exit 8) ⟨(List.toArray (s0::(.pointer (some ⟨w.heap.size,0,none⟩))::s2::s3::s4::(.pointer (some ⟨w2.heap.size,0,none⟩))::(.func (.func 28) #[] #[.pointer (some ⟨w2.heap.size,0,none⟩)])::s7::s8::s9::s10::s11::s12::s13::Fw::s15::s16::En::EN::NK::s20::Eo::Ga::EO::s24::EP::Ep::Ea::Eb::Ec::Ed::E9::E_::FB::FC::FD::FE::G7::G8::G9::G_::Hf::Hl::s43::s44::Ho::Hq::Hw::GI::s49::Hz::H_::IB::s53::Gh::Gi::Gj::Gl::Gm::Gn::Gp::Gq::Gs::Gt::Gu::Gv::Ee::Er::s68::Fx::Fy::Fz::s72::F4::F5::F6::F7::F8::F9::GA::GD::GH::s82::s83::Gw::Gx::Gy::s87::FH::FI::FJ::FK::FL::FM::FN::FP::FQ::Gz::G5::G6::BZ::Ba::Bb::Bc::Bd::Bf::Bg::Bh::Bj::Bl::Bn::Bo::Bp::(.slice Ac x.code.length cc)::(.int .i64 x.code.length)::(.int .i64 x.code.length)::D9::D_::EA::u119::FR::FT::FU::FV::u124::BL::BF::BM::BN::BO::BP::BQ::BR::BS::DX::DY::DZ::Da::Db::Dc::Df::Dh::Di::Dj::Dk::Dl::Dm::Dn::Dp::Dq::Cb::Cc::Ce::Cg::Ch::Ci::Cj::Ck::Cm::Bt::Cn::Co::Cq::Cr::Ct::Cu::Cv::Cw::Cx::Cy::Cz::C8::C9::C_::DC::Bu:: [])),[]⟩ wx)):
 Code.wp prog (Code.loop (RG 3)) Q0 ⟨(List.toArray (s0::(.pointer (some ⟨w.heap.size,0,none⟩))::s2::s3::s4::(.pointer (some ⟨w2.heap.size,0,none⟩))::(.func (.func 28) #[] #[.pointer (some ⟨w2.heap.size,0,none⟩)])::s7::s8::s9::s10::s11::s12::s13::Fw::s15::s16::En::EN::NK::s20::Eo::Ga::EO::s24::EP::Ep::Ea::Eb::Ec::Ed::E9::E_::FB::FC::FD::FE::G7::G8::G9::G_::Hf::Hl::s43::s44::Ho::Hq::Hw::GI::s49::Hz::H_::IB::s53::Gh::Gi::Gj::Gl::Gm::Gn::Gp::Gq::Gs::Gt::Gu::Gv::Ee::Er::s68::Fx::Fy::Fz::s72::F4::F5::F6::F7::F8::F9::GA::GD::GH::s82::s83::Gw::Gx::Gy::s87::FH::FI::FJ::FK::FL::FM::FN::FP::FQ::Gz::G5::G6::BZ::Ba::Bb::Bc::Bd::Bf::Bg::Bh::Bj::Bl::Bn::Bo::Bp::(.slice Ac x.code.length cc)::(.int .i64 x.code.length)::(.int .i64 0)::D9::D_::EA::u119::FR::FT::FU::FV::u124::BL::BF::BM::BN::BO::BP::BQ::BR::BS::DX::DY::DZ::Da::Db::Dc::Df::Dh::Di::Dj::Dk::Dl::Dm::Dn::Dp::Dq::Cb::Cc::Ce::Cg::Ch::Ci::Cj::Ck::Cm::Bt::Cn::Co::Cq::Cr::Ct::Cu::Cv::Cw::Cx::Cy::Cz::C8::C9::C_::DC::Bu:: [])),[]⟩ wr:=by
 refine wp_loop (fun a wx=> ∃(NK D9 D_ EA u119 FR FT FU FV u124:Value) (k:Nat),k≤x.code.length∧(PR w2 wx (P++(x.code.take k).flatMap codeF))∧a=⟨(List.toArray (s0::(.pointer (some ⟨w.heap.size,0,none⟩))::s2::s3::s4::(.pointer (some ⟨w2.heap.size,0,none⟩))::(.func (.func 28) #[] #[.pointer (some ⟨w2.heap.size,0,none⟩)])::s7::s8::s9::s10::s11::s12::s13::Fw::s15::s16::En::EN::NK::s20::Eo::Ga::EO::s24::EP::Ep::Ea::Eb::Ec::Ed::E9::E_::FB::FC::FD::FE::G7::G8::G9::G_::Hf::Hl::s43::s44::Ho::Hq::Hw::GI::s49::Hz::H_::IB::s53::Gh::Gi::Gj::Gl::Gm::Gn::Gp::Gq::Gs::Gt::Gu::Gv::Ee::Er::s68::Fx::Fy::Fz::s72::F4::F5::F6::F7::F8::F9::GA::GD::GH::s82::s83::Gw::Gx::Gy::s87::FH::FI::FJ::FK::FL::FM::FN::FP::FQ::Gz::G5::G6::BZ::Ba::Bb::Bc::Bd::Bf::Bg::Bh::Bj::Bl::Bn::Bo::Bp::(.slice Ac x.code.length cc)::(.int .i64 x.code.length)::(.int .i64 k)::D9::D_::EA::u119::FR::FT::FU::FV::u124::BL::BF::BM::BN::BO::BP::BQ::BR::BS::DX::DY::DZ::Da::Db::Dc::Df::Dh::Di::Dj::Dk::Dl::Dm::Dn::Dp::Dq::Cb::Cc::Ce::Cg::Ch::Ci::Cj::Ck::Cm::Bt::Cn::Co::Cq::Cr::Ct::Cu::Cv::Cw::Cx::Cy::Cz::C8::C9::C_::DC::Bu:: [])),[]⟩) (fun a _=>x.code.length-(intOf (a.tmps.getD 115 undef)).toNat) ?_ ?_
 ·exact⟨NK,D9,D_,EA,u119,FR,FT,FU,FV,u124,0,Nat.zero_le _,by first | exact HP.out | (rw [List.take_zero,List.flatMap_nil,List.append_nil];exact HP.out),rfl⟩
 ·intro a wx hI
  obtain⟨NK,hI⟩:=hI
  obtain⟨D9,hI⟩:=hI
  obtain⟨D_,hI⟩:=hI
  obtain⟨EA,hI⟩:=hI
  obtain⟨u119,hI⟩:=hI
  obtain⟨FR,hI⟩:=hI
  obtain⟨FT,hI⟩:=hI
  obtain⟨FU,hI⟩:=hI
  obtain⟨FV,hI⟩:=hI
  obtain⟨u124,hI⟩:=hI
  obtain⟨k,hk,hp,rfl⟩:=hI
  refine VO C ou ow hcl P N8 hk (AA hp) _ _ _ _ _ _ _ _ _ _ _ _ _ _ _ _ _ _ _ _ _ _ _ _ _ _ _ _ _ _ _ _ _ _ _ _ _ _ _ _ _ _ _ _ _ _ _ _ _ _ _ _ _ _ _ _ _ _ _ _ _ _ _ _ _ _ _ _ _ _ _ _ _ _ _ _ _ _ _ _ _ _ _ _ _ _ _ _ _ _ _ _ _ _ _ _ _ _ _ _ _ _ _ _ _ _ _ _ _ _ _ _ _ _ _ _ _ _ _ _ _ _ _ _ _ _ _ _ _ _ _ _ _ _ _ _ _ _ _ _ _ _ _ _ _ _ _ _ _ _ _ _ _ _ _ _ _ _ _ _ _ _ _ _ _ _ _ _ _ _ _ _ (AA ?_) HX
  intro NK D9 D_ EA u119 FR FT FU FV u124 wy hlt hp2
  refine⟨⟨NK,D9,D_,EA,u119,FR,FT,FU,FV,u124,k+1,hlt,hp2,rfl⟩,?_⟩
  show x.code.length-(intOf (.int .i64 ((k+1:Nat):Int))).toNat<x.code.length-(intOf (.int .i64 (k:Int))).toNat
  simp [intOf]
  omega
end Go.Proofs.YtejbcledkhioeaaGreatDoor
