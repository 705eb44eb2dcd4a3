/- Part 35 of the proof: DecM -/
import Derived.Test.YtejbcledkhioeaaGreatDoorQ32
namespace Go.Proofs.YtejbcledkhioeaaGreatDoor
set_option linter.unusedVariables false
set_option linter.unusedSimpArgs false
set_option maxRecDepth 100000
set_option maxHeartbeats 4000000
open Go.RowKit Tryz
set_option maxRecDepth 1000000 in
theorem qN {R:RC} {p0:Nat} {b0:List UInt8} {ts:List DI} {hs:List Int} {M:Nat} (hM:M≤64) {Wt:World} (HP:Hid (zX R p0 b0 ts hs 0 Wt))
 (s0 s2 s3 s9 s10 s11 s12 s13 Fw s15 s16 En EN GZ s20 Eo Ga EO s24 EP Ep Ea Eb Ec Ed E9 E_ FB FC FD FE G7 G8 G9 G_ Hf Hl s43 s44 Ho Hq Hw GI s49 Hz H_ IB s53 Gh Gi Gj Gl Gm Gn Gp Gq Gs Gt Gu Gv Ee Er s68 Fx Fy Fz s72 F4 F5 F6 F7 F8 F9 GA GD GH s82 s83 RH RI RJ RL RN RO RP RQ RS RU RV RX RY RZ Ra Rb Rf Rh Rj Rk u4 u5 u6 u7 u8 O8 Xy Xz X0 X3 X4 X5 u93 X6 X7 X8 X9 X_ YA IY IZ Ia Ib Ic u105 Ie Ig Ih Ii Ij Ik Il Im Io Ip D9 D_ EA u119 FR FT FU FV u124 Ke YB u127 YC YD Kg u131 Kh Ki Kj Kk Kl FW u138 u139 FX FY FZ Fa Fb Fe Fg Fh Fj Fp Km Kn u152 Ko u154 Kq Kr Kt Ku YE YF YG u162 Kv u164 Kw Ky Kz K3 K4 K5 K6 K7 K8 K9 YH:Value) (Q:Exit→Act→World→Prop) (HT:Hid (∀(en a1:Int) (ax:Act) (wx:World),en≠0→ax.defers= []→Keep (KD R.B R.og R.rg R.Z0) R.w0 wx→Q (.panic (thrown en a1)) ax wx))
 (HX:Hid (∀(u4 u5 u6 u7 u8 O8 Xy Xz X0 X3 X4 X5 u93 X6 X7 X8 X9 X_ YA IY IZ Ia Ib Ic u105 Ie Ig Ih Ii Ij Ik Il Im Io Ip D9 D_ EA u119 FR FT FU FV u124 Ke YB u127 YC YD Kg u131 Kh Ki Kj Kk Kl FW u138 u139 FX FY FZ Fa Fb Fe Fg Fh Fj Fp Km Kn u152 Ko u154 Kq Kr Kt Ku YE YF YG u162 Kv u164 Kw Ky Kz K3 K4 K5 K6 K7 K8 K9 YH:Value) (wx:World),zX R p0 b0 ts hs M wx→Q (.exit 4) ⟨(List.toArray (s0::(.pointer (some ⟨R.gr,0,none⟩))::s2::s3::u4::u5::u6::u7::u8::s9::s10::s11::s12::s13::Fw::s15::s16::En::EN::GZ::s20::Eo::Ga::EO::s24::EP::Ep::Ea::Eb::Ec::Ed::E9::E_::FB::FC::FD::FE::G7::G8::G9::G_::Hf::Hl::s43::s44::Ho::Hq::Hw::GI::s49::Hz::H_::IB::s53::Gh::Gi::Gj::Gl::Gm::Gn::Gp::Gq::Gs::Gt::Gu::Gv::Ee::Er::s68::Fx::Fy::Fz::s72::F4::F5::F6::F7::F8::F9::GA::GD::GH::s82::s83::(.int .i64 (M:Int))::(.int .i64 (M:Int))::O8::Xy::Xz::X0::X3::X4::X5::u93::X6::X7::X8::X9::X_::YA::IY::IZ::Ia::Ib::Ic::u105::Ie::Ig::Ih::Ii::Ij::Ik::Il::Im::Io::Ip::D9::D_::EA::u119::FR::FT::FU::FV::u124::Ke::YB::u127::YC::YD::Kg::u131::Kh::Ki::Kj::Kk::Kl::FW::u138::u139::FX::FY::FZ::Fa::Fb::Fe::Fg::Fh::Fj::Fp::Km::Kn::u152::Ko::u154::Kq::Kr::Kt::Ku::YE::YF::YG::u162::Kv::u164::Kw::Ky::Kz::K3::K4::K5::K6::K7::K8::K9::YH::RH::RI::RJ::RL::RN::RO::RP::RQ::RS::RU::RV::RX::RY::RZ::Ra::Rb::Rf::Rh::Rj::Rk:: [])),[]⟩ wx)):
 Code.wp prog (Code.loop (cK 2)) Q ⟨(List.toArray (s0::(.pointer (some ⟨R.gr,0,none⟩))::s2::s3::u4::u5::u6::u7::u8::s9::s10::s11::s12::s13::Fw::s15::s16::En::EN::GZ::s20::Eo::Ga::EO::s24::EP::Ep::Ea::Eb::Ec::Ed::E9::E_::FB::FC::FD::FE::G7::G8::G9::G_::Hf::Hl::s43::s44::Ho::Hq::Hw::GI::s49::Hz::H_::IB::s53::Gh::Gi::Gj::Gl::Gm::Gn::Gp::Gq::Gs::Gt::Gu::Gv::Ee::Er::s68::Fx::Fy::Fz::s72::F4::F5::F6::F7::F8::F9::GA::GD::GH::s82::s83::(.int .i64 (M:Int))::(.int .i64 0)::O8::Xy::Xz::X0::X3::X4::X5::u93::X6::X7::X8::X9::X_::YA::IY::IZ::Ia::Ib::Ic::u105::Ie::Ig::Ih::Ii::Ij::Ik::Il::Im::Io::Ip::D9::D_::EA::u119::FR::FT::FU::FV::u124::Ke::YB::u127::YC::YD::Kg::u131::Kh::Ki::Kj::Kk::Kl::FW::u138::u139::FX::FY::FZ::Fa::Fb::Fe::Fg::Fh::Fj::Fp::Km::Kn::u152::Ko::u154::Kq::Kr::Kt::Ku::YE::YF::YG::u162::Kv::u164::Kw::Ky::Kz::K3::K4::K5::K6::K7::K8::K9::YH::RH::RI::RJ::RL::RN::RO::RP::RQ::RS::RU::RV::RX::RY::RZ::Ra::Rb::Rf::Rh::Rj::Rk:: [])),[]⟩ Wt:=by
 refine wp_loop (fun a wx=> ∃(U:Nat→Value) (k:Nat),k≤M∧zX R p0 b0 ts hs k wx∧a=⟨(List.toArray (s0::(.pointer (some ⟨R.gr,0,none⟩))::s2::s3::(U 0)::(U 1)::(U 2)::(U 3)::(U 4)::s9::s10::s11::s12::s13::Fw::s15::s16::En::EN::GZ::s20::Eo::Ga::EO::s24::EP::Ep::Ea::Eb::Ec::Ed::E9::E_::FB::FC::FD::FE::G7::G8::G9::G_::Hf::Hl::s43::s44::Ho::Hq::Hw::GI::s49::Hz::H_::IB::s53::Gh::Gi::Gj::Gl::Gm::Gn::Gp::Gq::Gs::Gt::Gu::Gv::Ee::Er::s68::Fx::Fy::Fz::s72::F4::F5::F6::F7::F8::F9::GA::GD::GH::s82::s83::(.int .i64 (M:Int))::(.int .i64 (k:Int))::(U 5)::(U 6)::(U 7)::(U 8)::(U 9)::(U 10)::(U 11)::(U 12)::(U 13)::(U 14)::(U 15)::(U 16)::(U 17)::(U 18)::(U 19)::(U 20)::(U 21)::(U 22)::(U 23)::(U 24)::(U 25)::(U 26)::(U 27)::(U 28)::(U 29)::(U 30)::(U 31)::(U 32)::(U 33)::(U 34)::(U 35)::(U 36)::(U 37)::(U 38)::(U 39)::(U 40)::(U 41)::(U 42)::(U 43)::(U 44)::(U 45)::(U 46)::(U 47)::(U 48)::(U 49)::(U 50)::(U 51)::(U 52)::(U 53)::(U 54)::(U 55)::(U 56)::(U 57)::(U 58)::(U 59)::(U 60)::(U 61)::(U 62)::(U 63)::(U 64)::(U 65)::(U 66)::(U 67)::(U 68)::(U 69)::(U 70)::(U 71)::(U 72)::(U 73)::(U 74)::(U 75)::(U 76)::(U 77)::(U 78)::(U 79)::(U 80)::(U 81)::(U 82)::(U 83)::(U 84)::(U 85)::(U 86)::(U 87)::(U 88)::(U 89)::(U 90)::(U 91)::(U 92)::(U 93)::(U 94)::RH::RI::RJ::RL::RN::RO::RP::RQ::RS::RU::RV::RX::RY::RZ::Ra::Rb::Rf::Rh::Rj::Rk:: [])),[]⟩) (fun a _=>M-(intOf (a.tmps.getD 85 undef)).toNat) ?_ ?_
 ·exact⟨fun i=> [u4,u5,u6,u7,u8,O8,Xy,Xz,X0,X3,X4,X5,u93,X6,X7,X8,X9,X_,YA,IY,IZ,Ia,Ib,Ic,u105,Ie,Ig,Ih,Ii,Ij,Ik,Il,Im,Io,Ip,D9,D_,EA,u119,FR,FT,FU,FV,u124,Ke,YB,u127,YC,YD,Kg,u131,Kh,Ki,Kj,Kk,Kl,FW,u138,u139,FX,FY,FZ,Fa,Fb,Fe,Fg,Fh,Fj,Fp,Km,Kn,u152,Ko,u154,Kq,Kr,Kt,Ku,YE,YF,YG,u162,Kv,u164,Kw,Ky,Kz,K3,K4,K5,K6,K7,K8,K9,YH].getD i undef,0,Nat.zero_le _,HP.out,rfl⟩
 intro a wr hI
 clear HP u4 u5 u6 u7 u8 O8 Xy Xz X0 X3 X4 X5 u93 X6 X7 X8 X9 X_ YA IY IZ Ia Ib Ic u105 Ie Ig Ih Ii Ij Ik Il Im Io Ip D9 D_ EA u119 FR FT FU FV u124 Ke YB u127 YC YD Kg u131 Kh Ki Kj Kk Kl FW u138 u139 FX FY FZ Fa Fb Fe Fg Fh Fj Fp Km Kn u152 Ko u154 Kq Kr Kt Ku YE YF YG u162 Kv u164 Kw Ky Kz K3 K4 K5 K6 K7 K8 K9 YH
 obtain⟨U,k,hk,hp,rfl⟩:=hI
 have HP:=AA hp
 clear hp
 refine Qc (fun K=> ∀(u4 u5 u6 u7 u8 O8 Xy Xz X0 X3 X4 X5 u93 X6 X7 X8 X9 X_ YA IY IZ Ia Ib Ic u105 Ie Ig Ih Ii Ij Ik Il Im Io Ip D9 D_ EA u119 FR FT FU FV u124 Ke YB u127 YC YD Kg u131 Kh Ki Kj Kk Kl FW u138 u139 FX FY FZ Fa Fb Fe Fg Fh Fj Fp Km Kn u152 Ko u154 Kq Kr Kt Ku YE YF YG u162 Kv u164 Kw Ky Kz K3 K4 K5 K6 K7 K8 K9 YH:Value) (wx:World),k<M→zX R p0 b0 ts hs (k+1) wx→K ⟨(List.toArray (s0::(.pointer (some ⟨R.gr,0,none⟩))::s2::s3::u4::u5::u6::u7::u8::s9::s10::s11::s12::s13::Fw::s15::s16::En::EN::GZ::s20::Eo::Ga::EO::s24::EP::Ep::Ea::Eb::Ec::Ed::E9::E_::FB::FC::FD::FE::G7::G8::G9::G_::Hf::Hl::s43::s44::Ho::Hq::Hw::GI::s49::Hz::H_::IB::s53::Gh::Gi::Gj::Gl::Gm::Gn::Gp::Gq::Gs::Gt::Gu::Gv::Ee::Er::s68::Fx::Fy::Fz::s72::F4::F5::F6::F7::F8::F9::GA::GD::GH::s82::s83::(.int .i64 (M:Int))::(.int .i64 ((k:Int)+1))::O8::Xy::Xz::X0::X3::X4::X5::u93::X6::X7::X8::X9::X_::YA::IY::IZ::Ia::Ib::Ic::u105::Ie::Ig::Ih::Ii::Ij::Ik::Il::Im::Io::Ip::D9::D_::EA::u119::FR::FT::FU::FV::u124::Ke::YB::u127::YC::YD::Kg::u131::Kh::Ki::Kj::Kk::Kl::FW::u138::u139::FX::FY::FZ::Fa::Fb::Fe::Fg::Fh::Fj::Fp::Km::Kn::u152::Ko::u154::Kq::Kr::Kt::Ku::YE::YF::YG::u162::Kv::u164::Kw::Ky::Kz::K3::K4::K5::K6::K7::K8::K9::YH::RH::RI::RJ::RL::RN::RO::RP::RQ::RS::RU::RV::RX::RY::RZ::Ra::Rb::Rf::Rh::Rj::Rk:: [])),[]⟩ wx) ?_ ?_
 ·intro u4 u5 u6 u7 u8 O8 Xy Xz X0 X3 X4 X5 u93 X6 X7 X8 X9 X_ YA IY IZ Ia Ib Ic u105 Ie Ig Ih Ii Ij Ik Il Im Io Ip D9 D_ EA u119 FR FT FU FV u124 Ke YB u127 YC YD Kg u131 Kh Ki Kj Kk Kl FW u138 u139 FX FY FZ Fa Fb Fe Fg Fh Fj Fp Km Kn u152 Ko u154 Kq Kr Kt Ku YE YF YG u162 Kv u164 Kw Ky Kz K3 K4 K5 K6 K7 K8 K9 YH wy hlt hp2
  refine⟨⟨fun i=> [u4,u5,u6,u7,u8,O8,Xy,Xz,X0,X3,X4,X5,u93,X6,X7,X8,X9,X_,YA,IY,IZ,Ia,Ib,Ic,u105,Ie,Ig,Ih,Ii,Ij,Ik,Il,Im,Io,Ip,D9,D_,EA,u119,FR,FT,FU,FV,u124,Ke,YB,u127,YC,YD,Kg,u131,Kh,Ki,Kj,Kk,Kl,FW,u138,u139,FX,FY,FZ,Fa,Fb,Fe,Fg,Fh,Fj,Fp,Km,Kn,u152,Ko,u154,Kq,Kr,Kt,Ku,YE,YF,YG,u162,Kv,u164,Kw,Ky,Kz,K3,K4,K5,K6,K7,K8,K9,YH].getD i undef,k+1,hlt,hp2,rfl⟩,?_⟩
  show M-(intOf (.int .i64 ((k+1:Nat):Int))).toNat<M-(intOf (.int .i64 (k:Int))).toNat
  simp [intOf]
  omega
 intro K HK
 conv=>arg 2;whnf
 have hk0:(0:Int)≤k:=by omega
 by_cases hlt:k<M
 ·have KU:(k:Int)<M:=by omega
  clear HX
  obtain⟨gs,q,hh,hl,ha,he⟩:=HP.out
  have HH:=AA hh;have HA:=AA ha;have HE:=AA he
  have hgl:gs.length≤64:=by omega
  have Wu:=AA hl
  have hrl:=hh.kG;have hol:=hh.qJ;have hgB:=hh.gB;have htop:=hh.top
  have P0:=AA hh.pr
  have MG:=AA (Zo (l:=R.l) HH.out.inp HH.out.rd ha.le HH.out.i2)
  clear hh ha he hl
  obtain⟨col,v1,v2,v3,v6,v7,v8,hds⟩:=HH.out.ds
  obtain⟨A2,c2,BJ,e2,hP⟩:=hds.six.p3
  subst e2
  have V7:=AA hds;have NT:=AA hP;have HO:=AA hds.out;have ME:=AA hds.ne
  have Vi:Hid (∀k,(Value.slice A2 gs.length c2).ownBlock=some k→k≠R.rg):=AA (fun k hk e=>by have h1:=(hP.lt k hk).1;have h2:=hds.l2;omega)
  have UC:=AA (HH.out.kH (hP.far (by decide) hds.zz))
  have HOW:Hid (∀k,(Value.slice A2 gs.length c2).ownBlock=some k→k<wr.heap.size):=AA (fun k hk=>(hP.lt k hk).2)
  clear hds hP
  have ag:=Ao.gr HH.out P0.out
  go_wp2_with fail
  refine MG.out.mono ?_
  rintro e w1 ⟨hk1,⟨v,bs,q1,rfl,⟨x,rfl,rfl⟩,ha1,hr1⟩ | ⟨en,a1,h1,rfl⟩⟩
  case inr=>
   have H1:=AA h1;have JF:=AA ((HH.out).OW hk1);clear h1
   go_wp2_with fail
   exact HT.out _ _ _ _ H1.out rfl JF.out
  have P1:Hid (Ao R wr w1 0 q1):=AA (P0.out.V6 hk1 hr1)
  have HA1:=AA ha1
  have hs1:wr.heap.size≤w1.heap.size:=hk1.size
  clear hk1 hr1 ha1 MG ag
  go_upto_region 16 with fail
  generalize hw2:World.alloc _ _=w2
  have OU:Hid (AL w2 w1.heap.size 82 [.int .u8 (x.toNat:Int),.bool false,.int .u64 0]):=AA (by rw [←hw2];exact AL.new w1 _ _)
  have P2:Hid (Ao R wr w2 0 q1):=AA (by rw [←hw2];exact P1.out.alloc _)
  clear hw2
  refine Aa ?_
  refine wp_region_held_drew (S:=fun W=>W.cell? ⟨R.gr,0,none⟩=some (.pointer (some ⟨R.rg,0,none⟩))∧W.cell? ⟨R.rg,3,none⟩=some (.int .i64 (q1:Nat))∧W.cell? ⟨w1.heap.size,0,none⟩=some (.int .u8 (x.toNat:Int))) (by kernel_rfl) ⟨Ao.gr HH.out P2.out.drew,P2.out.drew.r3,(OU.out.drewN 1).cell 0⟩ (fun hHeld=> ?_)
  have GN:Hid (Ao R wr w2.drew 0 q1):=AA P2.out.drew
  have ABs:Hid (AL w2.drew w1.heap.size 82 [.int .u8 (x.toNat:Int),.bool false,.int .u64 0]):=AA (OU.out.drewN 1)
  generalize w2.drew=CP at*
  refine AB (i:=0) (v:= ?_) rfl (by kernel_rfl) (fun _ _ _ h=>h) (by intro w hSw;(try dsimp only at hSw);go_simp;try with_reducible rfl) hHeld ?_
  refine AB (i:=1) (v:= ?_) rfl (by kernel_rfl) (fun _ _ _ h=>h) (by intro w hSw;(try dsimp only at hSw);go_simp;try with_reducible rfl) hHeld ?_
  refine AB (i:=3) (v:= ?_) rfl (by kernel_rfl) (fun _ _ _ h=>h) (by intro w hSw;(try dsimp only at hSw);go_simp;try with_reducible rfl) hHeld ?_
  refine AB (i:=4) (v:= ?_) rfl (by kernel_rfl) (fun _ _ _ h=>h) (by intro w hSw;(try dsimp only at hSw);go_simp;try with_reducible rfl) hHeld ?_
  refine AB (i:=5) (v:= ?_) rfl (by kernel_rfl) (fun _ _ _ h=>h) (by intro w hSw;(try dsimp only at hSw);go_simp;try with_reducible rfl) hHeld ?_
  refine AB (i:=6) (v:= ?_) rfl (by kernel_rfl) (fun _ _ _ h=>h) (by intro w hSw;(try dsimp only at hSw);go_simp;try with_reducible rfl) hHeld ?_
  refine AB (i:=7) (v:= ?_) rfl (by kernel_rfl) (fun _ _ _ h=>h) (by intro w hSw;(try dsimp only at hSw);go_simp;try with_reducible rfl) hHeld ?_
  refine wpAnyH_ready (rs:= [2]) (by kernel_rfl) (by simp) ?_
  refine AllReadyH.cons rfl (fun K hK=> ?_) AllReadyH.nil
  go_simp
  go_at_call 105
  refine(Nj x.toNat (UInt8.toNat_lt x) _).mono ?_
  rintro e w' ⟨rfl,rfl⟩
  refine hK.out _ _ hHeld (fun Ag=> ?_)
  clear hK K
  refine wpAnyH_ready (rs:= [8]) (by kernel_rfl) (by simp) ?_
  refine AllReadyH.cons rfl (fun K hK=> ?_) AllReadyH.nil
  go_simp
  go_at_call 68
  refine(DT _ 15 _ (by decide) _).mono ?_
  rintro e w' ⟨rfl,⟨h0,rfl⟩ | ⟨h0,rfl⟩⟩
  case inr=>
   have JF:=AA (GN.out.OW HH.out)
   exact BG.thrown (fun ax hd=>HT.out _ _ ax _ h0 hd JF.out)
  have HLT:Hid (Qg x.toNat=true):=AA (Bw (by decide) h0)
  clear h0
  refine hK.out _ _ hHeld (fun OC=> ?_)
  clear hK K
  refine wpAnyH_done (by kernel_rfl) ?_ _
  refine BG.normal ?_
  have HL2:=AA (Zo (l:=R.l) (Ao.inp HH.out GN.out) GN.out.rd HA1.out.le HH.out.i2)
  have ag:=Ao.gr HH.out GN.out
  go_wp2_with fail
  refine HL2.out.mono ?_
  rintro e w3 ⟨hk3,⟨v,bs,q3,rfl,⟨c,rfl,rfl⟩,wY,hr3⟩ | ⟨en,a1,h1,rfl⟩⟩
  case inr=>
   have H1:=AA h1;have JF:=AA ((HH.out).OW (GN.out.kp.trans hk3));clear h1
   go_wp2_with fail
   exact HT.out _ _ _ _ H1.out rfl JF.out
  have P3:Hid (Ao R wr w3 0 q3):=AA (GN.out.V6 hk3 hr3)
  have wZ:=AA (ABs.out.keep hk3 (by omega))
  have HA3:=AA (HA1.out.trans wY)
  obtain⟨b,hbe⟩: ∃b:Bool,((c.toNat:Int)==1)=b:=⟨_,rfl⟩
  have HBE:Hid ((c.toNat==1)=b):=AA (by rw [←hbe,Bool.eq_iff_iff,beq_iff_eq,beq_iff_eq];omega)
  clear hk3 hr3 wY HL2 ag ABs GN hHeld Ag OC
  have ag:=Ao.gr HH.out P3.out
  have aq:=P3.out.r3
  go_wp2_with fail
  refine(DT _ 17 _ (by decide) _).mono ?_
  rintro e w' ⟨rfl,⟨h0,rfl⟩ | ⟨h0,rfl⟩⟩
  case inr=>
   have H1:=AA h0;have JF:=AA (P3.out.OW HH.out);clear h0
   go_wp2_with fail
   exact HT.out _ _ _ _ H1.out rfl JF.out
  have HC1:Hid (c.toNat≤1):=AA (by have:=of_decide_eq_true (Bw (by decide) h0);omega)
  have xf:=wZ.out.frozen 1
  have xc:=wZ.out.q 1 rfl
  clear h0 ag aq
  go_upto_region 20 with fail
  generalize hw4:World.setCell _ _ _=w4
  have Zz:Hid (AL w4 w1.heap.size 82 [.int .u8 (x.toNat:Int),.bool b,.int .u64 0]):=AA (by rw [←hw4];exact wZ.out.set 1 _)
  have P4:Hid (Ao R wr w4 0 q3):=AA (by rw [←hw4];exact P3.out.set (a:=⟨w1.heap.size,1,none⟩) hs1 (show w1.heap.size≠R.rg by omega) _)
  clear hw4 xf xc hbe
  have HI4:=AA (Ao.inp HH.out P4.out)
  have HC:=AA (fun W (hr:Row W R.Bi R.A (R.l.map bv))=>QI R.A R.n R.c R.Bi q3 W R.l HI4.out.len (by have:=HI4.out.le;have:=HI4.out.len;omega) hr)
  have HRW:Hid (Row w4.drew R.Bi R.A (R.l.map bv)):=AA HI4.out.row
  have HU:Hid ((Ef R.l q3).1<18446744073709551616):=AA (IG R.l q3).1
  generalize huv:Ef R.l q3=uv at HC HU
  obtain⟨u,q5,en⟩:=uv
  have Huv:=AA huv;clear huv
  simp only at HC HU
  obtain⟨v,hv⟩: ∃v,v=unfolded u:=⟨_,rfl⟩
  have HVR:=AA (OZ u HU.out)
  rw [←hv] at HC HVR
  have HV:=AA hv
  clear hv
  refine Aa ?_
  refine wp_region_held_drew (S:=fun W=>W.cell? ⟨R.gr,0,none⟩=some (.pointer (some ⟨R.rg,0,none⟩))∧W.cell? ⟨R.rg,2,none⟩=some (.slice R.A R.n R.c)∧W.cell? ⟨R.rg,3,none⟩=some (.int .i64 (q3:Nat))) (by kernel_rfl) ⟨Ao.gr HH.out P4.out.drew,P4.out.drew.r2,P4.out.drew.r3⟩ (fun hHeld=> ?_)
  have GN:Hid (Ao R wr w4.drew 0 q3):=AA P4.out.drew
  have qO:Hid (AL w4.drew w1.heap.size 82 [.int .u8 (x.toNat:Int),.bool b,.int .u64 0]):=AA (Zz.out.drewN 1)
  generalize w4.drew=CP at*
  refine AB (i:=0) (v:= ?_) rfl (by kernel_rfl) (fun _ _ _ h=>h) (by intro w hSw;(try dsimp only at hSw);go_simp;try with_reducible rfl) hHeld ?_
  refine AB (i:=1) (v:= ?_) rfl (by kernel_rfl) (fun _ _ _ h=>h) (by intro w hSw;(try dsimp only at hSw);go_simp;try with_reducible rfl) hHeld ?_
  refine AB (i:=2) (v:= ?_) rfl (by kernel_rfl) (fun _ _ _ h=>h) (by intro w hSw;(try dsimp only at hSw);go_simp;try with_reducible rfl) hHeld ?_
  refine AB (i:=3) (v:= ?_) rfl (by kernel_rfl) (fun _ _ _ h=>h) (by intro w hSw;(try dsimp only at hSw);go_simp;try with_reducible rfl) hHeld ?_
  refine AB (i:=4) (v:= ?_) rfl (by kernel_rfl) (fun _ _ _ h=>h) (by intro w hSw;(try dsimp only at hSw);go_simp;try with_reducible rfl) hHeld ?_
  refine AB (i:=5) (v:= ?_) rfl (by kernel_rfl) (fun _ _ _ h=>h) (by intro w hSw;(try dsimp only at hSw);go_simp;try with_reducible rfl) hHeld ?_
  refine AB (i:=6) (v:= ?_) rfl (by kernel_rfl) (fun _ _ _ h=>h) (by intro w hSw;(try dsimp only at hSw);go_simp;try with_reducible rfl) hHeld ?_
  refine AB (i:=7) (v:= ?_) rfl (by kernel_rfl) (fun _ _ _ h=>h) (by intro w hSw;(try dsimp only at hSw);go_simp;try with_reducible rfl) hHeld ?_
  refine wpAnyH_ready (rs:= [8]) (by kernel_rfl) (by simp) ?_
  refine AllReadyH.cons rfl (fun K hK=> ?_) AllReadyH.nil
  go_simp
  go_at_call 106
  refine(HC.out _ HRW.out).mono ?_
  rintro e w' ⟨rfl,rfl⟩
  refine hK.out _ _ hHeld (fun OC=> ?_)
  clear hK K
  refine AB (i:=9) (v:= ?_) rfl (by kernel_rfl) (fun _ _ _ h=>h) (by intro w hSw;(try dsimp only at hSw);go_simp;try with_reducible rfl) OC ?_
  refine AB (i:=10) (v:= ?_) rfl (by kernel_rfl) (fun _ _ _ h=>h) (by intro w hSw;(try dsimp only at hSw);go_simp;try with_reducible rfl) OC ?_
  refine AB (i:=11) (v:= ?_) rfl (by kernel_rfl) (fun _ _ _ h=>h) (by intro w hSw;(try dsimp only at hSw);go_simp;try with_reducible rfl) OC ?_
  refine AB (i:=12) (v:= ?_) rfl (by kernel_rfl) (fun _ _ _ h=>h) (by intro w hSw;(try dsimp only at hSw);go_simp;try with_reducible rfl) OC ?_
  refine AB (i:=13) (v:= ?_) rfl (by kernel_rfl) (fun _ _ _ h=>h) (by intro w hSw;(try dsimp only at hSw);go_simp;try with_reducible rfl) OC ?_
  refine AB (i:=14) (v:= ?_) rfl (by kernel_rfl) (fun _ _ _ h=>h) (by intro w hSw;(try dsimp only at hSw);go_simp;try with_reducible rfl) OC ?_
  refine AB (i:=15) (v:= ?_) rfl (by kernel_rfl) (fun _ _ _ h=>h) (by intro w hSw;(try dsimp only at hSw);go_simp;try with_reducible rfl) OC ?_
  refine wpAnyH_done (by kernel_rfl) ?_ _
  refine BG.normal ?_
  have ag:=Ao.gr HH.out GN.out
  have aq:=GN.out.r3
  by_cases hen:en=0
  case neg=>
   have hd:((en:Int)==0)=false:=beq_eq_false_iff_ne.2 (by omega)
   have Z9:Hid ((en:Int)≠0):=AA (by omega)
   have JF:=AA (GN.out.OW HH.out)
   clear hen
   go_wp2_with fail
   refine(Ah _ _ _).mono ?_
   rintro e w' ⟨rfl,rfl⟩
   go_wp2_with fail
   exact HT.out _ _ _ _ Z9.out rfl JF.out
  subst hen
  have hd:(((0:Nat):Int)==0)=true:=rfl
  have HAV:Hid (K_ R.l q3 (enc (folded v)) q5):=AA (by rw [HV.out];exact Zl Huv.out)
  go_wp2_with fail
  refine(Af _ _ _).mono ?_
  rintro e w' ⟨rfl,rfl⟩
  have xf:=qO.out.frozen 2
  have xc:=qO.out.q 2 rfl
  have x0:=qO.out.q 0 rfl
  obtain⟨vw,hvw⟩: ∃vw,IntKind.u64.wrap v=vw:=⟨_,rfl⟩
  have HVW:Hid (vw=((v%18446744073709551616).toNat:Int)):=AA (by have:=HVR.out;rw [←hvw,IntKind.wrap_u64];omega)
  clear ag aq
  go_upto_if 138 with fail
  generalize Mr:World.setCell _ _ _=w5
  have Qw:Hid (AL w5 w1.heap.size 82 [.int .u8 (x.toNat:Int),.bool b,.int .u64 vw]):=AA (by rw [←Mr];exact qO.out.set 2 _)
  have P5:Hid (Ao R wr w5 0 q3):=AA (by rw [←Mr];exact GN.out.set (a:=⟨w1.heap.size,2,none⟩) hs1 (show w1.heap.size≠R.rg by omega) _)
  clear Mr xf xc x0 hvw Zz P4 qO GN wZ P3 OU P2 P1 hd
  go_cut [] from 138 to 152 (fun wx=>Ao R wr wx 0 q3∧AL wx w1.heap.size 82 [.int .u8 (x.toNat:Int),.bool b,.int .u64 ((if x.toNat=119 then v%4294967296 else v%18446744073709551616).toNat:Int)]∧(x.toNat=119→ -2147483648≤v∧v<2147483648))
  case first=>
   by_cases h119:x.toNat=119
   ·have hd:((x.toNat:Int)==119)=true:=beq_iff_eq.2 (by omega)
    have vF:=AA h119
    obtain⟨z,hz⟩: ∃z,IntKind.i32.wrap v=z:=⟨_,rfl⟩
    have HZ:=AA hz
    have hzr: -2147483648≤z∧z<2147483648:=by rw [←hz,IntKind.wrap_i32];omega
    obtain⟨y,hy⟩: ∃y,IntKind.u32.wrap v=y:=⟨_,rfl⟩
    have hyr:0≤y∧y<4294967296:=by rw [←hy,IntKind.wrap_u32];omega
    have HY:Hid (y=((v%4294967296).toNat:Int)):=AA (by rw [←hy,IntKind.wrap_u32];omega)
    have hy64:IntKind.u64.wrap y=y:=by rw [IntKind.wrap_u64];omega
    have hz64:IntKind.i64.wrap z=z:=by rw [IntKind.wrap_i64];omega
    have xf:=Qw.out.frozen 2
    have xc:=Qw.out.q 2 rfl
    have ag:=Ao.gr HH.out P5.out
    have aq:=P5.out.r3
    have hzw:wrap64 z=z:=by unfold wrap64;omega
    clear h119 hzr hyr
    by_cases hvz:v=z
    case neg=>
     have hb:(v==z)=false:=beq_eq_false_iff_ne.2 hvz
     have JF:=AA (P5.out.OW HH.out)
     clear hvz
     go_wp2_with fail
     refine(Ah _ _ _).mono ?_
     rintro e w' ⟨rfl,rfl⟩
     go_wp2_with fail
     exact HT.out _ _ _ _ (by decide) rfl JF.out
    have hb:(v==z)=true:=beq_iff_eq.2 hvz
    have HVZ:=AA hvz
    clear hvz
    go_wp2_with fail
    refine(Af _ _ _).mono ?_
    rintro e w' ⟨rfl,rfl⟩
    go_wp2_with fail
    go_meet
    refine⟨P5.out.set (a:=⟨w1.heap.size,2,none⟩) hs1 (show w1.heap.size≠R.rg by omega) _,?_,fun _=> ?_⟩
    ·rw [if_pos vF.out,←HY.out]
     exact Qw.out.set 2 _
    ·have h1:=HZ.out;have h2:=HVZ.out
     rw [IntKind.wrap_i32] at h1
     clear hzw hz64 hy64
     omega
   ·have hd:((x.toNat:Int)==119)=false:=beq_eq_false_iff_ne.2 (by omega)
    have vF:=AA h119
    clear h119
    go_wp2_with fail
    go_meet
    refine⟨P5.out,?_,fun h=>absurd h vF.out⟩
    rw [if_neg vF.out,←HVW.out]
    exact Qw.out
  case rest=>
   obtain⟨zL,hx6,h119⟩:=hcut
   have zZ:=AA (j_ HVR.out HC1.out HLT.out h119)
   dsimp only at zZ
   rw [HBE.out] at zZ
   obtain⟨vv,hvv⟩: ∃vv:Nat,(if x.toNat=119 then v%4294967296 else v%18446744073709551616).toNat=vv:=⟨_,rfl⟩
   rw [hvv] at zZ hx6
   have P6:=AA zL;have yS:=AA hx6
   have HFT:=AA zZ.out.1
   have HVV:Hid (vv<18446744073709551616):=AA zZ.out.2.1
   have HAG:Hid (K_ R.l q (Jj ⟨x,b,vv⟩) q5):=AA (by rw [zZ.out.2.2];exact HA3.out.trans HAV.out)
   clear zL hx6 h119 hvv zZ
   have ag:=Ao.gr HH.out P6.out
   have aq:=P6.out.r3
   have af:=AL.frozen P6.out.rd 3
   go_upto_region 27 with fail
   generalize hw7:World.setCell _ _ _=w7
   have P7:Hid (Ao R wr w7 0 q5):=AA (by rw [←hw7];exact P6.out.go q5)
   have UD:Hid (AL w7 w1.heap.size 82 [.int .u8 (x.toNat:Int),.bool b,.int .u64 (vv:Int)]):=AA (by rw [←hw7];exact yS.out.far (p:=⟨R.rg,3,none⟩) (show w1.heap.size≠R.rg by omega) _)
   clear hw7 ag aq af
   have Tv:Hid ((Value.slice A2 gs.length c2).ownBlock≠some w1.heap.size):=AA (fun e=>by have:=HOW.out _ e;omega)
   have LA:Hid (w1.heap.size≠R.og):=AA (by omega)
   obtain⟨i0,hi0,hz,hs',hby⟩:=info_parts Lm
   refine Aa ?_
   have GN:Hid (Ao R wr w7.drew 0 q5):=AA P7.out.drew
   have DJ:Hid (AL w7.drew (w1.heap.size) 82 [.int .u8 (x.toNat:Int),.bool b,.int .u64 (vv:Int)]):=AA (UD.out.drewN 1)
   refine wp_region_held_drew (S:=fun W=>W.cell? ⟨R.gr,0,none⟩=some (.pointer (some ⟨R.rg,0,none⟩))∧W.cell? ⟨R.rg,0,none⟩=some (.pointer (some ⟨R.og,0,none⟩))∧W.cell? ⟨w1.heap.size,0,none⟩=some (.int .u8 (x.toNat:Int))∧W.cell? ⟨w1.heap.size,1,none⟩=some (.bool b)∧W.cell? ⟨w1.heap.size,2,none⟩=some (.int .u64 (vv:Int))) (by kernel_rfl) ⟨Ao.gr HH.out GN.out,GN.out.r0,DJ.out.cell 0,DJ.out.cell 1,DJ.out.cell 2⟩ (fun hHeld=> ?_)
   generalize w7.drew=CP at*
   refine AB (i:=0) (v:= ?_) rfl (by kernel_rfl) (fun _ _ _ h=>h) (by intro w hSw;(try dsimp only at hSw);go_simp;try with_reducible rfl) hHeld ?_
   refine AB (i:=1) (v:= ?_) rfl (by kernel_rfl) (fun _ _ _ h=>h) (by intro w hSw;(try dsimp only at hSw);go_simp;try with_reducible rfl) hHeld ?_
   refine AB (i:=2) (v:= ?_) rfl (by kernel_rfl) (fun _ _ _ h=>h) (by intro w hSw;(try dsimp only at hSw);go_simp;try with_reducible rfl) hHeld ?_
   refine AB (i:=3) (v:= ?_) rfl (by kernel_rfl) (fun _ _ _ h=>h) (by intro w hSw;(try dsimp only at hSw);go_simp;try with_reducible rfl) hHeld ?_
   refine AB (i:=4) (v:= ?_) rfl (by kernel_rfl) (fun _ _ _ h=>h) (by intro w hSw;(try dsimp only at hSw);go_simp;try with_reducible rfl) hHeld ?_
   refine AB (i:=5) (v:= ?_) rfl (by kernel_rfl) (fun _ _ _ h=>h) (by intro w hSw;(try dsimp only at hSw);go_simp;try with_reducible rfl) hHeld ?_
   refine AB (i:=6) (v:= ?_) rfl (by kernel_rfl) (fun _ _ _ h=>h) (by intro w hSw;(try dsimp only at hSw);go_simp;try with_reducible rfl) hHeld ?_
   refine AB (i:=7) (v:= ?_) rfl (by kernel_rfl) (fun _ _ _ h=>h) (by intro w hSw;(try dsimp only at hSw);go_simp;try with_reducible rfl) hHeld ?_
   refine AB (i:=8) (v:= ?_) rfl (by kernel_rfl) (fun _ _ _ h=>h) (by intro w hSw;(try dsimp only at hSw);go_simp;try with_reducible rfl) hHeld ?_
   refine AB (i:=9) (v:= ?_) rfl (by kernel_rfl) (fun _ _ _ h=>h) (by intro w hSw;(try dsimp only at hSw);go_simp;try with_reducible rfl) hHeld ?_
   refine AB (i:=10) (v:= ?_) rfl (by kernel_rfl) (fun _ _ _ h=>h) (by intro w hSw;(try dsimp only at hSw);go_simp;try with_reducible rfl) hHeld ?_
   refine AB (i:=11) (v:= ?_) rfl (by kernel_rfl) (fun _ _ _ h=>h) (by intro w hSw;(try dsimp only at hSw);go_simp;try with_reducible rfl) hHeld ?_
   refine AB (i:=13) (v:= ?_) rfl (by kernel_rfl) (fun _ _ _ h=>h) (by intro w hSw;(try dsimp only at hSw);go_simp;try with_reducible rfl) hHeld ?_
   refine wpAnyH_ready (rs:= [12,14]) (by kernel_rfl) (by simp) ?_
   refine AllReadyH.cons rfl (fun K hK=> ?_) (AllReadyH.cons rfl (fun K hK=> ?_) AllReadyH.nil)
   ·have gl:=(HO.out.keep GN.out.kp ME.out).q 2 rfl
    go_simp
    refine hK.out _ _ ⟨Ao.gr HH.out GN.out,GN.out.r0,DJ.out.cell 0,DJ.out.cell 1,DJ.out.cell 2⟩ (fun Rm=> ?_)
    clear hK K gl
    refine wpAnyH_ready (rs:= [14]) (by kernel_rfl) (by simp) ?_
    refine AllReadyH.cons rfl (fun K hK=> ?_) AllReadyH.nil
    go_simp
    have N_:Hid (Ao R wr (CP.alloc (.cells #[.int .u8 (x.toNat:Int),.bool b,.int .u64 (vv:Int)] 82)) 0 q5):=AA (GN.out.alloc _)
    have GQ:Hid (AL (CP.alloc (.cells #[.int .u8 (x.toNat:Int),.bool b,.int .u64 (vv:Int)] 82)) (w1.heap.size) 82 [.int .u8 (x.toNat:Int),.bool b,.int .u64 (vv:Int)]):=AA (DJ.out.alloc _)
    have HRW:Hid (Row (CP.alloc (.cells #[.int .u8 (x.toNat:Int),.bool b,.int .u64 (vv:Int)] 82)) (CP.heap.size+1) (some ⟨CP.heap.size,0,none⟩) [.int .u8 (x.toNat:Int),.bool b,.int .u64 (vv:Int)]):=AA (Ak CP [.int .u8 (x.toNat:Int),.bool b,.int .u64 (vv:Int)] 82)
    refine hK.out _ _ ⟨Ao.gr HH.out N_.out,N_.out.r0,GQ.out.cell 0,GQ.out.cell 1,GQ.out.cell 2⟩ (fun OA=> ?_)
    clear hK K
    generalize hwn:CP.alloc (.cells #[.int .u8 (x.toNat:Int),.bool b,.int .u64 (vv:Int)] 82)=Rn at*
    clear hwn
    refine wpAnyH_ready (rs:= [15]) (by kernel_rfl) (by simp) ?_
    refine AllReadyH.cons rfl (fun K hK=> ?_) AllReadyH.nil
    refine Au rfl (.tmp 169) (.tmp 171) 24 rfl R.B 82 i0 _ 3 16 underlying24 hi0 hz hs' hby rfl (by omega) _ gs.length BJ rfl (BD NT.out.own N_.out.kp Vi.out) (CP.heap.size+1) _ 1 1 [.int .u8 (x.toNat:Int),.bool b,.int .u64 (vv:Int)] rfl rfl HRW.out (by intro u hu;simp at hu;rcases hu with rfl | rfl | rfl<;>rfl) (by unfold maxLen;omega) (by omega) (by have:=N_.out.kp.size;omega) ?_
    intro A4 c4 cO h2 h3 h4
    have EZ:=Ao.cB HH.out N_.out UC.out h3
    have LC:=EZ.2.2 _ HO.out
    have ET:Hid (AL cO (w1.heap.size) 82 [.int .u8 (x.toNat:Int),.bool b,.int .u64 (vv:Int)]):=AA ((h3.block _ GQ.out.lt (fun e=>Tv.out e.symm)).trans GQ.out)
    have Ir:=AA LC;have fq:=AA EZ;have H2:=AA h2;have H3:=AA h3;have H4:=AA h4
    refine hK.out _ _ ⟨EZ.1.cell 0,AL.cell EZ.2.1 0,ET.out.cell 0,ET.out.cell 1,ET.out.cell 2⟩ (fun Ay=> ?_)
    clear hK K h2 h3 h4 EZ LC
    refine AB (i:=16) (v:= ?_) rfl (by kernel_rfl) (fun _ _ _ h=>h) (by intro w hSw;(try dsimp only at hSw);go_simp;try with_reducible rfl) Ay ?_
    refine AB (i:=17) (v:= ?_) rfl (by kernel_rfl) (fun _ _ _ h=>h) (by intro w hSw;(try dsimp only at hSw);go_simp;try with_reducible rfl) Ay ?_
    refine wpAnyH_ready (rs:= [18]) (by kernel_rfl) (by simp) ?_
    refine AllReadyH.cons rfl (fun K hK=> ?_) AllReadyH.nil
    have ys:=Ir.out.cell 2;have yf:=Ir.out.frozen 2
    go_simp
    have HST:Hid (HR R (cO.setCell ⟨R.og,2,none⟩ (.slice A4 (gs.length+1) c4)) (MX ts hs (gs++ [⟨x,b,vv⟩]) 0 0) 0 q5):=AA (HH.out.step (DS.Uu (m:=MX ts hs gs 0 0) V7.out NT.out N_.out.kp N_.out.rd (lo:=Rn.heap.size) (hi:=Rn.heap.size) (x:=⟨x,b,vv⟩) (Jw.2 ⟨rfl,HVV.out⟩) (by have:=N_.out.kp.size;exact this) (Nat.le_refl _) H2.out H3.out H4.out))
    refine hK.out _ _ ⟨HST.out.box.cell 0,AL.cell HST.out.rd 0,(ET.out.far (p:=⟨R.og,2,none⟩) LA.out _).cell 0,(ET.out.far (p:=⟨R.og,2,none⟩) LA.out _).cell 1,(ET.out.far (p:=⟨R.og,2,none⟩) LA.out _).cell 2⟩ (fun Iq=> ?_)
    clear hK K ys yf
    refine wpAnyH_done (by kernel_rfl) ?_ _
    refine BG.normal ?_
    have Dz:Hid (zX R p0 b0 ts hs (k+1) _):=AA ⟨gs++ [⟨x,b,vv⟩],q5,HST.out,by rw [List.length_append,Wu.out];rfl,by rw [DK,←List.append_assoc];exact HA.out.trans HAG.out,Ve (m:=MX ts hs gs 0 0) HE.out HLT.out HFT.out⟩
    go_wp2_with fail
    apply HK.out
    ·exact hlt
    ·exact Dz.out
   ·go_simp
    have Pk:Hid (Ao R wr (CP.alloc (.cells #[.int .u8 (x.toNat:Int),.bool b,.int .u64 (vv:Int)] 82)) 0 q5):=AA (GN.out.alloc _)
    have Dr:Hid (AL (CP.alloc (.cells #[.int .u8 (x.toNat:Int),.bool b,.int .u64 (vv:Int)] 82)) (w1.heap.size) 82 [.int .u8 (x.toNat:Int),.bool b,.int .u64 (vv:Int)]):=AA (DJ.out.alloc _)
    have HRW:Hid (Row (CP.alloc (.cells #[.int .u8 (x.toNat:Int),.bool b,.int .u64 (vv:Int)] 82)) (CP.heap.size+1) (some ⟨CP.heap.size,0,none⟩) [.int .u8 (x.toNat:Int),.bool b,.int .u64 (vv:Int)]):=AA (Ak CP [.int .u8 (x.toNat:Int),.bool b,.int .u64 (vv:Int)] 82)
    refine hK.out _ _ ⟨Ao.gr HH.out Pk.out,Pk.out.r0,Dr.out.cell 0,Dr.out.cell 1,Dr.out.cell 2⟩ (fun fu=> ?_)
    clear hK K
    generalize hwn:CP.alloc (.cells #[.int .u8 (x.toNat:Int),.bool b,.int .u64 (vv:Int)] 82)=kI at*
    clear hwn
    refine wpAnyH_ready (rs:= [12]) (by kernel_rfl) (by simp) ?_
    refine AllReadyH.cons rfl (fun K hK=> ?_) AllReadyH.nil
    have gl:=(HO.out.keep Pk.out.kp ME.out).q 2 rfl
    go_simp
    refine hK.out _ _ ⟨Ao.gr HH.out Pk.out,Pk.out.r0,Dr.out.cell 0,Dr.out.cell 1,Dr.out.cell 2⟩ (fun OB=> ?_)
    clear hK K gl
    refine wpAnyH_ready (rs:= [15]) (by kernel_rfl) (by simp) ?_
    refine AllReadyH.cons rfl (fun K hK=> ?_) AllReadyH.nil
    refine Au rfl (.tmp 169) (.tmp 171) 24 rfl R.B 82 i0 _ 3 16 underlying24 hi0 hz hs' hby rfl (by omega) _ gs.length BJ rfl (BD NT.out.own Pk.out.kp Vi.out) (CP.heap.size+1) _ 1 1 [.int .u8 (x.toNat:Int),.bool b,.int .u64 (vv:Int)] rfl rfl HRW.out (by intro u hu;simp at hu;rcases hu with rfl | rfl | rfl<;>rfl) (by unfold maxLen;omega) (by omega) (by have:=Pk.out.kp.size;omega) ?_
    intro A4 c4 wh h2 h3 h4
    have EZ:=Ao.cB HH.out Pk.out UC.out h3
    have LC:=EZ.2.2 _ HO.out
    have IC:Hid (AL wh (w1.heap.size) 82 [.int .u8 (x.toNat:Int),.bool b,.int .u64 (vv:Int)]):=AA ((h3.block _ Dr.out.lt (fun e=>Tv.out e.symm)).trans Dr.out)
    have Ir:=AA LC;have fq:=AA EZ;have H2:=AA h2;have H3:=AA h3;have H4:=AA h4
    refine hK.out _ _ ⟨EZ.1.cell 0,AL.cell EZ.2.1 0,IC.out.cell 0,IC.out.cell 1,IC.out.cell 2⟩ (fun Ay=> ?_)
    clear hK K h2 h3 h4 EZ LC
    refine AB (i:=16) (v:= ?_) rfl (by kernel_rfl) (fun _ _ _ h=>h) (by intro w hSw;(try dsimp only at hSw);go_simp;try with_reducible rfl) Ay ?_
    refine AB (i:=17) (v:= ?_) rfl (by kernel_rfl) (fun _ _ _ h=>h) (by intro w hSw;(try dsimp only at hSw);go_simp;try with_reducible rfl) Ay ?_
    refine wpAnyH_ready (rs:= [18]) (by kernel_rfl) (by simp) ?_
    refine AllReadyH.cons rfl (fun K hK=> ?_) AllReadyH.nil
    have ys:=Ir.out.cell 2;have yf:=Ir.out.frozen 2
    go_simp
    have HST:Hid (HR R (wh.setCell ⟨R.og,2,none⟩ (.slice A4 (gs.length+1) c4)) (MX ts hs (gs++ [⟨x,b,vv⟩]) 0 0) 0 q5):=AA (HH.out.step (DS.Uu (m:=MX ts hs gs 0 0) V7.out NT.out Pk.out.kp Pk.out.rd (lo:=kI.heap.size) (hi:=kI.heap.size) (x:=⟨x,b,vv⟩) (Jw.2 ⟨rfl,HVV.out⟩) (by have:=Pk.out.kp.size;exact this) (Nat.le_refl _) H2.out H3.out H4.out))
    refine hK.out _ _ ⟨HST.out.box.cell 0,AL.cell HST.out.rd 0,(IC.out.far (p:=⟨R.og,2,none⟩) LA.out _).cell 0,(IC.out.far (p:=⟨R.og,2,none⟩) LA.out _).cell 1,(IC.out.far (p:=⟨R.og,2,none⟩) LA.out _).cell 2⟩ (fun Iq=> ?_)
    clear hK K ys yf
    refine wpAnyH_done (by kernel_rfl) ?_ _
    refine BG.normal ?_
    have Dz:Hid (zX R p0 b0 ts hs (k+1) _):=AA ⟨gs++ [⟨x,b,vv⟩],q5,HST.out,by rw [List.length_append,Wu.out];rfl,by rw [DK,←List.append_assoc];exact HA.out.trans HAG.out,Ve (m:=MX ts hs gs 0 0) HE.out HLT.out HFT.out⟩
    go_wp2_with fail
    apply HK.out
    ·exact hlt
    ·exact Dz.out
 ·obtain rfl:k=M:=by omega
  have Sj:=HP
  clear HK
  go_wp2_with fail
  apply HX.out
  exact Sj.out
end Go.Proofs.YtejbcledkhioeaaGreatDoor
