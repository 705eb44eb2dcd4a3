/- Part 32 of the proof: DecK DecL DecN -/
import Derived.Test.YtejbcledkhioeaaGreatDoorQ21
import Derived.Test.YtejbcledkhioeaaGreatDoorQ28
import Derived.Test.YtejbcledkhioeaaGreatDoorQ29
namespace Go.Proofs.YtejbcledkhioeaaGreatDoor
set_option linter.unusedVariables false
set_option linter.unusedSimpArgs false
set_option maxRecDepth 100000
set_option maxHeartbeats 4000000
open Go.RowKit Tryz
def BG (Q:Exit→Act→World→Prop):Exit→Act→World→Prop
 | .panic c,a,w=> ∀a':Act,a'.defers=a.defers→Q (.panic c) a' w
 | e,a,w=>Q e a w
theorem BG.imp {Q:Exit→Act→World→Prop}: ∀(e:Exit) (a:Act) (w:World),BG Q e a w→Q e a w:=fun e a w h=>by
 cases e<;>first | exact h | exact(h a rfl)
theorem Aa {P:Program} {id:Nat} {ops:Array Oper} {b:Bool} {Q:Exit→Act→World→Prop} {a:Act} {w:World} (h:(Code.region id ops b).wp P (BG Q) a w):(Code.region id ops b).wp P Q a w:=Code.wp_mono BG.imp h
theorem BG.normal {Q:Exit→Act→World→Prop} {a:Act} {w:World} (h:Q .normal a w):BG Q .normal a w:=h
theorem BG.thrown {Q:Exit→Act→World→Prop} {c:List PanicEntry} {a:Act} {w:World} (h: ∀a':Act,a'.defers=a.defers→Q (.panic c) a' w):BG Q (.panic c) a w:=h
theorem Qc {P:Program} {code:Code} {Q:Exit→Act→World→Prop} {a:Act} {w:World} {K0:Act→World→Prop} (J:(Act→World→Prop)→Prop) (h0:J K0) (h: ∀K,Hid (J K)→Code.wp P code (Exit.then K Q) a w):Code.wp P code (Exit.then K0 Q) a w:=h K0 (AA h0)
noncomputable def cK (n:Nat):Code:=((((f63.body.map Jr).getD [])[n]?).getD .skip)
abbrev MX (ts:List DI) (hs:List Int) (gs:List EJ) (fi mo:Int):AP:=⟨ts,hs,gs,fi,mo,[],[],[]⟩
def TyI (R:RC) (p0:Nat) (b0:List UInt8) (k:Nat) (W:World):Prop:= ∃ts q,HR R W (MX ts [] [] 0 0) 0 q∧ts.length=k∧K_ R.l p0 (b0++ts.flatMap R3) q∧Ad ts.length (YO ts)=0
def wX (R:RC) (p0:Nat) (b0:List UInt8) (ts:List DI) (k:Nat) (W:World):Prop:= ∃hs q,HR R W (MX ts hs [] 0 0) 0 q∧hs.length=k∧K_ R.l p0 (b0++hs.flatMap (fun t=>enc t.toNat)) q∧Ad hs.length (Ji (MX ts hs [] 0 0))=0
def zX (R:RC) (p0:Nat) (b0:List UInt8) (ts:List DI) (hs:List Int) (k:Nat) (W:World):Prop:= ∃gs q,HR R W (MX ts hs gs 0 0) 0 q∧gs.length=k∧K_ R.l p0 (b0++gs.flatMap Jj) q∧Ad gs.length (KI (MX ts hs gs 0 0))=0
theorem HR.OW {R:RC} {w w3:World} {m:AP} {all:Int} {q:Nat} (h:HR R w m all q) (hk:Keep (fun k=>k≠R.rg) w w3):Keep (KD R.B R.og R.rg R.Z0) R.w0 w3:=h.kp.trans hk.kd
set_option maxRecDepth 1000000 in
theorem qK {R:RC} {p0:Nat} {b0:List UInt8} {M:Nat} (hM:M≤64) {Wt:World} (HP:Hid (TyI R p0 b0 0 Wt))
 (s0 s4 s5 s6 s7 s8 s9 s10 GI s49 Hz H_ IB s53 Gh Gi Gj Gl Gm Gn Gp Gq Gs Gt Gu Gv Ee Er s68 Fx Fy Fz s72 F4 F5 F6 F7 F8 F9 GA GD GH s82 s83 Gw Gx Gy s87 FH FI FJ FK FL FM FN FP FQ Gz G5 G6 BZ Ba Bb Bc Bd Bf Bg Bh Bj Bl Bn Bo Bp CS CU CV CW CX CY Bz B_ CB CF CG CJ BL BF BM BN BO BP BQ BR BS DX DY DZ Da Db Dc Df Dh Di Dj Dk Dl Dm Dn Dp Dq Cb Cc Ce Cg Ch Ci Cj Ck Cm Bt Cn Co Cq Cr Ct Cu Cv Cw Cx Cy Cz C8 C9 C_ DC Bu RH RI RJ RL RN RO RP RQ RS RU RV RX RY RZ Ra Rb Rf Rh Rj Rk u2 u3 Xx Ov Ow u16 Tq vC NK u20 u21 u22 u23 u24 u25 u26 u27 u28 u29 u30 u31 u32 u33 u34 u35 u36 u37 u38 Rl u40 MH u42 MI u44 u45 u46 MJ:Value) (Q:Exit→Act→World→Prop) (HT:Hid (∀(en a1:Int) (ax:Act) (wx:World),en≠0→ax.defers= []→Keep (KD R.B R.og R.rg R.Z0) R.w0 wx→Q (.panic (thrown en a1)) ax wx))
 (HX:Hid (∀(u2 u3 Xx Ov Ow u16 Tq vC NK u20 u21 u22 u23 u24 u25 u26 u27 u28 u29 u30 u31 u32 u33 u34 u35 u36 u37 u38 Rl u40 MH u42 MI u44 u45 u46 MJ:Value) (wx:World),TyI R p0 b0 M wx→Q (.exit 0) ⟨(List.toArray (s0::(.pointer (some ⟨R.gr,0,none⟩))::u2::u3::s4::s5::s6::s7::s8::s9::s10::(.int .i64 (M:Int))::(.int .i64 (M:Int))::Xx::Ov::Ow::u16::Tq::vC::NK::u20::u21::u22::u23::u24::u25::u26::u27::u28::u29::u30::u31::u32::u33::u34::u35::u36::u37::u38::Rl::u40::MH::u42::MI::u44::u45::u46::MJ::GI::s49::Hz::H_::IB::s53::Gh::Gi::Gj::Gl::Gm::Gn::Gp::Gq::Gs::Gt::Gu::Gv::Ee::Er::s68::Fx::Fy::Fz::s72::F4::F5::F6::F7::F8::F9::GA::GD::GH::s82::s83::Gw::Gx::Gy::s87::FH::FI::FJ::FK::FL::FM::FN::FP::FQ::Gz::G5::G6::BZ::Ba::Bb::Bc::Bd::Bf::Bg::Bh::Bj::Bl::Bn::Bo::Bp::CS::CU::CV::CW::CX::CY::Bz::B_::CB::CF::CG::CJ::BL::BF::BM::BN::BO::BP::BQ::BR::BS::DX::DY::DZ::Da::Db::Dc::Df::Dh::Di::Dj::Dk::Dl::Dm::Dn::Dp::Dq::Cb::Cc::Ce::Cg::Ch::Ci::Cj::Ck::Cm::Bt::Cn::Co::Cq::Cr::Ct::Cu::Cv::Cw::Cx::Cy::Cz::C8::C9::C_::DC::Bu::RH::RI::RJ::RL::RN::RO::RP::RQ::RS::RU::RV::RX::RY::RZ::Ra::Rb::Rf::Rh::Rj::Rk:: [])),[]⟩ wx)):
 Code.wp prog (Code.loop (cK 0)) Q ⟨(List.toArray (s0::(.pointer (some ⟨R.gr,0,none⟩))::u2::u3::s4::s5::s6::s7::s8::s9::s10::(.int .i64 (M:Int))::(.int .i64 0)::Xx::Ov::Ow::u16::Tq::vC::NK::u20::u21::u22::u23::u24::u25::u26::u27::u28::u29::u30::u31::u32::u33::u34::u35::u36::u37::u38::Rl::u40::MH::u42::MI::u44::u45::u46::MJ::GI::s49::Hz::H_::IB::s53::Gh::Gi::Gj::Gl::Gm::Gn::Gp::Gq::Gs::Gt::Gu::Gv::Ee::Er::s68::Fx::Fy::Fz::s72::F4::F5::F6::F7::F8::F9::GA::GD::GH::s82::s83::Gw::Gx::Gy::s87::FH::FI::FJ::FK::FL::FM::FN::FP::FQ::Gz::G5::G6::BZ::Ba::Bb::Bc::Bd::Bf::Bg::Bh::Bj::Bl::Bn::Bo::Bp::CS::CU::CV::CW::CX::CY::Bz::B_::CB::CF::CG::CJ::BL::BF::BM::BN::BO::BP::BQ::BR::BS::DX::DY::DZ::Da::Db::Dc::Df::Dh::Di::Dj::Dk::Dl::Dm::Dn::Dp::Dq::Cb::Cc::Ce::Cg::Ch::Ci::Cj::Ck::Cm::Bt::Cn::Co::Cq::Cr::Ct::Cu::Cv::Cw::Cx::Cy::Cz::C8::C9::C_::DC::Bu::RH::RI::RJ::RL::RN::RO::RP::RQ::RS::RU::RV::RX::RY::RZ::Ra::Rb::Rf::Rh::Rj::Rk:: [])),[]⟩ Wt:=by
 refine wp_loop (fun a wx=> ∃(U:Nat→Value) (k:Nat),k≤M∧TyI R p0 b0 k wx∧a=⟨(List.toArray (s0::(.pointer (some ⟨R.gr,0,none⟩))::(U 0)::(U 1)::s4::s5::s6::s7::s8::s9::s10::(.int .i64 (M:Int))::(.int .i64 (k:Int))::(U 2)::(U 3)::(U 4)::(U 5)::(U 6)::(U 7)::(U 8)::(U 9)::(U 10)::(U 11)::(U 12)::(U 13)::(U 14)::(U 15)::(U 16)::(U 17)::(U 18)::(U 19)::(U 20)::(U 21)::(U 22)::(U 23)::(U 24)::(U 25)::(U 26)::(U 27)::(U 28)::(U 29)::(U 30)::(U 31)::(U 32)::(U 33)::(U 34)::(U 35)::(U 36)::GI::s49::Hz::H_::IB::s53::Gh::Gi::Gj::Gl::Gm::Gn::Gp::Gq::Gs::Gt::Gu::Gv::Ee::Er::s68::Fx::Fy::Fz::s72::F4::F5::F6::F7::F8::F9::GA::GD::GH::s82::s83::Gw::Gx::Gy::s87::FH::FI::FJ::FK::FL::FM::FN::FP::FQ::Gz::G5::G6::BZ::Ba::Bb::Bc::Bd::Bf::Bg::Bh::Bj::Bl::Bn::Bo::Bp::CS::CU::CV::CW::CX::CY::Bz::B_::CB::CF::CG::CJ::BL::BF::BM::BN::BO::BP::BQ::BR::BS::DX::DY::DZ::Da::Db::Dc::Df::Dh::Di::Dj::Dk::Dl::Dm::Dn::Dp::Dq::Cb::Cc::Ce::Cg::Ch::Ci::Cj::Ck::Cm::Bt::Cn::Co::Cq::Cr::Ct::Cu::Cv::Cw::Cx::Cy::Cz::C8::C9::C_::DC::Bu::RH::RI::RJ::RL::RN::RO::RP::RQ::RS::RU::RV::RX::RY::RZ::Ra::Rb::Rf::Rh::Rj::Rk:: [])),[]⟩) (fun a _=>M-(intOf (a.tmps.getD 12 undef)).toNat) ?_ ?_
 ·exact⟨fun i=> [u2,u3,Xx,Ov,Ow,u16,Tq,vC,NK,u20,u21,u22,u23,u24,u25,u26,u27,u28,u29,u30,u31,u32,u33,u34,u35,u36,u37,u38,Rl,u40,MH,u42,MI,u44,u45,u46,MJ].getD i undef,0,Nat.zero_le _,HP.out,rfl⟩
 intro a wr hI
 clear HP u2 u3 Xx Ov Ow u16 Tq vC NK u20 u21 u22 u23 u24 u25 u26 u27 u28 u29 u30 u31 u32 u33 u34 u35 u36 u37 u38 Rl u40 MH u42 MI u44 u45 u46 MJ
 obtain⟨U,k,hk,hp,rfl⟩:=hI
 have HP:=AA hp
 clear hp
 refine Qc (fun K=> ∀(u2 u3 Xx Ov Ow u16 Tq vC NK u20 u21 u22 u23 u24 u25 u26 u27 u28 u29 u30 u31 u32 u33 u34 u35 u36 u37 u38 Rl u40 MH u42 MI u44 u45 u46 MJ:Value) (wx:World),k<M→TyI R p0 b0 (k+1) wx→K ⟨(List.toArray (s0::(.pointer (some ⟨R.gr,0,none⟩))::u2::u3::s4::s5::s6::s7::s8::s9::s10::(.int .i64 (M:Int))::(.int .i64 ((k:Int)+1))::Xx::Ov::Ow::u16::Tq::vC::NK::u20::u21::u22::u23::u24::u25::u26::u27::u28::u29::u30::u31::u32::u33::u34::u35::u36::u37::u38::Rl::u40::MH::u42::MI::u44::u45::u46::MJ::GI::s49::Hz::H_::IB::s53::Gh::Gi::Gj::Gl::Gm::Gn::Gp::Gq::Gs::Gt::Gu::Gv::Ee::Er::s68::Fx::Fy::Fz::s72::F4::F5::F6::F7::F8::F9::GA::GD::GH::s82::s83::Gw::Gx::Gy::s87::FH::FI::FJ::FK::FL::FM::FN::FP::FQ::Gz::G5::G6::BZ::Ba::Bb::Bc::Bd::Bf::Bg::Bh::Bj::Bl::Bn::Bo::Bp::CS::CU::CV::CW::CX::CY::Bz::B_::CB::CF::CG::CJ::BL::BF::BM::BN::BO::BP::BQ::BR::BS::DX::DY::DZ::Da::Db::Dc::Df::Dh::Di::Dj::Dk::Dl::Dm::Dn::Dp::Dq::Cb::Cc::Ce::Cg::Ch::Ci::Cj::Ck::Cm::Bt::Cn::Co::Cq::Cr::Ct::Cu::Cv::Cw::Cx::Cy::Cz::C8::C9::C_::DC::Bu::RH::RI::RJ::RL::RN::RO::RP::RQ::RS::RU::RV::RX::RY::RZ::Ra::Rb::Rf::Rh::Rj::Rk:: [])),[]⟩ wx) ?_ ?_
 ·intro u2 u3 Xx Ov Ow u16 Tq vC NK u20 u21 u22 u23 u24 u25 u26 u27 u28 u29 u30 u31 u32 u33 u34 u35 u36 u37 u38 Rl u40 MH u42 MI u44 u45 u46 MJ wy hlt hp2
  refine⟨⟨fun i=> [u2,u3,Xx,Ov,Ow,u16,Tq,vC,NK,u20,u21,u22,u23,u24,u25,u26,u27,u28,u29,u30,u31,u32,u33,u34,u35,u36,u37,u38,Rl,u40,MH,u42,MI,u44,u45,u46,MJ].getD i undef,k+1,hlt,hp2,rfl⟩,?_⟩
  show M-(intOf (.int .i64 ((k+1:Nat):Int))).toNat<M-(intOf (.int .i64 (k:Int))).toNat
  simp [intOf]
  omega
 intro K HK
 conv=>arg 2;whnf
 have hk0:(0:Int)≤k:=by omega
 by_cases hlt:k<M
 ·have KU:(k:Int)<M:=by omega
  clear HX
  obtain⟨ts,q,hh,hl,ha,he⟩:=HP.out
  have HH:=AA hh;have HA:=AA ha;have HE:=AA he
  have htl:ts.length≤64:=by omega
  have Wu:=AA hl
  have hrl:=hh.kG;have hol:=hh.qJ;have hgB:=hh.gB;have htop:=hh.top
  have P0:=AA hh.pr
  clear hh ha he hl
  obtain⟨col,v1,v2,v3,v6,v7,v8,hds⟩:=HH.out.ds
  obtain⟨A2,c2,BJ,e2,hP⟩:=hds.six.p1
  subst e2
  have V7:=AA hds;have NT:=AA hP;have HO:=AA hds.out;have ME:=AA hds.ne
  have Vi:Hid (∀k,(Value.slice A2 ts.length c2).ownBlock=some k→k≠R.rg):=AA (fun k hk e=>by have h1:=(hP.lt k hk).1;have h2:=hds.l2;omega)
  have UC:=AA (HH.out.kH (hP.far (by decide) hds.zz))
  have HOW:Hid (∀k,(Value.slice A2 ts.length c2).ownBlock=some k→k<wr.heap.size):=AA (fun k hk=>(hP.lt k hk).2)
  clear hds hP
  have ag:=HH.out.box.q 0 rfl
  have am:wr.cell? ⟨R.rg,0,none⟩=some (.pointer (some ⟨R.og,0,none⟩)):=AL.cell HH.out.rd 0
  have ab:wr.cell? ⟨R.rg,2,none⟩=some (.slice R.A R.n R.c):=AL.cell HH.out.rd 2
  have aq:wr.cell? ⟨R.rg,3,none⟩=some (.int .i64 (q:Nat)):=AL.cell HH.out.rd 3
  have MG:=AA (PG (l:=R.l) 8 (by decide) HH.out.inp HH.out.rd HH.out.i2)
  go_wp2_with fail
  refine MG.out.mono ?_
  rintro e w1 ⟨hk1,⟨v,bs,q1,rfl,⟨s1,rfl,rfl,hs1,hz1⟩,ha1,hr1⟩ | ⟨en,a1,h1,rfl⟩⟩
  case inr=>
   have H1:=AA h1;have JF:=AA ((HH.out).OW hk1);clear h1
   go_wp2_with fail
   exact HT.out _ _ _ _ H1.out rfl JF.out
  have P1:Hid (Ao R wr w1 0 q1):=AA (P0.out.V6 hk1 hr1)
  have HA1:=AA ha1;have HS1:=AA hs1;have HZ1:=AA hz1
  have hs1:wr.heap.size≤w1.heap.size:=hk1.size
  clear hk1 hr1 ha1 hz1 MG ag am ab aq
  go_upto_region 5 with fail
  generalize hw2:World.alloc _ _=w2
  have OU:Hid (AL w2 w1.heap.size 51 [.string s1,.string ⟨#[]⟩]):=AA (by rw [←hw2];exact AL.new w1 _ _)
  have P2:Hid (Ao R wr w2 0 q1):=AA (by rw [←hw2];exact P1.out.alloc _)
  clear hw2
  have ag:=Ao.gr HH.out P2.out
  have HL2:=AA (PG (l:=R.l) 8 (by decide) (Ao.inp HH.out P2.out) P2.out.rd HH.out.i2)
  go_wp2_with fail
  refine HL2.out.mono ?_
  rintro e w3 ⟨hk3,⟨v,bs,q3,rfl,⟨s3,rfl,rfl,hs3,hz3⟩,wY,hr3⟩ | ⟨en,a1,h1,rfl⟩⟩
  case inr=>
   have H1:=AA h1;have JF:=AA ((HH.out).OW (P2.out.kp.trans hk3));clear h1
   go_wp2_with fail
   exact HT.out _ _ _ _ H1.out rfl JF.out
  have wZ:Hid (AL w3 w1.heap.size 51 [.string s1,.string ⟨#[]⟩]):=AA (OU.out.keep hk3 (by omega))
  have P3:Hid (Ao R wr w3 0 q3):=AA (P2.out.V6 hk3 hr3)
  have xf:=wZ.out.frozen 1
  have xc:=wZ.out.q 1 rfl
  have HA3:=AA (HA1.out.trans wY);have yG:=AA hs3;have HZ3:=AA hz3
  clear hk3 hr3 wY hs3 hz3 HL2 ag
  go_upto_region 6 with fail
  generalize hw4:World.setCell _ _ _=w4
  have Zz:Hid (AL w4 w1.heap.size 51 [.string s1,.string s3]):=AA (by rw [←hw4];exact wZ.out.set 1 _)
  have P4:Hid (Ao R wr w4 0 q3):=AA (by rw [←hw4];exact P3.out.set (a:=⟨w1.heap.size,1,none⟩) hs1 (show w1.heap.size≠R.rg by omega) _)
  clear hw4 xf xc
  have Tv:Hid ((Value.slice A2 ts.length c2).ownBlock≠some w1.heap.size):=AA (fun e=>by have:=HOW.out _ e;omega)
  have LA:Hid (w1.heap.size≠R.og):=AA (by omega)
  go_cut [] from 24 to 41 (fun wx=>HR R wx (MX (ts++ [⟨s1,s3⟩]) [] [] 0 0) 0 q3)
  case first=>
   obtain⟨i0,hi0,hz,hs',hby⟩:=info_parts WS
   refine Aa ?_
   have GN:Hid (Ao R wr w4.drew 0 q3):=AA P4.out.drew
   have DJ:Hid (AL w4.drew (w1.heap.size) 51 [.string s1,.string s3]):=AA (Zz.out.drewN 1)
   refine wp_region_held_drew (S:=fun W=>W.cell? ⟨R.gr,0,none⟩=some (.pointer (some ⟨R.rg,0,none⟩))∧W.cell? ⟨R.rg,0,none⟩=some (.pointer (some ⟨R.og,0,none⟩))∧W.cell? ⟨w1.heap.size,0,none⟩=some (.string s1)∧W.cell? ⟨w1.heap.size,1,none⟩=some (.string s3)) (by kernel_rfl) ⟨Ao.gr HH.out GN.out,GN.out.r0,DJ.out.cell 0,DJ.out.cell 1⟩ (fun hHeld=> ?_)
   generalize w4.drew=CP at*
   refine AB (i:=0) (v:= ?_) rfl (by kernel_rfl) (fun _ _ _ h=>h) (by intro w hSw;(try dsimp only at hSw);go_simp;try with_reducible rfl) hHeld ?_
   refine AB (i:=1) (v:= ?_) rfl (by kernel_rfl) (fun _ _ _ h=>h) (by intro w hSw;(try dsimp only at hSw);go_simp;try with_reducible rfl) hHeld ?_
   refine AB (i:=2) (v:= ?_) rfl (by kernel_rfl) (fun _ _ _ h=>h) (by intro w hSw;(try dsimp only at hSw);go_simp;try with_reducible rfl) hHeld ?_
   refine AB (i:=3) (v:= ?_) rfl (by kernel_rfl) (fun _ _ _ h=>h) (by intro w hSw;(try dsimp only at hSw);go_simp;try with_reducible rfl) hHeld ?_
   refine AB (i:=4) (v:= ?_) rfl (by kernel_rfl) (fun _ _ _ h=>h) (by intro w hSw;(try dsimp only at hSw);go_simp;try with_reducible rfl) hHeld ?_
   refine AB (i:=5) (v:= ?_) rfl (by kernel_rfl) (fun _ _ _ h=>h) (by intro w hSw;(try dsimp only at hSw);go_simp;try with_reducible rfl) hHeld ?_
   refine AB (i:=6) (v:= ?_) rfl (by kernel_rfl) (fun _ _ _ h=>h) (by intro w hSw;(try dsimp only at hSw);go_simp;try with_reducible rfl) hHeld ?_
   refine AB (i:=7) (v:= ?_) rfl (by kernel_rfl) (fun _ _ _ h=>h) (by intro w hSw;(try dsimp only at hSw);go_simp;try with_reducible rfl) hHeld ?_
   refine AB (i:=8) (v:= ?_) rfl (by kernel_rfl) (fun _ _ _ h=>h) (by intro w hSw;(try dsimp only at hSw);go_simp;try with_reducible rfl) hHeld ?_
   refine AB (i:=9) (v:= ?_) rfl (by kernel_rfl) (fun _ _ _ h=>h) (by intro w hSw;(try dsimp only at hSw);go_simp;try with_reducible rfl) hHeld ?_
   refine AB (i:=10) (v:= ?_) rfl (by kernel_rfl) (fun _ _ _ h=>h) (by intro w hSw;(try dsimp only at hSw);go_simp;try with_reducible rfl) hHeld ?_
   refine AB (i:=11) (v:= ?_) rfl (by kernel_rfl) (fun _ _ _ h=>h) (by intro w hSw;(try dsimp only at hSw);go_simp;try with_reducible rfl) hHeld ?_
   refine AB (i:=13) (v:= ?_) rfl (by kernel_rfl) (fun _ _ _ h=>h) (by intro w hSw;(try dsimp only at hSw);go_simp;try with_reducible rfl) hHeld ?_
   refine wpAnyH_ready (rs:= [12,14]) (by kernel_rfl) (by simp) ?_
   refine AllReadyH.cons rfl (fun K hK=> ?_) (AllReadyH.cons rfl (fun K hK=> ?_) AllReadyH.nil)
   ·have gl:=(HO.out.keep GN.out.kp ME.out).q 0 rfl
    go_simp
    refine hK.out _ _ ⟨Ao.gr HH.out GN.out,GN.out.r0,DJ.out.cell 0,DJ.out.cell 1⟩ (fun Rm=> ?_)
    clear hK K gl
    refine wpAnyH_ready (rs:= [14]) (by kernel_rfl) (by simp) ?_
    refine AllReadyH.cons rfl (fun K hK=> ?_) AllReadyH.nil
    go_simp
    have N_:Hid (Ao R wr (CP.alloc (.cells #[.string s1,.string s3] 51)) 0 q3):=AA (GN.out.alloc _)
    have GQ:Hid (AL (CP.alloc (.cells #[.string s1,.string s3] 51)) (w1.heap.size) 51 [.string s1,.string s3]):=AA (DJ.out.alloc _)
    have HRW:Hid (Row (CP.alloc (.cells #[.string s1,.string s3] 51)) (CP.heap.size+1) (some ⟨CP.heap.size,0,none⟩) [.string s1,.string s3]):=AA (Ak CP [.string s1,.string s3] 51)
    refine hK.out _ _ ⟨Ao.gr HH.out N_.out,N_.out.r0,GQ.out.cell 0,GQ.out.cell 1⟩ (fun OA=> ?_)
    clear hK K
    generalize hwn:CP.alloc (.cells #[.string s1,.string s3] 51)=Rn at*
    clear hwn
    refine wpAnyH_ready (rs:= [15]) (by kernel_rfl) (by simp) ?_
    refine AllReadyH.cons rfl (fun K hK=> ?_) AllReadyH.nil
    refine Au rfl (.tmp 36) (.tmp 38) 22 rfl R.B 51 i0 _ 2 32 underlying22 hi0 hz hs' hby rfl (by omega) _ ts.length BJ rfl (BD NT.out.own N_.out.kp Vi.out) (CP.heap.size+1) _ 1 1 [.string s1,.string s3] rfl rfl HRW.out (by intro u hu;simp at hu;rcases hu with rfl | rfl<;>rfl) (by unfold maxLen;omega) (by omega) (by have:=N_.out.kp.size;omega) ?_
    intro A4 c4 cO h2 h3 h4
    have EZ:=Ao.cB HH.out N_.out UC.out h3
    have LC:=EZ.2.2 _ HO.out
    have ET:Hid (AL cO (w1.heap.size) 51 [.string s1,.string s3]):=AA ((h3.block _ GQ.out.lt (fun e=>Tv.out e.symm)).trans GQ.out)
    have Ir:=AA LC;have fq:=AA EZ;have H2:=AA h2;have H3:=AA h3;have H4:=AA h4
    refine hK.out _ _ ⟨EZ.1.cell 0,AL.cell EZ.2.1 0,ET.out.cell 0,ET.out.cell 1⟩ (fun Ay=> ?_)
    clear hK K h2 h3 h4 EZ LC
    refine AB (i:=16) (v:= ?_) rfl (by kernel_rfl) (fun _ _ _ h=>h) (by intro w hSw;(try dsimp only at hSw);go_simp;try with_reducible rfl) Ay ?_
    refine AB (i:=17) (v:= ?_) rfl (by kernel_rfl) (fun _ _ _ h=>h) (by intro w hSw;(try dsimp only at hSw);go_simp;try with_reducible rfl) Ay ?_
    refine wpAnyH_ready (rs:= [18]) (by kernel_rfl) (by simp) ?_
    refine AllReadyH.cons rfl (fun K hK=> ?_) AllReadyH.nil
    have ys:=Ir.out.cell 0;have yf:=Ir.out.frozen 0
    go_simp
    have HST:Hid (HR R (cO.setCell ⟨R.og,0,none⟩ (.slice A4 (ts.length+1) c4)) (MX (ts++ [⟨s1,s3⟩]) [] [] 0 0) 0 q3):=AA (HH.out.step (DS.eF (m:=MX ts [] [] 0 0) V7.out NT.out N_.out.kp N_.out.rd (lo:=Rn.heap.size) (hi:=Rn.heap.size) (x:=⟨s1,s3⟩) (Mw.2 ⟨rfl,(show s1.size≤140737488351232 by have:=HZ1.out;omega),(show s3.size≤140737488351232 by have:=HZ3.out;omega)⟩) (by have:=N_.out.kp.size;exact this) (Nat.le_refl _) H2.out H3.out H4.out))
    refine hK.out _ _ ⟨HST.out.box.cell 0,AL.cell HST.out.rd 0,(ET.out.far (p:=⟨R.og,0,none⟩) LA.out _).cell 0,(ET.out.far (p:=⟨R.og,0,none⟩) LA.out _).cell 1⟩ (fun Iq=> ?_)
    clear hK K ys yf
    refine wpAnyH_done (by kernel_rfl) ?_ _
    refine BG.normal ?_
    go_wp2_with fail
    go_meet
    exact HST.out
   ·go_simp
    have Pk:Hid (Ao R wr (CP.alloc (.cells #[.string s1,.string s3] 51)) 0 q3):=AA (GN.out.alloc _)
    have Dr:Hid (AL (CP.alloc (.cells #[.string s1,.string s3] 51)) (w1.heap.size) 51 [.string s1,.string s3]):=AA (DJ.out.alloc _)
    have HRW:Hid (Row (CP.alloc (.cells #[.string s1,.string s3] 51)) (CP.heap.size+1) (some ⟨CP.heap.size,0,none⟩) [.string s1,.string s3]):=AA (Ak CP [.string s1,.string s3] 51)
    refine hK.out _ _ ⟨Ao.gr HH.out Pk.out,Pk.out.r0,Dr.out.cell 0,Dr.out.cell 1⟩ (fun fu=> ?_)
    clear hK K
    generalize hwn:CP.alloc (.cells #[.string s1,.string s3] 51)=kI at*
    clear hwn
    refine wpAnyH_ready (rs:= [12]) (by kernel_rfl) (by simp) ?_
    refine AllReadyH.cons rfl (fun K hK=> ?_) AllReadyH.nil
    have gl:=(HO.out.keep Pk.out.kp ME.out).q 0 rfl
    go_simp
    refine hK.out _ _ ⟨Ao.gr HH.out Pk.out,Pk.out.r0,Dr.out.cell 0,Dr.out.cell 1⟩ (fun OB=> ?_)
    clear hK K gl
    refine wpAnyH_ready (rs:= [15]) (by kernel_rfl) (by simp) ?_
    refine AllReadyH.cons rfl (fun K hK=> ?_) AllReadyH.nil
    refine Au rfl (.tmp 36) (.tmp 38) 22 rfl R.B 51 i0 _ 2 32 underlying22 hi0 hz hs' hby rfl (by omega) _ ts.length BJ rfl (BD NT.out.own Pk.out.kp Vi.out) (CP.heap.size+1) _ 1 1 [.string s1,.string s3] rfl rfl HRW.out (by intro u hu;simp at hu;rcases hu with rfl | rfl<;>rfl) (by unfold maxLen;omega) (by omega) (by have:=Pk.out.kp.size;omega) ?_
    intro A4 c4 wh h2 h3 h4
    have EZ:=Ao.cB HH.out Pk.out UC.out h3
    have LC:=EZ.2.2 _ HO.out
    have IC:Hid (AL wh (w1.heap.size) 51 [.string s1,.string s3]):=AA ((h3.block _ Dr.out.lt (fun e=>Tv.out e.symm)).trans Dr.out)
    have Ir:=AA LC;have fq:=AA EZ;have H2:=AA h2;have H3:=AA h3;have H4:=AA h4
    refine hK.out _ _ ⟨EZ.1.cell 0,AL.cell EZ.2.1 0,IC.out.cell 0,IC.out.cell 1⟩ (fun Ay=> ?_)
    clear hK K h2 h3 h4 EZ LC
    refine AB (i:=16) (v:= ?_) rfl (by kernel_rfl) (fun _ _ _ h=>h) (by intro w hSw;(try dsimp only at hSw);go_simp;try with_reducible rfl) Ay ?_
    refine AB (i:=17) (v:= ?_) rfl (by kernel_rfl) (fun _ _ _ h=>h) (by intro w hSw;(try dsimp only at hSw);go_simp;try with_reducible rfl) Ay ?_
    refine wpAnyH_ready (rs:= [18]) (by kernel_rfl) (by simp) ?_
    refine AllReadyH.cons rfl (fun K hK=> ?_) AllReadyH.nil
    have ys:=Ir.out.cell 0;have yf:=Ir.out.frozen 0
    go_simp
    have HST:Hid (HR R (wh.setCell ⟨R.og,0,none⟩ (.slice A4 (ts.length+1) c4)) (MX (ts++ [⟨s1,s3⟩]) [] [] 0 0) 0 q3):=AA (HH.out.step (DS.eF (m:=MX ts [] [] 0 0) V7.out NT.out Pk.out.kp Pk.out.rd (lo:=kI.heap.size) (hi:=kI.heap.size) (x:=⟨s1,s3⟩) (Mw.2 ⟨rfl,(show s1.size≤140737488351232 by have:=HZ1.out;omega),(show s3.size≤140737488351232 by have:=HZ3.out;omega)⟩) (by have:=Pk.out.kp.size;exact this) (Nat.le_refl _) H2.out H3.out H4.out))
    refine hK.out _ _ ⟨HST.out.box.cell 0,AL.cell HST.out.rd 0,(IC.out.far (p:=⟨R.og,0,none⟩) LA.out _).cell 0,(IC.out.far (p:=⟨R.og,0,none⟩) LA.out _).cell 1⟩ (fun Iq=> ?_)
    clear hK K ys yf
    refine wpAnyH_done (by kernel_rfl) ?_ _
    refine BG.normal ?_
    go_wp2_with fail
    go_meet
    exact HST.out
  case rest=>
   have bN:=AA hcut
   clear hcut
   obtain⟨x1,x2,x3,x6,x7,x8,hbk,hrt,_,_,⟨T,d,rfl,hcp⟩,_⟩:=bN.out.out
   have HTW:=AA (pz R.rg R.og R.B (ts++ [(⟨s1,s3⟩:DI)]) T d ts.length ⟨s1,s3⟩ q wc (AL.cell bN.out.rd 0) (show wc.cell? ⟨R.og,0,none⟩=some (.slice T (ts++ [(⟨s1,s3⟩:DI)]).length d)from hbk.cell 0) hrt hcp (by rw [List.length_append];rfl) L6 (by omega))
   have ag:=bN.out.box.q 0 rfl
   have am:wc.cell? ⟨R.rg,0,none⟩=some (.pointer (some ⟨R.og,0,none⟩)):=AL.cell bN.out.rd 0
   have ab:wc.cell? ⟨R.rg,2,none⟩=some (.slice R.A R.n R.c):=AL.cell bN.out.rd 2
   have aq:wc.cell? ⟨R.rg,3,none⟩=some (.int .i64 (q3:Nat)):=AL.cell bN.out.rd 3
   clear hbk hrt hcp
   go_wp2_with fail
   refine HTW.out.mono ?_
   rintro e w7 ⟨M_,D5⟩
   have hkt:=bN.out.kp.trans (Keep.Aq (K:=KD R.B R.og R.rg R.Z0) M_)
   rcases D5.OW with⟨h0,rfl⟩ | ⟨en,a1,h1,rfl⟩
   case inr=>
    have H1:=AA h1;have JF:=AA hkt;clear h1 hkt
    go_wp2_with fail
    exact HT.out _ _ _ _ H1.out rfl JF.out
   have Dz:Hid (TyI R p0 b0 (k+1) w7):=AA ⟨ts++ [⟨s1,s3⟩],q3,bN.out.below M_,by rw [List.length_append,Wu.out];rfl,by rw [DK,←List.append_assoc];exact HA.out.trans HA3.out,bq HE.out HS1.out yG.out (by rw [Pj (Nat.le_refl _),List.take_length] at h0;exact h0)⟩
   clear h0 hkt M_ HTW ag am ab aq
   go_wp2_with fail
   apply HK.out
   ·exact hlt
   ·exact Dz.out
 ·obtain rfl:k=M:=by omega
  have Sj:=HP
  clear HK
  go_wp2_with fail
  apply HX.out
  exact Sj.out
set_option maxRecDepth 1000000 in
theorem qM {R:RC} {p0:Nat} {b0:List UInt8} {ts:List DI} (htl:ts.length≤64) {M:Nat} (hM:M≤32) {Wt:World} (HP:Hid (wX R p0 b0 ts 0 Wt))
 (s0 s2 s3 s4 s5 s6 s7 s8 s9 s10 s11 s12 s13 Fw s15 s16 En EN GZ s20 Eo Ga EO s24 EP Ep Ea Eb Ec Ed E9 E_ FB FC FD FE G7 G8 G9 G_ Hf Hl s43 s44 Ho Hq Hw GI s49 s82 s83 Gw Gx Gy s87 FH FI FJ FK FL FM FN FP FQ Gz G5 G6 BZ Ba Bb Bc Bd Bf Bg Bh Bj Bl Bn Bo Bp CS CU CV CW CX CY Bz B_ CB CF CG CJ BL BF BM BN BO BP BQ BR BS DX DY DZ Da Db Dc Df Dh Di Dj Dk Dl Dm Dn Dp Dq Cb Cc Ce Cg Ch Ci Cj Ck Cm Bt Cn Co Cq Cr Ct Cu Cv Cw Cx Cy Cz C8 C9 C_ DC Bu RH RI RJ RL RN RO RP RQ RS RU RV RX RY RZ Ra Rb Rf Rh Rj Rk MK u53 Ro u55 Rp ML u58 u59 u60 MN MO u63 u64 MP u66 vE u68 u69 u70 Ox u72 u73 Oy u75 Oz O1 O4 O5 O6 O7:Value) (Q:Exit→Act→World→Prop) (HT:Hid (∀(en a1:Int) (ax:Act) (wx:World),en≠0→ax.defers= []→Keep (KD R.B R.og R.rg R.Z0) R.w0 wx→Q (.panic (thrown en a1)) ax wx))
 (HX:Hid (∀(MK u53 Ro u55 Rp ML u58 u59 u60 MN MO u63 u64 MP u66 vE u68 u69 u70 Ox u72 u73 Oy u75 Oz O1 O4 O5 O6 O7:Value) (wx:World),wX R p0 b0 ts M wx→Q (.exit 2) ⟨(List.toArray (s0::(.pointer (some ⟨R.gr,0,none⟩))::s2::s3::s4::s5::s6::s7::s8::s9::s10::s11::s12::s13::Fw::s15::s16::En::EN::GZ::s20::Eo::Ga::EO::s24::EP::Ep::Ea::Eb::Ec::Ed::E9::E_::FB::FC::FD::FE::G7::G8::G9::G_::Hf::Hl::s43::s44::Ho::Hq::Hw::GI::s49::(.int .i64 (M:Int))::(.int .i64 (M:Int))::MK::u53::Ro::u55::Rp::ML::u58::u59::u60::MN::MO::u63::u64::MP::u66::vE::u68::u69::u70::Ox::u72::u73::Oy::u75::Oz::O1::O4::O5::O6::O7::s82::s83::Gw::Gx::Gy::s87::FH::FI::FJ::FK::FL::FM::FN::FP::FQ::Gz::G5::G6::BZ::Ba::Bb::Bc::Bd::Bf::Bg::Bh::Bj::Bl::Bn::Bo::Bp::CS::CU::CV::CW::CX::CY::Bz::B_::CB::CF::CG::CJ::BL::BF::BM::BN::BO::BP::BQ::BR::BS::DX::DY::DZ::Da::Db::Dc::Df::Dh::Di::Dj::Dk::Dl::Dm::Dn::Dp::Dq::Cb::Cc::Ce::Cg::Ch::Ci::Cj::Ck::Cm::Bt::Cn::Co::Cq::Cr::Ct::Cu::Cv::Cw::Cx::Cy::Cz::C8::C9::C_::DC::Bu::RH::RI::RJ::RL::RN::RO::RP::RQ::RS::RU::RV::RX::RY::RZ::Ra::Rb::Rf::Rh::Rj::Rk:: [])),[]⟩ wx)):
 Code.wp prog (Code.loop (cK 1)) Q ⟨(List.toArray (s0::(.pointer (some ⟨R.gr,0,none⟩))::s2::s3::s4::s5::s6::s7::s8::s9::s10::s11::s12::s13::Fw::s15::s16::En::EN::GZ::s20::Eo::Ga::EO::s24::EP::Ep::Ea::Eb::Ec::Ed::E9::E_::FB::FC::FD::FE::G7::G8::G9::G_::Hf::Hl::s43::s44::Ho::Hq::Hw::GI::s49::(.int .i64 (M:Int))::(.int .i64 0)::MK::u53::Ro::u55::Rp::ML::u58::u59::u60::MN::MO::u63::u64::MP::u66::vE::u68::u69::u70::Ox::u72::u73::Oy::u75::Oz::O1::O4::O5::O6::O7::s82::s83::Gw::Gx::Gy::s87::FH::FI::FJ::FK::FL::FM::FN::FP::FQ::Gz::G5::G6::BZ::Ba::Bb::Bc::Bd::Bf::Bg::Bh::Bj::Bl::Bn::Bo::Bp::CS::CU::CV::CW::CX::CY::Bz::B_::CB::CF::CG::CJ::BL::BF::BM::BN::BO::BP::BQ::BR::BS::DX::DY::DZ::Da::Db::Dc::Df::Dh::Di::Dj::Dk::Dl::Dm::Dn::Dp::Dq::Cb::Cc::Ce::Cg::Ch::Ci::Cj::Ck::Cm::Bt::Cn::Co::Cq::Cr::Ct::Cu::Cv::Cw::Cx::Cy::Cz::C8::C9::C_::DC::Bu::RH::RI::RJ::RL::RN::RO::RP::RQ::RS::RU::RV::RX::RY::RZ::Ra::Rb::Rf::Rh::Rj::Rk:: [])),[]⟩ Wt:=by
 refine wp_loop (fun a wx=> ∃(U:Nat→Value) (k:Nat),k≤M∧wX R p0 b0 ts k wx∧a=⟨(List.toArray (s0::(.pointer (some ⟨R.gr,0,none⟩))::s2::s3::s4::s5::s6::s7::s8::s9::s10::s11::s12::s13::Fw::s15::s16::En::EN::GZ::s20::Eo::Ga::EO::s24::EP::Ep::Ea::Eb::Ec::Ed::E9::E_::FB::FC::FD::FE::G7::G8::G9::G_::Hf::Hl::s43::s44::Ho::Hq::Hw::GI::s49::(.int .i64 (M:Int))::(.int .i64 (k:Int))::(U 0)::(U 1)::(U 2)::(U 3)::(U 4)::(U 5)::(U 6)::(U 7)::(U 8)::(U 9)::(U 10)::(U 11)::(U 12)::(U 13)::(U 14)::(U 15)::(U 16)::(U 17)::(U 18)::(U 19)::(U 20)::(U 21)::(U 22)::(U 23)::(U 24)::(U 25)::(U 26)::(U 27)::(U 28)::(U 29)::s82::s83::Gw::Gx::Gy::s87::FH::FI::FJ::FK::FL::FM::FN::FP::FQ::Gz::G5::G6::BZ::Ba::Bb::Bc::Bd::Bf::Bg::Bh::Bj::Bl::Bn::Bo::Bp::CS::CU::CV::CW::CX::CY::Bz::B_::CB::CF::CG::CJ::BL::BF::BM::BN::BO::BP::BQ::BR::BS::DX::DY::DZ::Da::Db::Dc::Df::Dh::Di::Dj::Dk::Dl::Dm::Dn::Dp::Dq::Cb::Cc::Ce::Cg::Ch::Ci::Cj::Ck::Cm::Bt::Cn::Co::Cq::Cr::Ct::Cu::Cv::Cw::Cx::Cy::Cz::C8::C9::C_::DC::Bu::RH::RI::RJ::RL::RN::RO::RP::RQ::RS::RU::RV::RX::RY::RZ::Ra::Rb::Rf::Rh::Rj::Rk:: [])),[]⟩) (fun a _=>M-(intOf (a.tmps.getD 51 undef)).toNat) ?_ ?_
 ·exact⟨fun i=> [MK,u53,Ro,u55,Rp,ML,u58,u59,u60,MN,MO,u63,u64,MP,u66,vE,u68,u69,u70,Ox,u72,u73,Oy,u75,Oz,O1,O4,O5,O6,O7].getD i undef,0,Nat.zero_le _,HP.out,rfl⟩
 intro a wr hI
 clear HP MK u53 Ro u55 Rp ML u58 u59 u60 MN MO u63 u64 MP u66 vE u68 u69 u70 Ox u72 u73 Oy u75 Oz O1 O4 O5 O6 O7
 obtain⟨U,k,hk,hp,rfl⟩:=hI
 have HP:=AA hp
 clear hp
 refine Qc (fun K=> ∀(MK u53 Ro u55 Rp ML u58 u59 u60 MN MO u63 u64 MP u66 vE u68 u69 u70 Ox u72 u73 Oy u75 Oz O1 O4 O5 O6 O7:Value) (wx:World),k<M→wX R p0 b0 ts (k+1) wx→K ⟨(List.toArray (s0::(.pointer (some ⟨R.gr,0,none⟩))::s2::s3::s4::s5::s6::s7::s8::s9::s10::s11::s12::s13::Fw::s15::s16::En::EN::GZ::s20::Eo::Ga::EO::s24::EP::Ep::Ea::Eb::Ec::Ed::E9::E_::FB::FC::FD::FE::G7::G8::G9::G_::Hf::Hl::s43::s44::Ho::Hq::Hw::GI::s49::(.int .i64 (M:Int))::(.int .i64 ((k:Int)+1))::MK::u53::Ro::u55::Rp::ML::u58::u59::u60::MN::MO::u63::u64::MP::u66::vE::u68::u69::u70::Ox::u72::u73::Oy::u75::Oz::O1::O4::O5::O6::O7::s82::s83::Gw::Gx::Gy::s87::FH::FI::FJ::FK::FL::FM::FN::FP::FQ::Gz::G5::G6::BZ::Ba::Bb::Bc::Bd::Bf::Bg::Bh::Bj::Bl::Bn::Bo::Bp::CS::CU::CV::CW::CX::CY::Bz::B_::CB::CF::CG::CJ::BL::BF::BM::BN::BO::BP::BQ::BR::BS::DX::DY::DZ::Da::Db::Dc::Df::Dh::Di::Dj::Dk::Dl::Dm::Dn::Dp::Dq::Cb::Cc::Ce::Cg::Ch::Ci::Cj::Ck::Cm::Bt::Cn::Co::Cq::Cr::Ct::Cu::Cv::Cw::Cx::Cy::Cz::C8::C9::C_::DC::Bu::RH::RI::RJ::RL::RN::RO::RP::RQ::RS::RU::RV::RX::RY::RZ::Ra::Rb::Rf::Rh::Rj::Rk:: [])),[]⟩ wx) ?_ ?_
 ·intro MK u53 Ro u55 Rp ML u58 u59 u60 MN MO u63 u64 MP u66 vE u68 u69 u70 Ox u72 u73 Oy u75 Oz O1 O4 O5 O6 O7 wy hlt hp2
  refine⟨⟨fun i=> [MK,u53,Ro,u55,Rp,ML,u58,u59,u60,MN,MO,u63,u64,MP,u66,vE,u68,u69,u70,Ox,u72,u73,Oy,u75,Oz,O1,O4,O5,O6,O7].getD i undef,k+1,hlt,hp2,rfl⟩,?_⟩
  show M-(intOf (.int .i64 ((k+1:Nat):Int))).toNat<M-(intOf (.int .i64 (k:Int))).toNat
  simp [intOf]
  omega
 intro K HK
 conv=>arg 2;whnf
 have hk0:(0:Int)≤k:=by omega
 by_cases hlt:k<M
 ·have KU:(k:Int)<M:=by omega
  clear HX
  obtain⟨hs,q,hh,hl,ha,he⟩:=HP.out
  have HH:=AA hh;have HA:=AA ha;have HE:=AA he
  have YP:hs.length≤64:=by omega
  have Wu:=AA hl
  have hrl:=hh.kG;have hol:=hh.qJ;have hgB:=hh.gB;have htop:=hh.top
  have P0:=AA hh.pr
  clear hh ha he hl
  obtain⟨col,v1,v2,v3,v6,v7,v8,hds⟩:=HH.out.ds
  obtain⟨A2,c2,BJ,e2,hP⟩:=hds.six.p2
  subst e2
  obtain⟨T0,d0,zY,e1,hPT⟩:=hds.six.p1
  subst e1
  clear hPT
  have V7:=AA hds;have NT:=AA hP;have HO:=AA hds.out;have ME:=AA hds.ne
  have Vi:Hid (∀k,(Value.slice A2 hs.length c2).ownBlock=some k→k≠R.rg):=AA (fun k hk e=>by have h1:=(hP.lt k hk).1;have h2:=hds.l2;omega)
  have UC:=AA (HH.out.kH (hP.far (by decide) hds.zz))
  have HOW:Hid (∀k,(Value.slice A2 hs.length c2).ownBlock=some k→k<wr.heap.size):=AA (fun k hk=>(hP.lt k hk).2)
  clear hds hP
  go_upto_region 11 with fail
  obtain⟨i0,hi0,hz,hs',hby⟩:=info_parts Qu
  refine Aa ?_
  have GN:Hid (Ao R wr wr.drew 0 q):=AA P0.out.drew
  refine wp_region_held_drew (S:=fun W=>W.cell? ⟨R.gr,0,none⟩=some (.pointer (some ⟨R.rg,0,none⟩))∧W.cell? ⟨R.rg,0,none⟩=some (.pointer (some ⟨R.og,0,none⟩))∧W.cell? ⟨R.og,0,none⟩=some (.slice T0 ts.length d0)) (by kernel_rfl) ⟨Ao.gr HH.out GN.out,GN.out.r0,(HO.out.keep GN.out.kp ME.out).cell 0⟩ (fun hHeld=> ?_)
  generalize wr.drew=CP at*
  refine AB (i:=0) (v:= ?_) rfl (by kernel_rfl) (fun _ _ _ h=>h) (by intro w hSw;(try dsimp only at hSw);go_simp;try with_reducible rfl) hHeld ?_
  refine AB (i:=1) (v:= ?_) rfl (by kernel_rfl) (fun _ _ _ h=>h) (by intro w hSw;(try dsimp only at hSw);go_simp;try with_reducible rfl) hHeld ?_
  refine AB (i:=2) (v:= ?_) rfl (by kernel_rfl) (fun _ _ _ h=>h) (by intro w hSw;(try dsimp only at hSw);go_simp;try with_reducible rfl) hHeld ?_
  refine AB (i:=3) (v:= ?_) rfl (by kernel_rfl) (fun _ _ _ h=>h) (by intro w hSw;(try dsimp only at hSw);go_simp;try with_reducible rfl) hHeld ?_
  refine AB (i:=4) (v:= ?_) rfl (by kernel_rfl) (fun _ _ _ h=>h) (by intro w hSw;(try dsimp only at hSw);go_simp;try with_reducible rfl) hHeld ?_
  refine AB (i:=5) (v:= ?_) rfl (by kernel_rfl) (fun _ _ _ h=>h) (by intro w hSw;(try dsimp only at hSw);go_simp;try with_reducible rfl) hHeld ?_
  refine AB (i:=6) (v:= ?_) rfl (by kernel_rfl) (fun _ _ _ h=>h) (by intro w hSw;(try dsimp only at hSw);go_simp;try with_reducible rfl) hHeld ?_
  refine AB (i:=7) (v:= ?_) rfl (by kernel_rfl) (fun _ _ _ h=>h) (by intro w hSw;(try dsimp only at hSw);go_simp;try with_reducible rfl) hHeld ?_
  refine AB (i:=8) (v:= ?_) rfl (by kernel_rfl) (fun _ _ _ h=>h) (by intro w hSw;(try dsimp only at hSw);go_simp;try with_reducible rfl) hHeld ?_
  refine AB (i:=9) (v:= ?_) rfl (by kernel_rfl) (fun _ _ _ h=>h) (by intro w hSw;(try dsimp only at hSw);go_simp;try with_reducible rfl) hHeld ?_
  refine AB (i:=10) (v:= ?_) rfl (by kernel_rfl) (fun _ _ _ h=>h) (by intro w hSw;(try dsimp only at hSw);go_simp;try with_reducible rfl) hHeld ?_
  refine AB (i:=11) (v:= ?_) rfl (by kernel_rfl) (fun _ _ _ h=>h) (by intro w hSw;(try dsimp only at hSw);go_simp;try with_reducible rfl) hHeld ?_
  refine AB (i:=13) (v:= ?_) rfl (by kernel_rfl) (fun _ _ _ h=>h) (by intro w hSw;(try dsimp only at hSw);go_simp;try with_reducible rfl) hHeld ?_
  refine AB (i:=14) (v:= ?_) rfl (by kernel_rfl) (fun _ _ _ h=>h) (by intro w hSw;(try dsimp only at hSw);go_simp;try with_reducible rfl) hHeld ?_
  refine AB (i:=15) (v:= ?_) rfl (by kernel_rfl) (fun _ _ _ h=>h) (by intro w hSw;(try dsimp only at hSw);go_simp;try with_reducible rfl) hHeld ?_
  refine AB (i:=16) (v:= ?_) rfl (by kernel_rfl) (fun _ _ _ h=>h) (by intro w hSw;(try dsimp only at hSw);go_simp;try with_reducible rfl) hHeld ?_
  refine AB (i:=17) (v:= ?_) rfl (by kernel_rfl) (fun _ _ _ h=>h) (by intro w hSw;(try dsimp only at hSw);go_simp;try with_reducible rfl) hHeld ?_
  refine AB (i:=18) (v:= ?_) rfl (by kernel_rfl) (fun _ _ _ h=>h) (by intro w hSw;(try dsimp only at hSw);go_simp;try with_reducible rfl) hHeld ?_
  refine AB (i:=19) (v:= ?_) rfl (by kernel_rfl) (fun _ _ _ h=>h) (by intro w hSw;(try dsimp only at hSw);go_simp;try with_reducible rfl) hHeld ?_
  refine AB (i:=20) (v:= ?_) rfl (by kernel_rfl) (fun _ _ _ h=>h) (by intro w hSw;(try dsimp only at hSw);go_simp;try with_reducible rfl) hHeld ?_
  refine AB (i:=21) (v:= ?_) rfl (by kernel_rfl) (fun _ _ _ h=>h) (by intro w hSw;(try dsimp only at hSw);go_simp;try with_reducible rfl) hHeld ?_
  refine AB (i:=22) (v:= ?_) rfl (by kernel_rfl) (fun _ _ _ h=>h) (by intro w hSw;(try dsimp only at hSw);go_simp;try with_reducible rfl) hHeld ?_
  refine wpAnyH_ready (rs:= [12,23]) (by kernel_rfl) (by simp) ?_
  refine AllReadyH.cons rfl (fun K hK=> ?_) (AllReadyH.cons rfl (fun K hK=> ?_) AllReadyH.nil)
  ·have gl:=(HO.out.keep GN.out.kp ME.out).q 1 rfl
   go_simp
   refine hK.out _ _ ⟨Ao.gr HH.out GN.out,GN.out.r0,(HO.out.keep GN.out.kp ME.out).cell 0⟩ (fun Rm=> ?_)
   clear hK K gl
   refine wpAnyH_ready (rs:= [23]) (by kernel_rfl) (by simp) ?_
   refine AllReadyH.cons rfl (fun K hK=> ?_) AllReadyH.nil
   go_simp
   go_at_call 103
   refine(NQ (l:=R.l) (p:=q) ts.length (by omega) (Ao.inp HH.out GN.out) GN.out.rd HH.out.i2).mono ?_
   rintro e Rn ⟨hk,⟨v,bs,q3,rfl,⟨u,rfl,rfl,hu⟩,ha,hr⟩ | ⟨en,a1,h1,rfl⟩⟩
   case inr=>
    have JF:=AA (HH.out.OW (GN.out.kp.trans hk))
    exact BG.thrown (fun ax hd=>HT.out _ _ ax _ h1 hd JF.out)
   have N_:Hid (Ao R wr Rn 0 q3):=AA (GN.out.V6 hk hr)
   clear hk hr
   refine hK.out _ _ ⟨Ao.gr HH.out N_.out,N_.out.r0,(HO.out.keep N_.out.kp ME.out).cell 0⟩ (fun OA=> ?_)
   clear hK K
   refine wpAnyH_ready (rs:= [24]) (by kernel_rfl) (by simp) ?_
   refine AllReadyH.cons rfl (fun K hK=> ?_) AllReadyH.nil
   go_simp
   have Sk:Hid (Ao R wr (Rn.alloc (.cells #[.int .i64 (u:Int)] 3)) 0 q3):=AA (N_.out.alloc _)
   have HRW:Hid (Row (Rn.alloc (.cells #[.int .i64 (u:Int)] 3)) (Rn.heap.size+1) (some ⟨Rn.heap.size,0,none⟩) [.int .i64 (u:Int)]):=AA (Ak Rn [.int .i64 (u:Int)] 3)
   refine hK.out _ _ ⟨Ao.gr HH.out Sk.out,Sk.out.r0,(HO.out.keep Sk.out.kp ME.out).cell 0⟩ (fun f_=> ?_)
   clear hK K
   generalize hwn:Rn.alloc (.cells #[.int .i64 (u:Int)] 3)=cO at*
   clear hwn
   refine wpAnyH_ready (rs:= [25]) (by kernel_rfl) (by simp) ?_
   refine AllReadyH.cons rfl (fun K hK=> ?_) AllReadyH.nil
   refine Au rfl (.tmp 65) (.tmp 77) 23 rfl R.B 3 i0 _ 1 8 underlying23 hi0 hz hs' hby rfl (by omega) _ hs.length BJ rfl (BD NT.out.own Sk.out.kp Vi.out) (Rn.heap.size+1) _ 1 1 [.int .i64 (u:Int)] rfl rfl HRW.out (by intro u hu;simp at hu;subst hu<;>rfl) (by unfold maxLen;omega) (by omega) (by have:=Sk.out.kp.size;omega) ?_
   intro A4 c4 kI h2 h3 h4
   have EZ:=Ao.cB HH.out Sk.out UC.out h3
   have LC:=EZ.2.2 _ HO.out
   have Ir:=AA LC;have fq:=AA EZ;have H2:=AA h2;have H3:=AA h3;have H4:=AA h4
   refine hK.out _ _ ⟨EZ.1.cell 0,AL.cell EZ.2.1 0,LC.cell 0⟩ (fun Ay=> ?_)
   clear hK K h2 h3 h4 EZ LC
   refine AB (i:=26) (v:= ?_) rfl (by kernel_rfl) (fun _ _ _ h=>h) (by intro w hSw;(try dsimp only at hSw);go_simp;try with_reducible rfl) Ay ?_
   refine AB (i:=27) (v:= ?_) rfl (by kernel_rfl) (fun _ _ _ h=>h) (by intro w hSw;(try dsimp only at hSw);go_simp;try with_reducible rfl) Ay ?_
   refine wpAnyH_ready (rs:= [28]) (by kernel_rfl) (by simp) ?_
   refine AllReadyH.cons rfl (fun K hK=> ?_) AllReadyH.nil
   have ys:=Ir.out.cell 1;have yf:=Ir.out.frozen 1
   go_simp
   have HST:Hid (HR R (kI.setCell ⟨R.og,1,none⟩ (.slice A4 (hs.length+1) c4)) (MX ts (hs++ [(u:Int)]) [] 0 0) 0 q3):=AA (HH.out.step (DS.Y3 (m:=MX ts hs [] 0 0) V7.out NT.out Sk.out.kp Sk.out.rd (lo:=cO.heap.size) (hi:=cO.heap.size) (x:=(u:Int)) (⟨rfl,(by unfold Rd.ER;omega)⟩) (by have:=Sk.out.kp.size;exact this) (Nat.le_refl _) H2.out H3.out H4.out))
   refine hK.out _ _ ⟨HST.out.box.cell 0,AL.cell HST.out.rd 0,(Ir.out.set 1 _).cell 0⟩ (fun Iq=> ?_)
   clear hK K ys yf
   refine wpAnyH_done (by kernel_rfl) ?_ _
   refine BG.normal ?_
   have Dz:Hid (wX R p0 b0 ts (k+1) _):=AA ⟨hs++ [(u:Int)],q3,HST.out,by rw [List.length_append,Wu.out];rfl,by rw [DK,←List.append_assoc];exact HA.out.trans ha,Qb (m:=MX ts hs [] 0 0) HE.out ⟨by omega,by show(u:Int)<ts.length;omega⟩⟩
   clear hu ha
   go_wp2_with fail
   apply HK.out
   ·exact hlt
   ·exact Dz.out
  ·go_simp
   go_at_call 103
   refine(NQ (l:=R.l) (p:=q) ts.length (by omega) (Ao.inp HH.out GN.out) GN.out.rd HH.out.i2).mono ?_
   rintro e Qd ⟨hk,⟨v,bs,q3,rfl,⟨u,rfl,rfl,hu⟩,ha,hr⟩ | ⟨en,a1,h1,rfl⟩⟩
   case inr=>
    have JF:=AA (HH.out.OW (GN.out.kp.trans hk))
    exact BG.thrown (fun ax hd=>HT.out _ _ ax _ h1 hd JF.out)
   have Sl:Hid (Ao R wr Qd 0 q3):=AA (GN.out.V6 hk hr)
   clear hk hr
   refine hK.out _ _ ⟨Ao.gr HH.out Sl.out,Sl.out.r0,(HO.out.keep Sl.out.kp ME.out).cell 0⟩ (fun OB=> ?_)
   clear hK K
   refine wpAnyH_ready (rs:= [12,24]) (by kernel_rfl) (by simp) ?_
   refine AllReadyH.cons rfl (fun K hK=> ?_) (AllReadyH.cons rfl (fun K hK=> ?_) AllReadyH.nil)
   ·have gl:=(HO.out.keep Sl.out.kp ME.out).q 1 rfl
    go_simp
    refine hK.out _ _ ⟨Ao.gr HH.out Sl.out,Sl.out.r0,(HO.out.keep Sl.out.kp ME.out).cell 0⟩ (fun gD=> ?_)
    clear hK K gl
    refine wpAnyH_ready (rs:= [24]) (by kernel_rfl) (by simp) ?_
    refine AllReadyH.cons rfl (fun K hK=> ?_) AllReadyH.nil
    go_simp
    have Sm:Hid (Ao R wr (Qd.alloc (.cells #[.int .i64 (u:Int)] 3)) 0 q3):=AA (Sl.out.alloc _)
    have HRW:Hid (Row (Qd.alloc (.cells #[.int .i64 (u:Int)] 3)) (Qd.heap.size+1) (some ⟨Qd.heap.size,0,none⟩) [.int .i64 (u:Int)]):=AA (Ak Qd [.int .i64 (u:Int)] 3)
    refine hK.out _ _ ⟨Ao.gr HH.out Sm.out,Sm.out.r0,(HO.out.keep Sm.out.kp ME.out).cell 0⟩ (fun gG=> ?_)
    clear hK K
    generalize hwn:Qd.alloc (.cells #[.int .i64 (u:Int)] 3)=w26 at*
    clear hwn
    refine wpAnyH_ready (rs:= [25]) (by kernel_rfl) (by simp) ?_
    refine AllReadyH.cons rfl (fun K hK=> ?_) AllReadyH.nil
    refine Au rfl (.tmp 65) (.tmp 77) 23 rfl R.B 3 i0 _ 1 8 underlying23 hi0 hz hs' hby rfl (by omega) _ hs.length BJ rfl (BD NT.out.own Sm.out.kp Vi.out) (Qd.heap.size+1) _ 1 1 [.int .i64 (u:Int)] rfl rfl HRW.out (by intro u hu;simp at hu;subst hu<;>rfl) (by unfold maxLen;omega) (by omega) (by have:=Sm.out.kp.size;omega) ?_
    intro A4 c4 w27 h2 h3 h4
    have EZ:=Ao.cB HH.out Sm.out UC.out h3
    have LC:=EZ.2.2 _ HO.out
    have Ir:=AA LC;have fq:=AA EZ;have H2:=AA h2;have H3:=AA h3;have H4:=AA h4
    refine hK.out _ _ ⟨EZ.1.cell 0,AL.cell EZ.2.1 0,LC.cell 0⟩ (fun Ay=> ?_)
    clear hK K h2 h3 h4 EZ LC
    refine AB (i:=26) (v:= ?_) rfl (by kernel_rfl) (fun _ _ _ h=>h) (by intro w hSw;(try dsimp only at hSw);go_simp;try with_reducible rfl) Ay ?_
    refine AB (i:=27) (v:= ?_) rfl (by kernel_rfl) (fun _ _ _ h=>h) (by intro w hSw;(try dsimp only at hSw);go_simp;try with_reducible rfl) Ay ?_
    refine wpAnyH_ready (rs:= [28]) (by kernel_rfl) (by simp) ?_
    refine AllReadyH.cons rfl (fun K hK=> ?_) AllReadyH.nil
    have ys:=Ir.out.cell 1;have yf:=Ir.out.frozen 1
    go_simp
    have HST:Hid (HR R (w27.setCell ⟨R.og,1,none⟩ (.slice A4 (hs.length+1) c4)) (MX ts (hs++ [(u:Int)]) [] 0 0) 0 q3):=AA (HH.out.step (DS.Y3 (m:=MX ts hs [] 0 0) V7.out NT.out Sm.out.kp Sm.out.rd (lo:=w26.heap.size) (hi:=w26.heap.size) (x:=(u:Int)) (⟨rfl,(by unfold Rd.ER;omega)⟩) (by have:=Sm.out.kp.size;exact this) (Nat.le_refl _) H2.out H3.out H4.out))
    refine hK.out _ _ ⟨HST.out.box.cell 0,AL.cell HST.out.rd 0,(Ir.out.set 1 _).cell 0⟩ (fun Iq=> ?_)
    clear hK K ys yf
    refine wpAnyH_done (by kernel_rfl) ?_ _
    refine BG.normal ?_
    have Dz:Hid (wX R p0 b0 ts (k+1) _):=AA ⟨hs++ [(u:Int)],q3,HST.out,by rw [List.length_append,Wu.out];rfl,by rw [DK,←List.append_assoc];exact HA.out.trans ha,Qb (m:=MX ts hs [] 0 0) HE.out ⟨by omega,by show(u:Int)<ts.length;omega⟩⟩
    clear hu ha
    go_wp2_with fail
    apply HK.out
    ·exact hlt
    ·exact Dz.out
   ·go_simp
    have OO:Hid (Ao R wr (Qd.alloc (.cells #[.int .i64 (u:Int)] 3)) 0 q3):=AA (Sl.out.alloc _)
    have HRW:Hid (Row (Qd.alloc (.cells #[.int .i64 (u:Int)] 3)) (Qd.heap.size+1) (some ⟨Qd.heap.size,0,none⟩) [.int .i64 (u:Int)]):=AA (Ak Qd [.int .i64 (u:Int)] 3)
    refine hK.out _ _ ⟨Ao.gr HH.out OO.out,OO.out.r0,(HO.out.keep OO.out.kp ME.out).cell 0⟩ (fun gH=> ?_)
    clear hK K
    generalize hwn:Qd.alloc (.cells #[.int .i64 (u:Int)] 3)=w28 at*
    clear hwn
    refine wpAnyH_ready (rs:= [12]) (by kernel_rfl) (by simp) ?_
    refine AllReadyH.cons rfl (fun K hK=> ?_) AllReadyH.nil
    have gl:=(HO.out.keep OO.out.kp ME.out).q 1 rfl
    go_simp
    refine hK.out _ _ ⟨Ao.gr HH.out OO.out,OO.out.r0,(HO.out.keep OO.out.kp ME.out).cell 0⟩ (fun gI=> ?_)
    clear hK K gl
    refine wpAnyH_ready (rs:= [25]) (by kernel_rfl) (by simp) ?_
    refine AllReadyH.cons rfl (fun K hK=> ?_) AllReadyH.nil
    refine Au rfl (.tmp 65) (.tmp 77) 23 rfl R.B 3 i0 _ 1 8 underlying23 hi0 hz hs' hby rfl (by omega) _ hs.length BJ rfl (BD NT.out.own OO.out.kp Vi.out) (Qd.heap.size+1) _ 1 1 [.int .i64 (u:Int)] rfl rfl HRW.out (by intro u hu;simp at hu;subst hu<;>rfl) (by unfold maxLen;omega) (by omega) (by have:=OO.out.kp.size;omega) ?_
    intro A4 c4 w30 h2 h3 h4
    have EZ:=Ao.cB HH.out OO.out UC.out h3
    have LC:=EZ.2.2 _ HO.out
    have Ir:=AA LC;have fq:=AA EZ;have H2:=AA h2;have H3:=AA h3;have H4:=AA h4
    refine hK.out _ _ ⟨EZ.1.cell 0,AL.cell EZ.2.1 0,LC.cell 0⟩ (fun Ay=> ?_)
    clear hK K h2 h3 h4 EZ LC
    refine AB (i:=26) (v:= ?_) rfl (by kernel_rfl) (fun _ _ _ h=>h) (by intro w hSw;(try dsimp only at hSw);go_simp;try with_reducible rfl) Ay ?_
    refine AB (i:=27) (v:= ?_) rfl (by kernel_rfl) (fun _ _ _ h=>h) (by intro w hSw;(try dsimp only at hSw);go_simp;try with_reducible rfl) Ay ?_
    refine wpAnyH_ready (rs:= [28]) (by kernel_rfl) (by simp) ?_
    refine AllReadyH.cons rfl (fun K hK=> ?_) AllReadyH.nil
    have ys:=Ir.out.cell 1;have yf:=Ir.out.frozen 1
    go_simp
    have HST:Hid (HR R (w30.setCell ⟨R.og,1,none⟩ (.slice A4 (hs.length+1) c4)) (MX ts (hs++ [(u:Int)]) [] 0 0) 0 q3):=AA (HH.out.step (DS.Y3 (m:=MX ts hs [] 0 0) V7.out NT.out OO.out.kp OO.out.rd (lo:=w28.heap.size) (hi:=w28.heap.size) (x:=(u:Int)) (⟨rfl,(by unfold Rd.ER;omega)⟩) (by have:=OO.out.kp.size;exact this) (Nat.le_refl _) H2.out H3.out H4.out))
    refine hK.out _ _ ⟨HST.out.box.cell 0,AL.cell HST.out.rd 0,(Ir.out.set 1 _).cell 0⟩ (fun Iq=> ?_)
    clear hK K ys yf
    refine wpAnyH_done (by kernel_rfl) ?_ _
    refine BG.normal ?_
    have Dz:Hid (wX R p0 b0 ts (k+1) _):=AA ⟨hs++ [(u:Int)],q3,HST.out,by rw [List.length_append,Wu.out];rfl,by rw [DK,←List.append_assoc];exact HA.out.trans ha,Qb (m:=MX ts hs [] 0 0) HE.out ⟨by omega,by show(u:Int)<ts.length;omega⟩⟩
    clear hu ha
    go_wp2_with fail
    apply HK.out
    ·exact hlt
    ·exact Dz.out
 ·obtain rfl:k=M:=by omega
  have Sj:=HP
  clear HK
  go_wp2_with fail
  apply HX.out
  exact Sj.out
structure HQ (R:RC) (W:World) (m:AP) (all:Int) (q:Nat):Prop where
 inp:UJ W R.Bi R.l R.A R.n R.c
 i1:R.Bi≤R.og
 i2:R.Bi≤R.rg
 ds: ∃col v1 v2 v3 v6 v7 v8,DS R.B R.og R.rg R.Z0 W col v1 v2 v3 v6 v7 v8 m all R.A R.n R.c q
structure RC.At (R:RC) (w:World):Prop where
 gr:R.gr=w.heap.size
 w0:R.w0=w
 z:R.Z=fun k=>R.Z0 k∨k=R.gr
theorem HQ.box {R:RC} {w:World} {m:AP} {all:Int} {q:Nat} (h:HQ R w m all q) (hA:R.At w):HR R (w.alloc (.cells #[.pointer (some ⟨R.rg,0,none⟩)] 116)) m all q:=by
 obtain⟨col,v1,v2,v3,v6,v7,v8,d⟩:=h.ds
 have hb:Below w.heap.size w (w.alloc (.cells #[.pointer (some ⟨R.rg,0,none⟩)] 116)):=(Below.refl _ _).alloc (Nat.le_refl _) _
 have hlt:=d.rd.lt
 refine⟨h.inp.keep (Keep.Aq hb) h.i2 hlt,?_,?_,h.i1,h.i2,by rw [hA.gr];exact d.top,by rw [hA.z];exact .inr rfl,fun k hk=>by rw [hA.z];exact .inl hk,_,v1,v2,v3,v6,v7,v8,d.read (Keep.Aq hb) (d.rd.Ej hb) R.Z (fun k hk=> ?_)⟩
 ·rw [hA.gr];exact AL.new w _ _
 ·rw [hA.w0];exact(Keep.Aq (K:=fun _=>True) hb).mono (fun _ _=>trivial)
 ·rw [hA.z] at hk
  rcases hk with hk | rfl
  ·exact .inl hk
  ·exact .inr ⟨by rw [hA.gr];exact Nat.le_refl _,by rw [hA.gr,World.size_alloc];exact Nat.lt_succ_self _⟩
theorem HR.done {R:RC} {w:World} {m:AP} {all:Int} {q:Nat} (h:HR R w m all q):HQ R w m all q:=by
 obtain⟨col,v1,v2,v3,v6,v7,v8,d⟩:=h.ds
 exact⟨h.inp,h.i1,h.i2,_,_,_,_,_,_,_,d.less h.z0⟩
theorem vD (args:Array Value) (W:World):(callFunc 107 args).run prog W= .ok (.enter 107 args) W:=by kernel_rfl
theorem qL (u:Nat) (hu:u<18446744073709551616) (pl:Int) (fi:Nat) (hf:fi≤64) (gr rg og:Nat) (W:World) (h1:W.cell? ⟨gr,0,none⟩=some (.pointer (some ⟨rg,0,none⟩))) (h2:W.cell? ⟨rg,0,none⟩=some (.pointer (some ⟨og,0,none⟩))) (h3:W.cell? ⟨og,3,none⟩=some (.int .i64 (fi:Int))):
 Calls prog 107 #[.int .u64 (u:Int),.int .i64 pl,.pointer (some ⟨gr,0,none⟩)] W (fun e w'=>w'=W∧((e= .returned (.tuple #[])∧(fi≤u∧u≤64))∨Zn e)):=by
 have hw:IntKind.u64.wrap (fi:Int)=fi:=by rw [IntKind.wrap_u64];omega
 go_enter func107,ntmps107
 by_cases hb:fi≤u∧u≤64
 ·have d1:decide ((fi:Int)≤(u:Int))=true:=decide_eq_true (by omega)
  have d2:decide ((u:Int)≤64)=true:=decide_eq_true (by omega)
  have d3:(fi:Int)≤(u:Int):=by omega
  have d4:(u:Int)≤64:=by omega
  have HB:=AA hb
  clear hb
  go_wp2_with fail
  refine(Af _ _ _).mono ?_
  rintro e w' ⟨rfl,rfl⟩
  go_wp2_with fail
  go_end0
  exact⟨rfl,.inl ⟨rfl,HB.out⟩⟩
 ·by_cases hc:fi≤u
  ·have d1:decide ((fi:Int)≤(u:Int))=true:=decide_eq_true (by omega)
   have d2:decide ((u:Int)≤64)=false:=decide_eq_false (by omega)
   have d3:(fi:Int)≤(u:Int):=by omega
   have d4: ¬(u:Int)≤64:=by omega
   clear hb
   go_wp2_with fail
   refine(Ah _ _ _).mono ?_
   rintro e w' ⟨rfl,rfl⟩
   go_wp2_with fail
   exact⟨rfl,rfl,.inr ⟨_,_,by decide,rfl⟩⟩
  ·have d1:decide ((fi:Int)≤(u:Int))=false:=decide_eq_false (by omega)
   have d3: ¬(fi:Int)≤(u:Int):=by omega
   clear hb hc
   go_wp2_with fail
   refine(Ah _ _ _).mono ?_
   rintro e w' ⟨rfl,rfl⟩
   go_wp2_with fail
   exact⟨rfl,rfl,.inr ⟨_,_,by decide,rfl⟩⟩
end Go.Proofs.YtejbcledkhioeaaGreatDoor
