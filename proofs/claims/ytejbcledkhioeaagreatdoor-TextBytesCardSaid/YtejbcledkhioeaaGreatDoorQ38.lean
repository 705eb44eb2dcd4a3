/- Part 38 of the proof: DecU DecW DecX -/
import Derived.Laws.CopyOwn
import Derived.Test.YtejbcledkhioeaaGreatDoorQ34
import Derived.Test.YtejbcledkhioeaaGreatDoorQ36
namespace Go.Proofs.YtejbcledkhioeaaGreatDoor
set_option linter.unusedVariables false
set_option linter.unusedSimpArgs false
set_option maxRecDepth 100000
set_option maxHeartbeats 4000000
open Go.RowKit Tryz
set_option maxRecDepth 1000000 in
theorem vP {R:RC} {m:AP} {fs:List GR} {all:Int} {g2 rm fi:Nat} (AAF:fi≤64) (hfi:m.first=(fi:Int)) (hrm:fi*4096=rm) (hZ2:R.Z g2) (ACO:R.B≤g2) {p0:Nat} {b0:List UInt8} {M:Nat} (hM:M≤64) {Wt:World} (HP:Hid (xG R m fs all g2 rm p0 b0 0 Wt))
 (s0 s6 s7 s8 s9 s10 s11 s12 s13 Fw s15 s16 En EN GZ s20 Eo Ga EO s24 EP Ep Er s68 Fx Fy Fz s72 F4 F5 F6 F7 F8 F9 GA GD GH s82 s83 Gw Gx Gy s87 FH FI FJ FK FL FM FN FP FQ Gz G5 G6 BZ Ba Bb Bc Bd Bf Bg Bh Bj Bl Bn Bo Bp CS CU CV CW CX CY Bz B_ CB CF CG CJ BL BF BM BN BO BP BQ BR BS u3 u4 u5 u29 u30 u31 u32 u33 u34 u35 u36 u37 u38 Rl u40 MH u42 MI u44 u45 u46 MJ u48 u49 Ou u51 MK u53 Ro u55 Rp ML u58 u59 u60 MN MO u63 u64 MP u66:Value) (Q:Exit→Act→World→Prop) (HT:Hid (∀(en a1:Int) (ax:Act) (wx:World),en≠0→ax.defers= []→Keep (KD R.B R.og R.rg R.Z0) R.w0 wx→Q (.panic (thrown en a1)) ax wx))
 (HX:Hid (∀(u3 u4 u5 u29 u30 u31 u32 u33 u34 u35 u36 u37 u38 Rl u40 MH u42 MI u44 u45 u46 MJ u48 u49 Ou u51 MK u53 Ro u55 Rp ML u58 u59 u60 MN MO u63 u64 MP u66:Value) (wx:World),xG R m fs all g2 rm p0 b0 M wx→Q (.exit 2) ⟨(List.toArray (s0::(.pointer (some ⟨R.gr,0,none⟩))::(.pointer (some ⟨g2,0,none⟩))::u3::u4::u5::s6::s7::s8::s9::s10::s11::s12::s13::Fw::s15::s16::En::EN::GZ::s20::Eo::Ga::EO::s24::EP::Ep::(.int .i64 (M:Int))::(.int .i64 (M:Int))::u29::u30::u31::u32::u33::u34::u35::u36::u37::u38::Rl::u40::MH::u42::MI::u44::u45::u46::MJ::u48::u49::Ou::u51::MK::u53::Ro::u55::Rp::ML::u58::u59::u60::MN::MO::u63::u64::MP::u66::Er::s68::Fx::Fy::Fz::s72::F4::F5::F6::F7::F8::F9::GA::GD::GH::s82::s83::Gw::Gx::Gy::s87::FH::FI::FJ::FK::FL::FM::FN::FP::FQ::Gz::G5::G6::BZ::Ba::Bb::Bc::Bd::Bf::Bg::Bh::Bj::Bl::Bn::Bo::Bp::CS::CU::CV::CW::CX::CY::Bz::B_::CB::CF::CG::CJ::BL::BF::BM::BN::BO::BP::BQ::BR::BS:: [])),[]⟩ wx)):
 Code.wp prog (Code.loop (dA 1)) Q ⟨(List.toArray (s0::(.pointer (some ⟨R.gr,0,none⟩))::(.pointer (some ⟨g2,0,none⟩))::u3::u4::u5::s6::s7::s8::s9::s10::s11::s12::s13::Fw::s15::s16::En::EN::GZ::s20::Eo::Ga::EO::s24::EP::Ep::(.int .i64 (M:Int))::(.int .i64 0)::u29::u30::u31::u32::u33::u34::u35::u36::u37::u38::Rl::u40::MH::u42::MI::u44::u45::u46::MJ::u48::u49::Ou::u51::MK::u53::Ro::u55::Rp::ML::u58::u59::u60::MN::MO::u63::u64::MP::u66::Er::s68::Fx::Fy::Fz::s72::F4::F5::F6::F7::F8::F9::GA::GD::GH::s82::s83::Gw::Gx::Gy::s87::FH::FI::FJ::FK::FL::FM::FN::FP::FQ::Gz::G5::G6::BZ::Ba::Bb::Bc::Bd::Bf::Bg::Bh::Bj::Bl::Bn::Bo::Bp::CS::CU::CV::CW::CX::CY::Bz::B_::CB::CF::CG::CJ::BL::BF::BM::BN::BO::BP::BQ::BR::BS:: [])),[]⟩ Wt:=by
 refine wp_loop (fun a wx=> ∃(U:Nat→Value) (k:Nat),k≤M∧xG R m fs all g2 rm p0 b0 k wx∧a=⟨(List.toArray (s0::(.pointer (some ⟨R.gr,0,none⟩))::(.pointer (some ⟨g2,0,none⟩))::(U 0)::(U 1)::(U 2)::s6::s7::s8::s9::s10::s11::s12::s13::Fw::s15::s16::En::EN::GZ::s20::Eo::Ga::EO::s24::EP::Ep::(.int .i64 (M:Int))::(.int .i64 (k:Int))::(U 3)::(U 4)::(U 5)::(U 6)::(U 7)::(U 8)::(U 9)::(U 10)::(U 11)::(U 12)::(U 13)::(U 14)::(U 15)::(U 16)::(U 17)::(U 18)::(U 19)::(U 20)::(U 21)::(U 22)::(U 23)::(U 24)::(U 25)::(U 26)::(U 27)::(U 28)::(U 29)::(U 30)::(U 31)::(U 32)::(U 33)::(U 34)::(U 35)::(U 36)::(U 37)::(U 38)::(U 39)::(U 40)::Er::s68::Fx::Fy::Fz::s72::F4::F5::F6::F7::F8::F9::GA::GD::GH::s82::s83::Gw::Gx::Gy::s87::FH::FI::FJ::FK::FL::FM::FN::FP::FQ::Gz::G5::G6::BZ::Ba::Bb::Bc::Bd::Bf::Bg::Bh::Bj::Bl::Bn::Bo::Bp::CS::CU::CV::CW::CX::CY::Bz::B_::CB::CF::CG::CJ::BL::BF::BM::BN::BO::BP::BQ::BR::BS:: [])),[]⟩) (fun a _=>M-(intOf (a.tmps.getD 28 undef)).toNat) ?_ ?_
 ·exact⟨fun i=> [u3,u4,u5,u29,u30,u31,u32,u33,u34,u35,u36,u37,u38,Rl,u40,MH,u42,MI,u44,u45,u46,MJ,u48,u49,Ou,u51,MK,u53,Ro,u55,Rp,ML,u58,u59,u60,MN,MO,u63,u64,MP,u66].getD i undef,0,Nat.zero_le _,HP.out,rfl⟩
 intro a wr hI
 clear HP u3 u4 u5 u29 u30 u31 u32 u33 u34 u35 u36 u37 u38 Rl u40 MH u42 MI u44 u45 u46 MJ u48 u49 Ou u51 MK u53 Ro u55 Rp ML u58 u59 u60 MN MO u63 u64 MP u66
 obtain⟨U,k,hk,hp,rfl⟩:=hI
 have HP:=AA hp
 clear hp
 refine Qc (fun K=> ∀(u3 u4 u5 u29 u30 u31 u32 u33 u34 u35 u36 u37 u38 Rl u40 MH u42 MI u44 u45 u46 MJ u48 u49 Ou u51 MK u53 Ro u55 Rp ML u58 u59 u60 MN MO u63 u64 MP u66:Value) (wx:World),k<M→xG R m fs all g2 rm p0 b0 (k+1) wx→K ⟨(List.toArray (s0::(.pointer (some ⟨R.gr,0,none⟩))::(.pointer (some ⟨g2,0,none⟩))::u3::u4::u5::s6::s7::s8::s9::s10::s11::s12::s13::Fw::s15::s16::En::EN::GZ::s20::Eo::Ga::EO::s24::EP::Ep::(.int .i64 (M:Int))::(.int .i64 ((k:Int)+1))::u29::u30::u31::u32::u33::u34::u35::u36::u37::u38::Rl::u40::MH::u42::MI::u44::u45::u46::MJ::u48::u49::Ou::u51::MK::u53::Ro::u55::Rp::ML::u58::u59::u60::MN::MO::u63::u64::MP::u66::Er::s68::Fx::Fy::Fz::s72::F4::F5::F6::F7::F8::F9::GA::GD::GH::s82::s83::Gw::Gx::Gy::s87::FH::FI::FJ::FK::FL::FM::FN::FP::FQ::Gz::G5::G6::BZ::Ba::Bb::Bc::Bd::Bf::Bg::Bh::Bj::Bl::Bn::Bo::Bp::CS::CU::CV::CW::CX::CY::Bz::B_::CB::CF::CG::CJ::BL::BF::BM::BN::BO::BP::BQ::BR::BS:: [])),[]⟩ wx) ?_ ?_
 ·intro u3 u4 u5 u29 u30 u31 u32 u33 u34 u35 u36 u37 u38 Rl u40 MH u42 MI u44 u45 u46 MJ u48 u49 Ou u51 MK u53 Ro u55 Rp ML u58 u59 u60 MN MO u63 u64 MP u66 wy hlt hp2
  refine⟨⟨fun i=> [u3,u4,u5,u29,u30,u31,u32,u33,u34,u35,u36,u37,u38,Rl,u40,MH,u42,MI,u44,u45,u46,MJ,u48,u49,Ou,u51,MK,u53,Ro,u55,Rp,ML,u58,u59,u60,MN,MO,u63,u64,MP,u66].getD i undef,k+1,hlt,hp2,rfl⟩,?_⟩
  show M-(intOf (.int .i64 ((k+1:Nat):Int))).toNat<M-(intOf (.int .i64 (k:Int))).toNat
  simp [intOf]
  omega
 intro K HK
 conv=>arg 2;whnf
 have hk0:(0:Int)≤k:=by omega
 by_cases hlt:k<M
 ·have KU:(k:Int)<M:=by omega
  clear HX
  obtain⟨ds,q,hh,hg2,hl,ha,he,hok⟩:=HP.out
  have HH:=AA hh;have HA:=AA ha;have HE:=AA he;have Qz:=AA hok;have HG0:=AA hg2
  have hdl:ds.length≤64:=by omega
  have Wu:=AA hl
  have hrl:=hh.kG;have hol:=hh.qJ;have hgB:=hh.gB;have htop:=hh.top
  have P0:=AA hh.pr
  clear hh ha he hl hg2 hok
  obtain⟨col,v1,v2,v3,v6,v7,v8,hds⟩:=HH.out.ds
  obtain⟨A2,c2,BJ,e2,hP⟩:=hds.six.p7
  subst e2
  have V7:=AA hds;have NT:=AA hP;have HO:=AA hds.out;have ME:=AA hds.ne
  have Vi:Hid (∀k,(Value.slice A2 ds.length c2).ownBlock=some k→k≠R.rg):=AA (fun k hk e=>by have h1:=(hP.lt k hk).1;have h2:=hds.l2;omega)
  have UC:=AA (HH.out.kH (hP.far (by decide) hds.zz))
  have HOW:Hid (∀k,(Value.slice A2 ds.length c2).ownBlock=some k→k<wr.heap.size):=AA (fun k hk=>(hP.lt k hk).2)
  clear hds hP
  have HFZ:=AA (NT.out.far (by decide) V7.out.zz)
  have HNM:=AA (Sg (l:=R.l) (B:=R.Bi) (N:=109) (cap:= #[.pointer (some ⟨g2,0,none⟩),.pointer (some ⟨R.gr,0,none⟩)]) HH.out.inp HH.out.rd AAC (fun k=>k≠R.rg) (fun u w'=>Below wr.drew.heap.size wr.drew w'∧u≤fi*4096∧AAD ds (u:Int)=0)
   (fun u hu=>(AAE u hu q g2 R.gr R.rg R.og fi AAF A2 c2 R.B wr.heap.size ds wr.drew (by have:=HG0.out.cell 0;rw [←hrm] at this;exact this) (Ao.gr HH.out P0.out.drew) P0.out.drew.r0 (HO.out.cell 6) (by have:=HO.out.cell 3;rw [show(MB m fs ds []).first=(fi:Int)from hfi] at this;exact this) (show(JC.sl false).R wr R.B wr.heap.size [.slice A2 ds.length c2] ds from NT.out.reads) Qz.out (by omega)).mono (fun e w' hh=>by
    rcases hh with⟨hb,⟨h1,h2⟩ | h1⟩
    ·exact .inl ⟨h1,hb,h2⟩
    ·exact .inr ⟨h1,((Keep.refl _ _).drew).trans (Keep.Aq hb)⟩))
   (fun u w' hh=>⟨all,P0.out.drew.rd.Ej hh.1⟩))
  have ag:=Ao.gr HH.out P0.out
  go_wp2_with fail
  refine HNM.out.mono ?_
  rintro e w1 (⟨u,q1,wz,huv,⟨hwz,hu1,hu2⟩,hw1,rfl⟩ | ⟨⟨en,a1,hne,rfl⟩,hk⟩)
  case inr=>
   have H1:=AA hne;have JF:=AA (HH.out.OW hk);clear hne hk
   go_wp2_with fail
   exact HT.out _ _ _ _ H1.out rfl JF.out
  have PZ:Hid (Ao R wr wz all q):=AA (P0.out.drew.below hwz)
  have P1:Hid (Ao R wr w1 all q1):=AA (by rw [hw1];exact PZ.out.go q1)
  have hgg:g2≠R.rg:=by omega
  have YT:Hid (AL w1 g2 3 [.int .i64 (rm:Int)]):=AA (HG0.out.keep P1.out.kp hgg)
  have HA1:=AA (NP huv)
  have HUL:Hid (u≤rm):=AA (by rw [←hrm];exact hu1)
  have hul:u≤rm:=HUL.out
  have HSE:=AA hu2
  have hz:wrap64 (u:Int)=u:=by unfold wrap64;omega
  rw [hz]
  clear hz huv hwz hu1 hu2 hw1 PZ HNM ag
  have ag:=Ao.gr HH.out P1.out
  have a2:=YT.out.q 0 rfl
  have hsub:IntKind.i64.wrap ((rm:Int)-u)=(rm:Int)-u:=by rw [IntKind.wrap_i64];omega
  have HTX:=AA (Xw (l:=R.l) ((rm:Int)-u) (by omega) (Ao.inp HH.out P1.out) P1.out.rd)
  go_wp2_with fail
  refine HTX.out.mono ?_
  rintro e w2 ⟨hk2,⟨v,bs,q3,rfl,⟨s,rfl,rfl,hs1,hs2⟩,ha2,hr2⟩ | ⟨en,a1,h1,rfl⟩⟩
  case inr=>
   have H1:=AA h1;have JF:=AA ((HH.out).OW (P1.out.kp.trans hk2));clear h1
   go_wp2_with fail
   exact HT.out _ _ _ _ H1.out rfl JF.out
  have P2:Hid (Ao R wr w2 all q3):=AA (P1.out.V6 hk2 hr2)
  have HG:Hid (AL w2 g2 3 [.int .i64 (rm:Int)]):=AA (YT.out.keep hk2 hgg)
  have HA2:=AA ha2;have HS1:=AA hs1;have HS2:=AA hs2
  clear hk2 hr2 ha2 hs1 hs2 HTX ag a2 hsub
  have hsl:s.data.toList.length=s.size:=by simp
  by_cases hse:s.size=0
  ·have JF:=AA (P2.out.OW HH.out)
   have hne:s.toList.isEmpty=true:=by rw [ByteArray.toList_eq];cases h:s.data.toList with | nil=>rfl | cons a b=>exact absurd (hse▸hsl) (by rw [h];simp)
   clear hse hsl
   go_wp2_with fail
   refine(Ah _ _ _).mono ?_
   rintro e w' ⟨rfl,rfl⟩
   go_wp2_with fail
   exact HT.out _ _ _ _ (by decide) rfl JF.out
  have hsz0:0<s.size:=by omega
  have hne:s.toList.isEmpty=false:=by rw [ByteArray.toList_eq];cases h:s.data.toList with | nil=>exact absurd (by rw [←hsl,h];rfl) hse | cons a b=>rfl
  have HAD:Hid (K_ R.l q (M5 ⟨(u:Int),s.data.toList⟩) q3):=AA (by unfold M5;dsimp only;rw [hsl];exact HA1.out.trans HA2.out)
  have hfe:(MB m fs ds []).first*4096=(rm:Int):=by show m.first*4096=_;rw [hfi,←hrm];omega
  have AAG:Hid (Ad (ds++ [(⟨(u:Int),s.data.toList⟩:EU)]).length (Nh (MB m fs (ds++ [⟨(u:Int),s.data.toList⟩]) []))=0):=AA (qE (m:=MB m fs ds []) HE.out ⟨by show(0:Int)≤u;omega,by rw [hfe];show(u:Int)≤rm;omega⟩ HSE.out (by rw [hfe];show((s.data.toList.length:Nat):Int)≤rm-u;rw [hsl];exact HS1.out) (by show 0<s.data.toList.length;omega))
  have HYO:Hid (0≤(u:Int)∧(u:Int)≤262144∧s.data.toList.length≤262144):=AA (by have:=HS2.out;omega)
  have HYS:Hid (∀y∈ds++ [(⟨(u:Int),s.data.toList⟩:EU)],0≤y.at_∧y.at_≤262144∧y.b.length≤262144):=AA (fun y hy=>by
   rcases List.mem_append.1 hy with h | h
   ·exact Qz.out y h
   ·rw [List.mem_singleton] at h;rw [h];exact HYO.out)
  have Tv:Hid ((Value.slice A2 ds.length c2).ownBlock≠some g2):=AA (fun e=>(HFZ.out _ e).2.2 hZ2)
  have LA:Hid (g2≠R.og):=AA (by omega)
  have hss:s.size≤65536:=HS2.out
  clear hse hfe hsl hsz0
  go_wp2_with fail
  refine(Af _ _ _).mono ?_
  rintro e w' ⟨rfl,rfl⟩
  go_upto_region 11 with fail
  obtain⟨i0,hi0,hz,hs',hby⟩:=info_parts WT
  refine Aa ?_
  have GN:Hid (Ao R wr w2.drew all q3):=AA P2.out.drew
  have DJ:Hid (AL w2.drew (g2) 3 [.int .i64 (rm:Int)]):=AA (HG.out.drewN 1)
  refine wp_region_held_drew (S:=fun W=>W.cell? ⟨R.gr,0,none⟩=some (.pointer (some ⟨R.rg,0,none⟩))∧W.cell? ⟨R.rg,0,none⟩=some (.pointer (some ⟨R.og,0,none⟩))∧W.cell? ⟨g2,0,none⟩=some (.int .i64 (rm:Int))) (by kernel_rfl) ⟨Ao.gr HH.out GN.out,GN.out.r0,DJ.out.cell 0⟩ (fun hHeld=> ?_)
  generalize w2.drew=CP at*
  refine AB (i:=0) (v:= ?_) rfl (by kernel_rfl) (fun _ _ _ h=>h) (by intro w hSw;(try dsimp only at hSw);go_simp;try with_reducible rfl) hHeld ?_
  refine AB (i:=1) (v:= ?_) rfl (by kernel_rfl) (fun _ _ _ h=>h) (by intro w hSw;(try dsimp only at hSw);go_simp;try with_reducible rfl) hHeld ?_
  refine AB (i:=2) (v:= ?_) rfl (by kernel_rfl) (fun _ _ _ h=>h) (by intro w hSw;(try dsimp only at hSw);go_simp;try with_reducible rfl) hHeld ?_
  refine AB (i:=3) (v:= ?_) rfl (by kernel_rfl) (fun _ _ _ h=>h) (by intro w hSw;(try dsimp only at hSw);go_simp;try with_reducible rfl) hHeld ?_
  refine AB (i:=4) (v:= ?_) rfl (by kernel_rfl) (fun _ _ _ h=>h) (by intro w hSw;(try dsimp only at hSw);go_simp;try with_reducible rfl) hHeld ?_
  refine AB (i:=5) (v:= ?_) rfl (by kernel_rfl) (fun _ _ _ h=>h) (by intro w hSw;(try dsimp only at hSw);go_simp;try with_reducible rfl) hHeld ?_
  refine AB (i:=6) (v:= ?_) rfl (by kernel_rfl) (fun _ _ _ h=>h) (by intro w hSw;(try dsimp only at hSw);go_simp;try with_reducible rfl) hHeld ?_
  refine AB (i:=7) (v:= ?_) rfl (by kernel_rfl) (fun _ _ _ h=>h) (by intro w hSw;(try dsimp only at hSw);go_simp;try with_reducible rfl) hHeld ?_
  refine AB (i:=8) (v:= ?_) rfl (by kernel_rfl) (fun _ _ _ h=>h) (by intro w hSw;(try dsimp only at hSw);go_simp;try with_reducible rfl) hHeld ?_
  refine AB (i:=9) (v:= ?_) rfl (by kernel_rfl) (fun _ _ _ h=>h) (by intro w hSw;(try dsimp only at hSw);go_simp;try with_reducible rfl) hHeld ?_
  refine AB (i:=10) (v:= ?_) rfl (by kernel_rfl) (fun _ _ _ h=>h) (by intro w hSw;(try dsimp only at hSw);go_simp;try with_reducible rfl) hHeld ?_
  refine AB (i:=11) (v:= ?_) rfl (by kernel_rfl) (fun _ _ _ h=>h) (by intro w hSw;(try dsimp only at hSw);go_simp;try with_reducible rfl) hHeld ?_
  refine AB (i:=13) (v:= ?_) rfl (by kernel_rfl) (fun _ _ _ h=>h) (by intro w hSw;(try dsimp only at hSw);go_simp;try with_reducible rfl) hHeld ?_
  refine AB (i:=14) (v:= ?_) rfl (by kernel_rfl) (fun _ _ _ h=>h) (by intro w hSw;(try dsimp only at hSw);go_simp;try with_reducible rfl) hHeld ?_
  refine wpAnyH_ready (rs:= [12,15]) (by kernel_rfl) (by simp) ?_
  refine AllReadyH.cons rfl (fun K hK=> ?_) (AllReadyH.cons rfl (fun K hK=> ?_) AllReadyH.nil)
  ·have gl:=(HO.out.keep GN.out.kp ME.out).q 6 rfl
   go_simp
   refine hK.out _ _ ⟨Ao.gr HH.out GN.out,GN.out.r0,DJ.out.cell 0⟩ (fun Rm=> ?_)
   clear hK K gl
   refine wpAnyH_ready (rs:= [15]) (by kernel_rfl) (by simp) ?_
   refine AllReadyH.cons rfl (fun K hK=> ?_) AllReadyH.nil
   have hcv:=Lib.run_convert_string_bytes (P:=prog) CP 9 41 5 s underlying9 underlying41 underlying5
   go_simp
   have hbw:=Lib.bytesWorld_below CP 5 s
   have N_:Hid (Ao R wr (Lib.bytesWorld CP 5 s) all q3):=AA (GN.out.below hbw)
   have HU8:=AA (qZ CP s)
   have dB:Hid ((Lib.bytesWorld CP 5 s).heap.size=CP.heap.size+1):=AA (Lib.bytesWorld_size CP 5 s)
   have hwz:wr.heap.size≤CP.heap.size:=GN.out.kp.size
   have GQ:=AA (DJ.out.below hbw DJ.out.lt)
   clear hcv hbw
   generalize hwn:Lib.bytesWorld CP 5 s=wv at*
   clear hwn
   generalize hcn:grownCap CP s.size 0 5=cv at*
   clear hcn
   generalize hgn:CP.heap.size=gv at*
   clear hgn
   have HBV:Hid (Below wv.heap.size wv wv):=AA (Below.refl _ _)
   refine hK.out _ _ ⟨Ao.gr HH.out N_.out,N_.out.r0,GQ.out.cell 0⟩ (fun OA=> ?_)
   clear hK K
   refine AB (i:=16) (v:= ?_) rfl (by kernel_rfl) (fun _ _ _ h=>h) (by intro w hSw;(try dsimp only at hSw);go_simp;try with_reducible rfl) OA ?_
   refine wpAnyH_ready (rs:= [17]) (by kernel_rfl) (by simp) ?_
   refine AllReadyH.cons rfl (fun K hK=> ?_) AllReadyH.nil
   go_simp
   have Sk:Hid (Ao R wr (wv.alloc (.cells #[.int .i64 (u:Int),.slice (some ⟨gv,0,none⟩) s.size cv] 59)) all q3):=AA (N_.out.alloc _)
   have ET:Hid (AL (wv.alloc (.cells #[.int .i64 (u:Int),.slice (some ⟨gv,0,none⟩) s.size cv] 59)) (g2) 3 [.int .i64 (rm:Int)]):=AA (GQ.out.alloc _)
   have HRW:Hid (Row (wv.alloc (.cells #[.int .i64 (u:Int),.slice (some ⟨gv,0,none⟩) s.size cv] 59)) (wv.heap.size+1) (some ⟨wv.heap.size,0,none⟩) [.int .i64 (u:Int),.slice (some ⟨gv,0,none⟩) s.size cv]):=AA (Ak wv [.int .i64 (u:Int),.slice (some ⟨gv,0,none⟩) s.size cv] 59)
   have ACQ:Hid (Below wv.heap.size wv (wv.alloc (.cells #[.int .i64 (u:Int),.slice (some ⟨gv,0,none⟩) s.size cv] 59))):=AA (HBV.out.alloc HBV.out.size _)
   refine hK.out _ _ ⟨Ao.gr HH.out Sk.out,Sk.out.r0,ET.out.cell 0⟩ (fun f_=> ?_)
   clear hK K
   generalize hwn:wv.alloc (.cells #[.int .i64 (u:Int),.slice (some ⟨gv,0,none⟩) s.size cv] 59)=cO at*
   clear hwn
   refine wpAnyH_ready (rs:= [18]) (by kernel_rfl) (by simp) ?_
   refine AllReadyH.cons rfl (fun K hK=> ?_) AllReadyH.nil
   refine Au rfl (.tmp 57) (.tmp 62) 26 rfl R.B 59 i0 _ 2 32 underlying26 hi0 hz hs' hby rfl (by omega) _ ds.length BJ rfl (BD NT.out.own Sk.out.kp Vi.out) (wv.heap.size+1) _ 1 1 [.int .i64 (u:Int),.slice (some ⟨gv,0,none⟩) s.size cv] rfl rfl HRW.out (by intro u hu;simp at hu;rcases hu with rfl | rfl<;>rfl) (by unfold maxLen;omega) (by omega) (by have:=Sk.out.kp.size;omega) ?_
   intro A4 c4 kI h2 h3 h4
   have EZ:=Ao.cB HH.out Sk.out UC.out h3
   have LC:=EZ.2.2 _ HO.out
   have Dr:Hid (AL kI (g2) 3 [.int .i64 (rm:Int)]):=AA ((h3.block _ ET.out.lt (fun e=>Tv.out e.symm)).trans ET.out)
   have Ir:=AA LC;have fq:=AA EZ;have H2:=AA h2;have H3:=AA h3;have H4:=AA h4
   refine hK.out _ _ ⟨EZ.1.cell 0,AL.cell EZ.2.1 0,Dr.out.cell 0⟩ (fun Ay=> ?_)
   clear hK K h2 h3 h4 EZ LC
   refine AB (i:=19) (v:= ?_) rfl (by kernel_rfl) (fun _ _ _ h=>h) (by intro w hSw;(try dsimp only at hSw);go_simp;try with_reducible rfl) Ay ?_
   refine AB (i:=20) (v:= ?_) rfl (by kernel_rfl) (fun _ _ _ h=>h) (by intro w hSw;(try dsimp only at hSw);go_simp;try with_reducible rfl) Ay ?_
   refine wpAnyH_ready (rs:= [21]) (by kernel_rfl) (by simp) ?_
   refine AllReadyH.cons rfl (fun K hK=> ?_) AllReadyH.nil
   have ys:=Ir.out.cell 6;have yf:=Ir.out.frozen 6
   go_simp
   have HST:Hid (HR R (kI.setCell ⟨R.og,6,none⟩ (.slice A4 (ds.length+1) c4)) (MB m fs (ds++ [⟨(u:Int),s.data.toList⟩]) []) all q3):=AA (HH.out.step (DS.Y4 (m:=MB m fs ds []) V7.out NT.out Sk.out.kp Sk.out.rd (lo:=gv) (hi:=gv+1) (x:=⟨(u:Int),s.data.toList⟩) (Jg.2 ⟨_,rfl,(by have:=HUL.out;unfold Rd.ER;dsimp only;omega),Rd.below HU8.out ACQ.out (Nat.le_of_eq dB.out.symm)⟩) (by omega) (by have h1:=dB.out;have:=ACQ.out.size;omega) H2.out H3.out H4.out))
   refine hK.out _ _ ⟨HST.out.box.cell 0,AL.cell HST.out.rd 0,(Dr.out.far (p:=⟨R.og,6,none⟩) LA.out _).cell 0⟩ (fun Iq=> ?_)
   clear hK K ys yf
   have qd:=AA (Dr.out.far (p:=⟨R.og,6,none⟩) LA.out (.slice A4 (ds.length+1) c4))
   refine wpAnyH_done (by kernel_rfl) ?_ _
   refine BG.normal ?_
   have Dz:Hid (xG R m fs all g2 rm p0 b0 (k+1) _):=AA ⟨ds++ [⟨(u:Int),s.data.toList⟩],q3,HST.out,qd.out,by rw [List.length_append,Wu.out];rfl,by rw [DK,←List.append_assoc];exact HA.out.trans HAD.out,AAG.out,HYS.out⟩
   go_wp2_with fail
   apply HK.out
   ·exact hlt
   ·exact Dz.out
  ·have hcv:=Lib.run_convert_string_bytes (P:=prog) CP 9 41 5 s underlying9 underlying41 underlying5
   go_simp
   have hbw:=Lib.bytesWorld_below CP 5 s
   have Sl:Hid (Ao R wr (Lib.bytesWorld CP 5 s) all q3):=AA (GN.out.below hbw)
   have HU8:=AA (qZ CP s)
   have dB:Hid ((Lib.bytesWorld CP 5 s).heap.size=CP.heap.size+1):=AA (Lib.bytesWorld_size CP 5 s)
   have hwz:wr.heap.size≤CP.heap.size:=GN.out.kp.size
   have YK:=AA (DJ.out.below hbw DJ.out.lt)
   clear hcv hbw
   generalize hwn:Lib.bytesWorld CP 5 s=wv at*
   clear hwn
   generalize hcn:grownCap CP s.size 0 5=cv at*
   clear hcn
   generalize hgn:CP.heap.size=gv at*
   clear hgn
   have HBV:Hid (Below wv.heap.size wv wv):=AA (Below.refl _ _)
   refine hK.out _ _ ⟨Ao.gr HH.out Sl.out,Sl.out.r0,YK.out.cell 0⟩ (fun OB=> ?_)
   clear hK K
   refine AB (i:=16) (v:= ?_) rfl (by kernel_rfl) (fun _ _ _ h=>h) (by intro w hSw;(try dsimp only at hSw);go_simp;try with_reducible rfl) OB ?_
   refine wpAnyH_ready (rs:= [12,17]) (by kernel_rfl) (by simp) ?_
   refine AllReadyH.cons rfl (fun K hK=> ?_) (AllReadyH.cons rfl (fun K hK=> ?_) AllReadyH.nil)
   ·have gl:=(HO.out.keep Sl.out.kp ME.out).q 6 rfl
    go_simp
    refine hK.out _ _ ⟨Ao.gr HH.out Sl.out,Sl.out.r0,YK.out.cell 0⟩ (fun gD=> ?_)
    clear hK K gl
    refine wpAnyH_ready (rs:= [17]) (by kernel_rfl) (by simp) ?_
    refine AllReadyH.cons rfl (fun K hK=> ?_) AllReadyH.nil
    go_simp
    have Sm:Hid (Ao R wr (wv.alloc (.cells #[.int .i64 (u:Int),.slice (some ⟨gv,0,none⟩) s.size cv] 59)) all q3):=AA (Sl.out.alloc _)
    have dD:Hid (AL (wv.alloc (.cells #[.int .i64 (u:Int),.slice (some ⟨gv,0,none⟩) s.size cv] 59)) (g2) 3 [.int .i64 (rm:Int)]):=AA (YK.out.alloc _)
    have HRW:Hid (Row (wv.alloc (.cells #[.int .i64 (u:Int),.slice (some ⟨gv,0,none⟩) s.size cv] 59)) (wv.heap.size+1) (some ⟨wv.heap.size,0,none⟩) [.int .i64 (u:Int),.slice (some ⟨gv,0,none⟩) s.size cv]):=AA (Ak wv [.int .i64 (u:Int),.slice (some ⟨gv,0,none⟩) s.size cv] 59)
    have ACR:Hid (Below wv.heap.size wv (wv.alloc (.cells #[.int .i64 (u:Int),.slice (some ⟨gv,0,none⟩) s.size cv] 59))):=AA (HBV.out.alloc HBV.out.size _)
    refine hK.out _ _ ⟨Ao.gr HH.out Sm.out,Sm.out.r0,dD.out.cell 0⟩ (fun gG=> ?_)
    clear hK K
    generalize hwn:wv.alloc (.cells #[.int .i64 (u:Int),.slice (some ⟨gv,0,none⟩) s.size cv] 59)=w26 at*
    clear hwn
    refine wpAnyH_ready (rs:= [18]) (by kernel_rfl) (by simp) ?_
    refine AllReadyH.cons rfl (fun K hK=> ?_) AllReadyH.nil
    refine Au rfl (.tmp 57) (.tmp 62) 26 rfl R.B 59 i0 _ 2 32 underlying26 hi0 hz hs' hby rfl (by omega) _ ds.length BJ rfl (BD NT.out.own Sm.out.kp Vi.out) (wv.heap.size+1) _ 1 1 [.int .i64 (u:Int),.slice (some ⟨gv,0,none⟩) s.size cv] rfl rfl HRW.out (by intro u hu;simp at hu;rcases hu with rfl | rfl<;>rfl) (by unfold maxLen;omega) (by omega) (by have:=Sm.out.kp.size;omega) ?_
    intro A4 c4 w27 h2 h3 h4
    have EZ:=Ao.cB HH.out Sm.out UC.out h3
    have LC:=EZ.2.2 _ HO.out
    have dF:Hid (AL w27 (g2) 3 [.int .i64 (rm:Int)]):=AA ((h3.block _ dD.out.lt (fun e=>Tv.out e.symm)).trans dD.out)
    have Ir:=AA LC;have fq:=AA EZ;have H2:=AA h2;have H3:=AA h3;have H4:=AA h4
    refine hK.out _ _ ⟨EZ.1.cell 0,AL.cell EZ.2.1 0,dF.out.cell 0⟩ (fun Ay=> ?_)
    clear hK K h2 h3 h4 EZ LC
    refine AB (i:=19) (v:= ?_) rfl (by kernel_rfl) (fun _ _ _ h=>h) (by intro w hSw;(try dsimp only at hSw);go_simp;try with_reducible rfl) Ay ?_
    refine AB (i:=20) (v:= ?_) rfl (by kernel_rfl) (fun _ _ _ h=>h) (by intro w hSw;(try dsimp only at hSw);go_simp;try with_reducible rfl) Ay ?_
    refine wpAnyH_ready (rs:= [21]) (by kernel_rfl) (by simp) ?_
    refine AllReadyH.cons rfl (fun K hK=> ?_) AllReadyH.nil
    have ys:=Ir.out.cell 6;have yf:=Ir.out.frozen 6
    go_simp
    have HST:Hid (HR R (w27.setCell ⟨R.og,6,none⟩ (.slice A4 (ds.length+1) c4)) (MB m fs (ds++ [⟨(u:Int),s.data.toList⟩]) []) all q3):=AA (HH.out.step (DS.Y4 (m:=MB m fs ds []) V7.out NT.out Sm.out.kp Sm.out.rd (lo:=gv) (hi:=gv+1) (x:=⟨(u:Int),s.data.toList⟩) (Jg.2 ⟨_,rfl,(by have:=HUL.out;unfold Rd.ER;dsimp only;omega),Rd.below HU8.out ACR.out (Nat.le_of_eq dB.out.symm)⟩) (by omega) (by have h1:=dB.out;have:=ACR.out.size;omega) H2.out H3.out H4.out))
    refine hK.out _ _ ⟨HST.out.box.cell 0,AL.cell HST.out.rd 0,(dF.out.far (p:=⟨R.og,6,none⟩) LA.out _).cell 0⟩ (fun Iq=> ?_)
    clear hK K ys yf
    have qd:=AA (dF.out.far (p:=⟨R.og,6,none⟩) LA.out (.slice A4 (ds.length+1) c4))
    refine wpAnyH_done (by kernel_rfl) ?_ _
    refine BG.normal ?_
    have Dz:Hid (xG R m fs all g2 rm p0 b0 (k+1) _):=AA ⟨ds++ [⟨(u:Int),s.data.toList⟩],q3,HST.out,qd.out,by rw [List.length_append,Wu.out];rfl,by rw [DK,←List.append_assoc];exact HA.out.trans HAD.out,AAG.out,HYS.out⟩
    go_wp2_with fail
    apply HK.out
    ·exact hlt
    ·exact Dz.out
   ·go_simp
    have OO:Hid (Ao R wr (wv.alloc (.cells #[.int .i64 (u:Int),.slice (some ⟨gv,0,none⟩) s.size cv] 59)) all q3):=AA (Sl.out.alloc _)
    have YL:Hid (AL (wv.alloc (.cells #[.int .i64 (u:Int),.slice (some ⟨gv,0,none⟩) s.size cv] 59)) (g2) 3 [.int .i64 (rm:Int)]):=AA (YK.out.alloc _)
    have HRW:Hid (Row (wv.alloc (.cells #[.int .i64 (u:Int),.slice (some ⟨gv,0,none⟩) s.size cv] 59)) (wv.heap.size+1) (some ⟨wv.heap.size,0,none⟩) [.int .i64 (u:Int),.slice (some ⟨gv,0,none⟩) s.size cv]):=AA (Ak wv [.int .i64 (u:Int),.slice (some ⟨gv,0,none⟩) s.size cv] 59)
    have ACS:Hid (Below wv.heap.size wv (wv.alloc (.cells #[.int .i64 (u:Int),.slice (some ⟨gv,0,none⟩) s.size cv] 59))):=AA (HBV.out.alloc HBV.out.size _)
    refine hK.out _ _ ⟨Ao.gr HH.out OO.out,OO.out.r0,YL.out.cell 0⟩ (fun gH=> ?_)
    clear hK K
    generalize hwn:wv.alloc (.cells #[.int .i64 (u:Int),.slice (some ⟨gv,0,none⟩) s.size cv] 59)=w28 at*
    clear hwn
    refine wpAnyH_ready (rs:= [12]) (by kernel_rfl) (by simp) ?_
    refine AllReadyH.cons rfl (fun K hK=> ?_) AllReadyH.nil
    have gl:=(HO.out.keep OO.out.kp ME.out).q 6 rfl
    go_simp
    refine hK.out _ _ ⟨Ao.gr HH.out OO.out,OO.out.r0,YL.out.cell 0⟩ (fun gI=> ?_)
    clear hK K gl
    refine wpAnyH_ready (rs:= [18]) (by kernel_rfl) (by simp) ?_
    refine AllReadyH.cons rfl (fun K hK=> ?_) AllReadyH.nil
    refine Au rfl (.tmp 57) (.tmp 62) 26 rfl R.B 59 i0 _ 2 32 underlying26 hi0 hz hs' hby rfl (by omega) _ ds.length BJ rfl (BD NT.out.own OO.out.kp Vi.out) (wv.heap.size+1) _ 1 1 [.int .i64 (u:Int),.slice (some ⟨gv,0,none⟩) s.size cv] rfl rfl HRW.out (by intro u hu;simp at hu;rcases hu with rfl | rfl<;>rfl) (by unfold maxLen;omega) (by omega) (by have:=OO.out.kp.size;omega) ?_
    intro A4 c4 w30 h2 h3 h4
    have EZ:=Ao.cB HH.out OO.out UC.out h3
    have LC:=EZ.2.2 _ HO.out
    have dG:Hid (AL w30 (g2) 3 [.int .i64 (rm:Int)]):=AA ((h3.block _ YL.out.lt (fun e=>Tv.out e.symm)).trans YL.out)
    have Ir:=AA LC;have fq:=AA EZ;have H2:=AA h2;have H3:=AA h3;have H4:=AA h4
    refine hK.out _ _ ⟨EZ.1.cell 0,AL.cell EZ.2.1 0,dG.out.cell 0⟩ (fun Ay=> ?_)
    clear hK K h2 h3 h4 EZ LC
    refine AB (i:=19) (v:= ?_) rfl (by kernel_rfl) (fun _ _ _ h=>h) (by intro w hSw;(try dsimp only at hSw);go_simp;try with_reducible rfl) Ay ?_
    refine AB (i:=20) (v:= ?_) rfl (by kernel_rfl) (fun _ _ _ h=>h) (by intro w hSw;(try dsimp only at hSw);go_simp;try with_reducible rfl) Ay ?_
    refine wpAnyH_ready (rs:= [21]) (by kernel_rfl) (by simp) ?_
    refine AllReadyH.cons rfl (fun K hK=> ?_) AllReadyH.nil
    have ys:=Ir.out.cell 6;have yf:=Ir.out.frozen 6
    go_simp
    have HST:Hid (HR R (w30.setCell ⟨R.og,6,none⟩ (.slice A4 (ds.length+1) c4)) (MB m fs (ds++ [⟨(u:Int),s.data.toList⟩]) []) all q3):=AA (HH.out.step (DS.Y4 (m:=MB m fs ds []) V7.out NT.out OO.out.kp OO.out.rd (lo:=gv) (hi:=gv+1) (x:=⟨(u:Int),s.data.toList⟩) (Jg.2 ⟨_,rfl,(by have:=HUL.out;unfold Rd.ER;dsimp only;omega),Rd.below HU8.out ACS.out (Nat.le_of_eq dB.out.symm)⟩) (by omega) (by have h1:=dB.out;have:=ACS.out.size;omega) H2.out H3.out H4.out))
    refine hK.out _ _ ⟨HST.out.box.cell 0,AL.cell HST.out.rd 0,(dG.out.far (p:=⟨R.og,6,none⟩) LA.out _).cell 0⟩ (fun Iq=> ?_)
    clear hK K ys yf
    have qd:=AA (dG.out.far (p:=⟨R.og,6,none⟩) LA.out (.slice A4 (ds.length+1) c4))
    refine wpAnyH_done (by kernel_rfl) ?_ _
    refine BG.normal ?_
    have Dz:Hid (xG R m fs all g2 rm p0 b0 (k+1) _):=AA ⟨ds++ [⟨(u:Int),s.data.toList⟩],q3,HST.out,qd.out,by rw [List.length_append,Wu.out];rfl,by rw [DK,←List.append_assoc];exact HA.out.trans HAD.out,AAG.out,HYS.out⟩
    go_wp2_with fail
    apply HK.out
    ·exact hlt
    ·exact Dz.out
 ·obtain rfl:k=M:=by omega
  have Sj:=HP
  clear HK
  go_wp2_with fail
  apply HX.out
  exact Sj.out
set_option maxRecDepth 1000000 in
theorem vR {R:RC} {w:World} {m:AP} {q fi:Nat} (hA:R.At w) (h:HQ R w (MB m [] [] []) 0 q) (hBi:R.Bi≤R.w0.heap.size) (vN:Hid (∀W,Below R.Bi R.w0 W→Lib.TabIs prog W "strings.asciiSpace" .u8 Lib.asciiSpaceTab))
 (htl:m.types.length≤64) (htp: ∀t∈m.types,t.p.size≤8) (hfi:m.first=(fi:Int)) (AAF:fi≤64):
 Calls prog 64 #[.pointer (some ⟨R.rg,0,none⟩)] w (fun e w'=>Keep (KD R.B R.og R.rg R.Z0) R.w0 w'∧((∃fs ds es all q',e= .returned (.tuple #[])∧HQ R w' (MB m fs ds es) all q'∧K_ R.l q (Oe (MB m fs ds es)) q'∧I_ (MB m fs ds es)=0∧q'=R.n)∨Zn e)):=by
 have HH:=AA (h.box hA)
 have hg:=hA.gr
 clear h hA
 go_enter func64,ntmps64
 go_upto_region 1 with fail
 rw [←hg] at*
 generalize hw1:World.alloc _ _=w1 at*
 clear hw1 hg
 have P0:=AA HH.out.pr
 refine Aa ?_
 have PC:=AA (P0.out.drew)
 refine wp_region_held_drew (S:=fun W=>W.cell? ⟨R.gr,0,none⟩=some (.pointer (some ⟨R.rg,0,none⟩))) (by kernel_rfl) (Ao.gr HH.out PC.out) (fun hHeld=> ?_)
 generalize w1.drew=CP at*
 refine AB (i:=0) (v:= ?_) rfl (by kernel_rfl) (fun _ _ _ h=>h) (by intro w hSw;(try dsimp only at hSw);go_simp;try with_reducible rfl) hHeld ?_
 refine AB (i:=3) (v:= ?_) rfl (by kernel_rfl) (fun _ _ _ h=>h) (by intro w hSw;(try dsimp only at hSw);go_simp;try with_reducible rfl) hHeld ?_
 refine wpAnyH_ready (rs:= [1]) (by kernel_rfl) (by simp) ?_
 refine AllReadyH.cons rfl (fun K hK=> ?_) AllReadyH.nil
 go_simp
 go_at_call 100
 refine(N9 128 20 _).mono ?_
 rintro e Js ⟨hw,rfl⟩
 have PD:Hid (Ao R _ Js _ _):=AA (by rw [hw];exact(PC.out.alloc _).alloc _)
 have ha:Js.cell? ⟨CP.heap.size,0,none⟩=some (.int .i64 128):=by rw [hw];exact((AL.new CP 3 [.int .i64 128]).alloc _).cell 0
 have hb:Js.cell? ⟨CP.heap.size+1,0,none⟩=some (.int .i64 20):=by rw [hw];have:=(AL.new (CP.alloc (.cells #[.int .i64 128] 3)) 33 [.int .i64 20]).cell 0;rw [World.size_alloc] at this;exact this
 refine hK.out _ _ (Ao.gr HH.out PD.out) (fun Ag=> ?_)
 clear hK K hw
 refine wpAnyH_ready (rs:= [2]) (by kernel_rfl) (by simp) ?_
 refine AllReadyH.cons rfl (fun K hK=> ?_) AllReadyH.nil
 go_simp
 go_at_call 99
 refine(Lx (l:=R.l) (Ao.inp HH.out PD.out) PD.out.rd (by decide) (by decide) (by decide) ha hb).mono ?_
 rintro e wa ⟨hk,⟨v,bs,q1,rfl,⟨n1,rfl,rfl,hu⟩,ha',hr⟩ | ⟨en,a1,h1,rfl⟩⟩
 case inr=>
  have JF:=AA (HH.out.OW (PD.out.kp.trans hk))
  exact BG.thrown (fun ax hd=>And.intro hd (And.intro JF.out (Or.inr ⟨_,_,h1,rfl⟩)))
 have za:=AA (PD.out.V6 hk hr)
 have kJ:=AA hu;have zf:=AA ha'
 refine hK.out _ _ (Ao.gr HH.out za.out) (fun CO=> ?_)
 clear hK K hk hr hu ha' ha hb PC PD
 refine wpAnyH_done (by kernel_rfl) ?_ _
 refine BG.normal ?_
 have HF0:Hid (FsI R m q (enc n1) 0 wa):=AA ⟨[],q1,za.out.hr HH.out,rfl,by simpa using zf.out,rfl,by decide⟩
 go_wp2_with fail
 refine AAB (m:=m) (p0:=q) (b0:=enc n1) hBi vN htl htp (M:=n1) (by have:=kJ.out;omega) HF0 _ _ _ _ _ _ _ _ _ _ _ _ _ _ _ _ _ _ _ _ _ _ _ _ _ _ _ _ _ _ _ _ _ _ _ _ _ _ _ _ _ _ _ _ _ _ _ _ _ _ _ _ _ _ _ _ _ _ _ _ _ _ _ _ _ _ _ _ _ _ _ _ _ _ _ _ _ _ _ _ _ _ _ _ _ _ _ _ _ _ _ _ _ _ _ _ _ _ _ _ _ _ _ _ _ _ _ _ _ _ _ _ _ _ _ _ _ _ _ _ _ _ _ _ _ _ _ _ _ _ _ _ (AA ?_) (AA ?_)
 ·intro en a1 ax wx hne hd hk
  exact And.intro hd (And.intro hk (Or.inr ⟨en,a1,hne,rfl⟩))
 intro t0 t1 t2 t3 tw hpt
 have wm:=AA hpt
 clear hpt
 obtain⟨fs,q2,ht1,hl1,ha1,he1,hall⟩:=wm.out
 have ZX:=AA ht1;have Pt:=AA ht1.pr;have HLf:=AA hl1;have HAf:=AA ha1;have HEf:=AA he1
 have hfl:fs.length≤128:=by have:=kJ.out;omega
 clear ht1 hl1 ha1 he1 hall wm HF0 HH P0 za
 obtain⟨rm,hrm⟩: ∃rm:Nat,fi*4096=rm:=⟨_,rfl⟩
 have hmul:IntKind.i64.wrap ((fi:Int)*4096)=(rm:Int):=by rw [IntKind.wrap_i64];omega
 have ag:=Ao.gr ZX.out Pt.out
 have a0:=Pt.out.r0
 have a3:tw.cell? ⟨R.og,3,none⟩=some (.int .i64 (fi:Int)):=by
  obtain⟨col,v1,v2,v3,v6,v7,v8,d⟩:=ZX.out.ds
  have:=d.out.cell 3
  rw [show(MB m fs [] []).first=(fi:Int)from hfi] at this
  exact this
 go_upto_region 6 with fail
 generalize Mr:World.alloc _ _=w5
 have hb5:Below tw.heap.size tw w5:=by rw [←Mr];exact(Below.refl _ _).alloc (Nat.le_refl _) _
 have HG2:Hid (AL w5 tw.heap.size 3 [.int .i64 (rm:Int)]):=AA (by rw [←Mr];exact AL.new tw _ _)
 have hsz5:tw.heap.size<w5.heap.size:=HG2.out.lt
 have HD1:Hid (HR {R with Z:=fun k=>R.Z k∨k=tw.heap.size} w5 (MB m fs [] []) (Mv fs:Int) q2):=AA (ZX.out.more (Keep.Aq hb5) (ZX.out.rd.Ej hb5) _ (fun k hk=> .inl hk) (fun k hk=>hk.elim .inl (fun e=> .inr ⟨by rw [e];exact Nat.le_refl _,by rw [e];exact hsz5⟩)))
 have P5:=AA HD1.out.pr
 have ACO:R.B≤tw.heap.size:=ZX.out.top
 clear Mr hb5 ag a0 a3 ZX Pt
 refine Aa ?_
 have PC:=AA (P5.out.drew)
 refine wp_region_held_drew (S:=fun W=>W.cell? ⟨R.gr,0,none⟩=some (.pointer (some ⟨R.rg,0,none⟩))) (by kernel_rfl) ((by have h_:=Ao.gr HD1.out PC.out;exact h_)) (fun hHeld=> ?_)
 generalize w5.drew=CP at*
 refine AB (i:=0) (v:= ?_) rfl (by kernel_rfl) (fun _ _ _ h=>h) (by intro w hSw;(try dsimp only at hSw);go_simp;try with_reducible rfl) hHeld ?_
 refine AB (i:=3) (v:= ?_) rfl (by kernel_rfl) (fun _ _ _ h=>h) (by intro w hSw;(try dsimp only at hSw);go_simp;try with_reducible rfl) hHeld ?_
 refine wpAnyH_ready (rs:= [1]) (by kernel_rfl) (by simp) ?_
 refine AllReadyH.cons rfl (fun K hK=> ?_) AllReadyH.nil
 go_simp
 go_at_call 100
 refine(N9 64 20 _).mono ?_
 rintro e Js ⟨hw,rfl⟩
 have PD:Hid (Ao {R with Z:=fun k=>R.Z k∨k=tw.heap.size} _ Js _ _):=AA (by rw [hw];exact(PC.out.alloc _).alloc _)
 have ha:Js.cell? ⟨CP.heap.size,0,none⟩=some (.int .i64 64):=by rw [hw];exact((AL.new CP 3 [.int .i64 64]).alloc _).cell 0
 have hb:Js.cell? ⟨CP.heap.size+1,0,none⟩=some (.int .i64 20):=by rw [hw];have:=(AL.new (CP.alloc (.cells #[.int .i64 64] 3)) 33 [.int .i64 20]).cell 0;rw [World.size_alloc] at this;exact this
 refine hK.out _ _ ((by have h_:=Ao.gr HD1.out PD.out;exact h_)) (fun Ag=> ?_)
 clear hK K hw
 refine wpAnyH_ready (rs:= [2]) (by kernel_rfl) (by simp) ?_
 refine AllReadyH.cons rfl (fun K hK=> ?_) AllReadyH.nil
 go_simp
 go_at_call 99
 refine(Lx (l:=R.l) ((by have h_:=Ao.inp HD1.out PD.out;exact h_)) PD.out.rd (by decide) (by decide) (by decide) ha hb).mono ?_
 rintro e wb ⟨hk,⟨v,bs,q3,rfl,⟨n2,rfl,rfl,hu⟩,ha',hr⟩ | ⟨en,a1,h1,rfl⟩⟩
 case inr=>
  have JF:=AA (HD1.out.OW (PD.out.kp.trans hk))
  exact BG.thrown (fun ax hd=>And.intro hd (And.intro JF.out (Or.inr ⟨_,_,h1,rfl⟩)))
 have wu:=AA (PD.out.V6 hk hr)
 have qP:=AA hu;have zh:=AA ha'
 refine hK.out _ _ ((by have h_:=Ao.gr HD1.out wu.out;exact h_)) (fun CO=> ?_)
 clear hK K hk hr hu ha' ha hb PC PD
 have ACT:Hid (AL wb tw.heap.size 3 [.int .i64 (rm:Int)]):=AA (HG2.out.keep wu.out.kp (show tw.heap.size≠R.rg by have h_:R.rg<R.B:=HD1.out.kG;omega))
 refine wpAnyH_done (by kernel_rfl) ?_ _
 refine BG.normal ?_
 have HD0:Hid (xG {R with Z:=fun k=>R.Z k∨k=tw.heap.size} m fs (Mv fs:Int) tw.heap.size rm q2 (enc n2) 0 wb):=AA ⟨[],q3,wu.out.hr HD1.out,ACT.out,rfl,by simpa using zh.out,rfl,fun y hy=>absurd hy (by simp)⟩
 go_wp2_with fail
 refine vP (R:= {R with Z:=fun k=>R.Z k∨k=tw.heap.size}) AAF hfi hrm (.inr rfl) ACO (p0:=q2) (b0:=enc n2) (M:=n2) (by have:=qP.out;omega) HD0 _ _ _ _ _ _ _ _ _ _ _ _ _ _ _ _ _ _ _ _ _ _ _ _ _ _ _ _ _ _ _ _ _ _ _ _ _ _ _ _ _ _ _ _ _ _ _ _ _ _ _ _ _ _ _ _ _ _ _ _ _ _ _ _ _ _ _ _ _ _ _ _ _ _ _ _ _ _ _ _ _ _ _ _ _ _ _ _ _ _ _ _ _ _ _ _ _ _ _ _ _ _ _ _ _ _ _ _ _ _ _ _ _ _ _ _ _ _ _ _ _ _ _ _ _ _ _ _ _ _ _ (AA ?_) (AA ?_)
 ·intro en a1 ax wx hne hd hk
  exact And.intro hd (And.intro hk (Or.inr ⟨en,a1,hne,rfl⟩))
 intro d0 d1 d2 d3 d4 d5 d6 d7 d8 d9 d10 d11 d12 d13 d14 d15 d16 d17 d18 d19 d20 d21 d22 d23 d24 d25 d26 d27 d28 d29 d30 d31 d32 d33 d34 d35 d36 d37 d38 d39 d40 dw hpd
 have HPd:=AA hpd
 clear hpd
 obtain⟨ds,q4,ht1,hg3,hl1,ha1,he1,hok⟩:=HPd.out
 have fG:=AA ht1;have Pd:=AA ht1.pr;have HLd:=AA hl1;have HAd:=AA ha1;have HEd:=AA he1
 have hdl:ds.length≤64:=by have:=qP.out;omega
 clear ht1 hl1 ha1 he1 hok hg3 HPd HD0 HD1 P5 wu HG2 ACT
 go_upto_region 13 with fail
 refine Aa ?_
 have PC:=AA (Pd.out.drew)
 refine wp_region_held_drew (S:=fun W=>W.cell? ⟨R.gr,0,none⟩=some (.pointer (some ⟨R.rg,0,none⟩))) (by kernel_rfl) ((by have h_:=Ao.gr fG.out PC.out;exact h_)) (fun hHeld=> ?_)
 generalize dw.drew=CP at*
 refine AB (i:=0) (v:= ?_) rfl (by kernel_rfl) (fun _ _ _ h=>h) (by intro w hSw;(try dsimp only at hSw);go_simp;try with_reducible rfl) hHeld ?_
 refine AB (i:=3) (v:= ?_) rfl (by kernel_rfl) (fun _ _ _ h=>h) (by intro w hSw;(try dsimp only at hSw);go_simp;try with_reducible rfl) hHeld ?_
 refine wpAnyH_ready (rs:= [1]) (by kernel_rfl) (by simp) ?_
 refine AllReadyH.cons rfl (fun K hK=> ?_) AllReadyH.nil
 go_simp
 go_at_call 100
 refine(N9 64 20 _).mono ?_
 rintro e Js ⟨hw,rfl⟩
 have PD:Hid (Ao {R with Z:=fun k=>R.Z k∨k=tw.heap.size} _ Js _ _):=AA (by rw [hw];exact(PC.out.alloc _).alloc _)
 have ha:Js.cell? ⟨CP.heap.size,0,none⟩=some (.int .i64 64):=by rw [hw];exact((AL.new CP 3 [.int .i64 64]).alloc _).cell 0
 have hb:Js.cell? ⟨CP.heap.size+1,0,none⟩=some (.int .i64 20):=by rw [hw];have:=(AL.new (CP.alloc (.cells #[.int .i64 64] 3)) 33 [.int .i64 20]).cell 0;rw [World.size_alloc] at this;exact this
 refine hK.out _ _ ((by have h_:=Ao.gr fG.out PD.out;exact h_)) (fun Ag=> ?_)
 clear hK K hw
 refine wpAnyH_ready (rs:= [2]) (by kernel_rfl) (by simp) ?_
 refine AllReadyH.cons rfl (fun K hK=> ?_) AllReadyH.nil
 go_simp
 go_at_call 99
 refine(Lx (l:=R.l) ((by have h_:=Ao.inp fG.out PD.out;exact h_)) PD.out.rd (by decide) (by decide) (by decide) ha hb).mono ?_
 rintro e wc ⟨hk,⟨v,bs,q5,rfl,⟨n3,rfl,rfl,hu⟩,ha',hr⟩ | ⟨en,a1,h1,rfl⟩⟩
 case inr=>
  have JF:=AA (fG.out.OW (PD.out.kp.trans hk))
  exact BG.thrown (fun ax hd=>And.intro hd (And.intro JF.out (Or.inr ⟨_,_,h1,rfl⟩)))
 have zk:=AA (PD.out.V6 hk hr)
 have qQ:=AA hu;have zm:=AA ha'
 refine hK.out _ _ ((by have h_:=Ao.gr fG.out zk.out;exact h_)) (fun CO=> ?_)
 clear hK K hk hr hu ha' ha hb PC PD
 refine wpAnyH_done (by kernel_rfl) ?_ _
 refine BG.normal ?_
 have HX0:Hid (xH {R with Z:=fun k=>R.Z k∨k=tw.heap.size} m fs ds (Mv fs:Int) q4 (enc n3) 0 wc):=AA ⟨[],q5,zk.out.hr fG.out,rfl,by simpa using zm.out,rfl⟩
 go_wp2_with fail
 refine vQ (R:= {R with Z:=fun k=>R.Z k∨k=tw.heap.size}) hfl (p0:=q4) (b0:=enc n3) (M:=n3) (by have:=qQ.out;omega) HX0 _ _ _ _ _ _ _ _ _ _ _ _ _ _ _ _ _ _ _ _ _ _ _ _ _ _ _ _ _ _ _ _ _ _ _ _ _ _ _ _ _ _ _ _ _ _ _ _ _ _ _ _ _ _ _ _ _ _ _ _ _ _ _ _ _ _ _ _ _ _ _ _ _ _ _ _ _ _ _ _ _ _ _ _ _ _ _ _ _ _ _ _ _ _ _ _ _ _ _ _ _ _ _ _ _ _ _ _ _ _ _ _ _ _ _ _ _ _ _ _ _ _ _ _ _ _ _ _ _ _ _ _ (AA ?_) (AA ?_)
 ·intro en a1 ax wx hne hd hk
  exact And.intro hd (And.intro hk (Or.inr ⟨en,a1,hne,rfl⟩))
 intro e0 e1 e2 e3 e4 e5 e6 e7 e8 e9 e10 e11 e12 e13 e14 e15 e16 e17 e18 e19 e20 e21 e22 e23 e24 e25 e26 e27 e28 e29 e30 e31 e32 e33 e34 e35 e36 e37 e38 e39 e40 e41 e42 e43 e44 e45 e46 e47 e48 e49 ew hpe
 have HPe:=AA hpe
 clear hpe
 obtain⟨es,q6,ht1,hl1,ha1,he1⟩:=HPe.out
 have HZ1:=AA ht1;have Pe:=AA ht1.pr;have HLe:=AA hl1;have HAe:=AA ha1;have HEe:=AA he1
 have hxl:es.length≤64:=by have:=qQ.out;omega
 clear ht1 hl1 ha1 he1 HPe HX0 fG Pd zk
 by_cases hqn:q6=R.n
 ·have hd:((q6:Int)==(R.n:Int))=true:=beq_iff_eq.2 (by omega)
  have HQN:=AA hqn
  clear hqn
  go_upto_region 19 with fail
  refine Aa ?_
  refine wp_region_held_drew (S:=fun W=>W.cell? ⟨R.gr,0,none⟩=some (.pointer (some ⟨R.rg,0,none⟩))∧W.cell? ⟨R.rg,2,none⟩=some (.slice R.A R.n R.c)∧W.cell? ⟨R.rg,3,none⟩=some (.int .i64 (q6:Nat))) (by kernel_rfl) ⟨(by have h_:=Ao.gr HZ1.out Pe.out.drew;exact h_),Pe.out.drew.r2,Pe.out.drew.r3⟩ (fun hHeld=> ?_)
  have PF:=AA (Pe.out.drew)
  generalize ew.drew=CP at*
  refine AB (i:=0) (v:= ?_) rfl (by kernel_rfl) (fun _ _ _ h=>h) (by intro w hSw;(try dsimp only at hSw);go_simp;try with_reducible rfl) hHeld ?_
  refine AB (i:=1) (v:= ?_) rfl (by kernel_rfl) (fun _ _ _ h=>h) (by intro w hSw;(try dsimp only at hSw);go_simp;try with_reducible rfl) hHeld ?_
  refine AB (i:=2) (v:= ?_) rfl (by kernel_rfl) (fun _ _ _ h=>h) (by intro w hSw;(try dsimp only at hSw);go_simp;try with_reducible rfl) hHeld ?_
  refine AB (i:=3) (v:= ?_) rfl (by kernel_rfl) (fun _ _ _ h=>h) (by intro w hSw;(try dsimp only at hSw);go_simp;try with_reducible rfl) hHeld ?_
  refine AB (i:=4) (v:= ?_) rfl (by kernel_rfl) (fun _ _ _ h=>h) (by intro w hSw;(try dsimp only at hSw);go_simp;try with_reducible rfl) hHeld ?_
  refine AB (i:=5) (v:= ?_) rfl (by kernel_rfl) (fun _ _ _ h=>h) (by intro w hSw;(try dsimp only at hSw);go_simp;try with_reducible rfl) hHeld ?_
  refine AB (i:=6) (v:= ?_) rfl (by kernel_rfl) (fun _ _ _ h=>h) (by intro w hSw;(try dsimp only at hSw);go_simp;try with_reducible rfl) hHeld ?_
  refine AB (i:=7) (v:= ?_) rfl (by kernel_rfl) (fun _ _ _ h=>h) (by intro w hSw;(try dsimp only at hSw);go_simp;try with_reducible rfl) hHeld ?_
  refine AB (i:=8) (v:= ?_) rfl (by kernel_rfl) (fun _ _ _ h=>h) (by intro w hSw;(try dsimp only at hSw);go_simp;try with_reducible rfl) hHeld ?_
  refine AB (i:=9) (v:= ?_) rfl (by kernel_rfl) (fun _ _ _ h=>h) (by intro w hSw;(try dsimp only at hSw);go_simp;try with_reducible rfl) hHeld ?_
  refine AB (i:=10) (v:= ?_) rfl (by kernel_rfl) (fun _ _ _ h=>h) (by intro w hSw;(try dsimp only at hSw);go_simp;try with_reducible rfl) hHeld ?_
  refine AB (i:=11) (v:= ?_) rfl (by kernel_rfl) (fun _ _ _ h=>h) (by intro w hSw;(try dsimp only at hSw);go_simp;try with_reducible rfl) hHeld ?_
  refine AB (i:=12) (v:= ?_) rfl (by kernel_rfl) (fun _ _ _ h=>h) (by intro w hSw;(try dsimp only at hSw);go_simp;try with_reducible rfl) hHeld ?_
  refine AB (i:=13) (v:= ?_) rfl (by kernel_rfl) (fun _ _ _ h=>h) (by intro w hSw;(try dsimp only at hSw);go_simp;try with_reducible rfl) hHeld ?_
  refine wpAnyH_ready (rs:= [14]) (by kernel_rfl) (by simp) ?_
  refine AllReadyH.cons rfl (fun K hK=> ?_) AllReadyH.nil
  go_simp
  go_at_call 68
  refine(Af _ _ _).mono ?_
  rintro e w' ⟨rfl,rfl⟩
  refine hK.out _ _ hHeld (fun Ag=> ?_)
  clear hK K
  refine wpAnyH_done (by kernel_rfl) ?_ _
  refine BG.normal ?_
  have Xn:=AA (PF.out.hr HZ1.out)
  have NR:Hid (K_ R.l q (Oe (MB m fs ds es)) q6):=AA (by
   have h:=HAf.out.trans (HAd.out.trans HAe.out)
   unfold Oe
   dsimp only
   rw [HLf.out,HLd.out,HLe.out]
   exact h)
  have HBE:Hid (I_ (MB m fs ds es)=0):=AA (qG (m:=MB m fs ds es) hfl HEf.out hdl HEd.out hxl HEe.out)
  go_wp2_with fail
  go_end0
  first | exact⟨Xn.out.kp,.inl ⟨fs,ds,es,_,q6,rfl,⟨Xn.out.inp,Xn.out.i1,Xn.out.i2,Xn.out.done.ds⟩,NR.out,HBE.out,HQN.out⟩⟩ | exact⟨Xn.out.kp,.inl ⟨rfl,fs,ds,es,_,q6,⟨Xn.out.inp,Xn.out.i1,Xn.out.i2,Xn.out.done.ds⟩,NR.out,HBE.out,HQN.out⟩⟩ | exact⟨Xn.out.kp,.inl ⟨fs,ds,es,⟨_,q6,⟨Xn.out.inp,Xn.out.i1,Xn.out.i2,Xn.out.done.ds⟩,NR.out,HBE.out,HQN.out⟩⟩⟩
 ·have hd:((q6:Int)==(R.n:Int))=false:=beq_eq_false_iff_ne.2 (by omega)
  clear hqn
  go_upto_region 19 with fail
  refine Aa ?_
  refine wp_region_held_drew (S:=fun W=>W.cell? ⟨R.gr,0,none⟩=some (.pointer (some ⟨R.rg,0,none⟩))∧W.cell? ⟨R.rg,2,none⟩=some (.slice R.A R.n R.c)∧W.cell? ⟨R.rg,3,none⟩=some (.int .i64 (q6:Nat))) (by kernel_rfl) ⟨(by have h_:=Ao.gr HZ1.out Pe.out.drew;exact h_),Pe.out.drew.r2,Pe.out.drew.r3⟩ (fun hHeld=> ?_)
  have PF:=AA (Pe.out.drew)
  generalize ew.drew=CP at*
  refine AB (i:=0) (v:= ?_) rfl (by kernel_rfl) (fun _ _ _ h=>h) (by intro w hSw;(try dsimp only at hSw);go_simp;try with_reducible rfl) hHeld ?_
  refine AB (i:=1) (v:= ?_) rfl (by kernel_rfl) (fun _ _ _ h=>h) (by intro w hSw;(try dsimp only at hSw);go_simp;try with_reducible rfl) hHeld ?_
  refine AB (i:=2) (v:= ?_) rfl (by kernel_rfl) (fun _ _ _ h=>h) (by intro w hSw;(try dsimp only at hSw);go_simp;try with_reducible rfl) hHeld ?_
  refine AB (i:=3) (v:= ?_) rfl (by kernel_rfl) (fun _ _ _ h=>h) (by intro w hSw;(try dsimp only at hSw);go_simp;try with_reducible rfl) hHeld ?_
  refine AB (i:=4) (v:= ?_) rfl (by kernel_rfl) (fun _ _ _ h=>h) (by intro w hSw;(try dsimp only at hSw);go_simp;try with_reducible rfl) hHeld ?_
  refine AB (i:=5) (v:= ?_) rfl (by kernel_rfl) (fun _ _ _ h=>h) (by intro w hSw;(try dsimp only at hSw);go_simp;try with_reducible rfl) hHeld ?_
  refine AB (i:=6) (v:= ?_) rfl (by kernel_rfl) (fun _ _ _ h=>h) (by intro w hSw;(try dsimp only at hSw);go_simp;try with_reducible rfl) hHeld ?_
  refine AB (i:=7) (v:= ?_) rfl (by kernel_rfl) (fun _ _ _ h=>h) (by intro w hSw;(try dsimp only at hSw);go_simp;try with_reducible rfl) hHeld ?_
  refine AB (i:=8) (v:= ?_) rfl (by kernel_rfl) (fun _ _ _ h=>h) (by intro w hSw;(try dsimp only at hSw);go_simp;try with_reducible rfl) hHeld ?_
  refine AB (i:=9) (v:= ?_) rfl (by kernel_rfl) (fun _ _ _ h=>h) (by intro w hSw;(try dsimp only at hSw);go_simp;try with_reducible rfl) hHeld ?_
  refine AB (i:=10) (v:= ?_) rfl (by kernel_rfl) (fun _ _ _ h=>h) (by intro w hSw;(try dsimp only at hSw);go_simp;try with_reducible rfl) hHeld ?_
  refine AB (i:=11) (v:= ?_) rfl (by kernel_rfl) (fun _ _ _ h=>h) (by intro w hSw;(try dsimp only at hSw);go_simp;try with_reducible rfl) hHeld ?_
  refine AB (i:=12) (v:= ?_) rfl (by kernel_rfl) (fun _ _ _ h=>h) (by intro w hSw;(try dsimp only at hSw);go_simp;try with_reducible rfl) hHeld ?_
  refine AB (i:=13) (v:= ?_) rfl (by kernel_rfl) (fun _ _ _ h=>h) (by intro w hSw;(try dsimp only at hSw);go_simp;try with_reducible rfl) hHeld ?_
  refine wpAnyH_ready (rs:= [14]) (by kernel_rfl) (by simp) ?_
  refine AllReadyH.cons rfl (fun K hK=> ?_) AllReadyH.nil
  go_simp
  go_at_call 68
  refine(Ah _ _ _).mono ?_
  rintro e w' ⟨rfl,rfl⟩
  have HKF:=AA (PF.out.OW HZ1.out)
  exact BG.thrown (fun ax hdx=>And.intro hdx (And.intro HKF.out (Or.inr ⟨_,_,by decide,rfl⟩)))
theorem Pm {P:Program} {ops:Array Oper} {rest:List Oper} {op:Oper} {a:Act} {w:World} {Q:Exit→Act→World→Prop} {g:Nat} {t:TypeId} {xs:List Value} (hb:AL w g t xs) (hgd:op.guard=none) (x y:Operand) (ho:op.op= .store t x y)
 (hx:a.eval x= .pointer (some ⟨g,0,none⟩)) (ys:Array Value) (hy:a.eval y= .agg ys) (hi:(P.info? t).map (·.size)=some ys.size) (hl:xs.length=ys.size) (h1:ys.all (·.oneCell')=true)
 (h:wpList P ops Q rest (a.put op.dst (.tuple #[])) (w.setRow g ys)):wpList P ops Q (op::rest) a w:=by
 refine wpList_plain hgd fun _ hK=> ?_
 unfold Oper.wp execOp
 simp only [ho,hx,hy,Instr.storeAt,Instr.sureAddr,run_storeVar_row w g t t xs.toArray ys hb hi (by simpa using hl) h1,Sem.run_bind,Sem.run_pure,Result.andThen_ok]
 exact hK _ _ h
theorem Sq {w:World} {g:Nat} {t:TypeId} {xs:List Value} (h:AL w g t xs) (ys:Array Value):AL (w.setRow g ys) g t ys.toList:=by
 have:=setRow_heap w g xs.toArray ys t (0,0) h
 unfold AL
 rw [this]
theorem qg {w:World} {B:Nat} {A:Option Addr} {l:List UInt8} (h:Row w B A (l.map bv)):Row w B A ((l.take 5).map bv):=by
 intro hn
 rw [List.length_map,List.length_take] at hn
 obtain⟨b,o,e,hlt,hc⟩:=h (by rw [List.length_map];omega)
 refine⟨b,o,e,hlt,fun j u hu=>hc j u ?_⟩
 rw [List.map_take,List.getElem?_take] at hu
 split at hu
 ·exact hu
 ·cases hu
theorem Zu {w:World} {B c:Nat} {A:Option Addr} {l:List UInt8} (h:Row w B A (l.map bv)) (h5:5≤l.length):(convert 41 9 (.slice A 5 c)).run prog w= .ok (.string ⟨(l.take 5).toArray⟩) w:=
 Jv (P:=prog) 41 5 9 underlying41 underlying5 underlying9 w B A 5 c (l.take 5) (by rw [List.length_take];omega) (qg h)
theorem W9 (l:List UInt8):(!((⟨(l.take 5).toArray⟩:ByteArray).toList== [70,76,71,78,1]))= !decide (l.take 5=KY):=by
 rw [ByteArray.toList_eq]
 show(!(l.take 5==KY))=_
 congr 1
 rw [Bool.eq_iff_iff]
 simp
theorem Keep.setRow {K:Nat→Prop} {w w':World} (h:Keep K w w') {g:Nat} (hg: ¬K g) (ys:Array Value):Keep K w (w'.setRow g ys):=
 h.trans ⟨rfl,rfl,rfl,by simp,fun k _ hK=>setRow_other _ _ _ _ (fun e=>hg (e▸hK))⟩
theorem Le {w:World} {g k:Nat} {t:TypeId} {xs:List Value} (h:AL w k t xs) (hn:k≠g) (ys:Array Value):AL (w.setRow g ys) k t xs:=(setRow_other _ _ _ _ hn).trans h
def V_:List Value:= [.slice none 0 0,.slice none 0 0,.slice none 0 0,.int .i64 0,.int .i64 0,.slice none 0 0,.slice none 0 0,.slice none 0 0]
theorem Rq {w:World} {g g1 g2:Nat} {tmps:Array Value} {a0 a1 a2 a3 a4 a5 a6 a7 e v:Value} (h:AL w g 29 [a0,a1,a2,a3,a4,a5,a6,a7]) (he:AL w g1 33 [e]) (hv:AL w g2 3 [v]) (h2:tmps.getD 2 undef= .pointer (some ⟨g,0,none⟩)) (h3:tmps.getD 3 undef= .pointer (some ⟨g1,0,none⟩)) (h4:tmps.getD 4 undef= .pointer (some ⟨g2,0,none⟩)):
 (results f17 tmps).run prog w= .ok (.tuple #[.agg #[a0,a1,a2,a3,a4,a5,a6,a7],e,v]) w:=by
 have z0:=h.cell 0;have z1:=h.cell 1;have z2:=h.cell 2;have z3:=h.cell 3;have z4:=h.cell 4;have z5:=h.cell 5;have z6:=h.cell 6;have z7:=h.cell 7
 have ze:=he.cell 0;have zv:=hv.cell 0
 simp only [List.getElem?_cons_zero,List.getElem?_cons_succ] at z0 z1 z2 z3 z4 z5 z6 z7 ze zv
 simp only [Array.getD_eq_getD_getElem?] at h2 h3 h4
 simp [results,results17,go_sem,z0,z1,z2,z3,z4,z5,z6,z7,ze,zv,h2,h3,h4]
theorem PI (u:FrameMode) (ge gm:Nat) (e0:Int) {y0 y1 y2 y3 y4 y5 y6 y7:Value} (w:World) (he:AL w ge 33 [.int .i64 e0]) (hb:AL w gm 29 [y0,y1,y2,y3,y4,y5,y6,y7]):
 CallsD prog 61 #[.pointer (some ⟨ge,0,none⟩),.pointer (some ⟨gm,0,none⟩)] u w fun e u' w'=>
  u'=u∧(e= .returned (.tuple #[])∧Keep (fun k=>k≠gm) w w'∧AL w' gm 29 (if e0=0 then [y0,y1,y2,y3,y4,y5,y6,y7] else V_)):=by
 have He:=AA he;have Hb:=AA hb
 have hc1:=he.q 0 rfl
 clear he hb
 by_cases h0:e0=0
 ·subst h0
  go_enter_d func61,ntmps61
  go_wp2_with fail
  go_end0
  exact⟨rfl,Keep.refl _ _,Hb.out⟩
 ·have hne:(e0 !=0)=true:=by simpa using h0
  rw [if_neg h0]
  go_enter_d func61,ntmps61
  go_wp2_with (refine Pm Hb.out rfl _ _ rfl rfl _ rfl ?_ ?_ ?_ ?_;(try focus kernel_rfl);(try focus rfl);(try focus kernel_rfl))
  have OU:=AA (Sq Hb.out #[.slice none 0 0,.slice none 0 0,.slice none 0 0,.int .i64 0,.int .i64 0,.slice none 0 0,.slice none 0 0,.slice none 0 0])
  have UE:Hid (Keep (fun k=>k≠gm) w (w.setRow gm #[.slice none 0 0,.slice none 0 0,.slice none 0 0,.int .i64 0,.int .i64 0,.slice none 0 0,.slice none 0 0,.slice none 0 0])):=AA ((Keep.refl _ _).setRow (fun h=>h rfl) _)
  generalize hw2:World.setRow _ _ _=w2 at*
  go_end0
  exact⟨rfl,UE.out,OU.out⟩
def qh (l:List UInt8) (w:World) (e:Ending) (w':World):Prop:=Below w.heap.size w w'∧ ∃(A1 A2 A3 A6 A7 A8:Option Addr) (n1 n2 n3 n6 n7 n8 c1 c2 c3 c6 c7 c8:Nat) (fi mo er at_:Int),e= .returned (.tuple #[.agg #[.slice A1 n1 c1,.slice A2 n2 c2,.slice A3 n3 c3,.int .i64 fi,.int .i64 mo,.slice A6 n6 c6,.slice A7 n7 c7,.slice A8 n8 c8],.int .i64 er,.int .i64 at_])∧
 (er=0→ ∃m:AP,JQ.R w' w.heap.size w'.heap.size [.slice A1 n1 c1,.slice A2 n2 c2,.slice A3 n3 c3,.int .i64 fi,.int .i64 mo,.slice A6 n6 c6,.slice A7 n7 c7,.slice A8 n8 c8] m∧GU m=0∧LU m=l)
theorem YM {l:List UInt8} {w w':World} {er at_:Int} (hb:Below w.heap.size w w') (he:er≠0):qh l w (.returned (.tuple #[.agg #[.slice none 0 0,.slice none 0 0,.slice none 0 0,.int .i64 0,.int .i64 0,.slice none 0 0,.slice none 0 0,.slice none 0 0],.int .i64 er,.int .i64 at_])) w':=
 ⟨hb,none,none,none,none,none,none,0,0,0,0,0,0,0,0,0,0,0,0,0,0,er,at_,rfl,fun h=>absurd h he⟩
def RD (l:List UInt8) (A:Option Addr) (c Bi g s:Nat) (w2:World):RC:=⟨l,A,l.length,c,Bi,g+1+1,g,g+1,s,w2,fun _=>False,fun k=>False∨k=s⟩
theorem dH {l:List UInt8} {A:Option Addr} {c B:Nat} (w:World) (hI:UJ w B l A l.length c) (hB:B≤w.heap.size) (htab: ∀w',Below w.heap.size w w'→Lib.TabIs prog w' "strings.asciiSpace" .u8 Lib.asciiSpaceTab):
 Calls prog 17 #[.slice A l.length c] w (qh l w):=by
 have hmf: ∀(fn:Fn) (first cap:Array Value) (w:World),(Instr.makeFunc fn first cap).run prog w= .ok (.func fn first cap) w:=fun _ _ _ _=>rfl
 have HI:=AA hI;have vN:=AA htab
 have hn0: ¬((65536:Int)<l.length):=by have:=hI.le;omega
 have hnc:l.length≤c:=hI.cap
 clear hI htab
 go_enter_defers func17,ntmps17
 go_upto_region 1 with fail
 generalize hw1:World.alloc _ _=w1
 have hb1:Below w.heap.size w w1:=by
  rw [←hw1]
  exact(((Below.refl _ _).alloc (Nat.le_refl _) _).alloc (by simp only [World.size_alloc];omega) _).alloc (by simp only [World.size_alloc];omega) _
 have hm1:AL w1 w.heap.size 29 V_:=by rw [←hw1];exact((AL.new w 29 V_).alloc _).alloc _
 have he1:AL w1 (w.heap.size+1) 33 [.int .i64 0]:=by
  rw [←hw1]
  have:=(AL.new (w.alloc (.cells V_.toArray 29)) 33 [.int .i64 0]).alloc (.cells #[.int .i64 0] 3)
  rw [World.size_alloc] at this
  exact this
 have ha1:AL w1 (w.heap.size+1+1) 3 [.int .i64 0]:=by
  rw [←hw1]
  have:=AL.new ((w.alloc (.cells V_.toArray 29)).alloc (.cells #[.int .i64 0] 33)) 3 [.int .i64 0]
  rw [World.size_alloc,World.size_alloc] at this
  exact this
 have hz1:w1.heap.size=w.heap.size+1+1+1:=by rw [←hw1];simp only [World.size_alloc]
 have HB1:=AA hb1;have Z4:=AA hm1;have fG:=AA he1;have HA1:=AA ha1;have HZ1:=AA hz1
 have HR1:=AA (HI.out.row.below' hb1 hB)
 clear hw1 hb1 hm1 he1 ha1 hz1
 by_cases vS:l.take 5=KY
 case neg=>
  have me:AL (w1.setRow w.heap.size #[.slice none 0 0,.slice none 0 0,.slice none 0 0,.int .i64 0,.int .i64 0,.slice none 0 0,.slice none 0 0,.slice none 0 0]) (w.heap.size+1) 33 [.int .i64 0]:=Le fG.out (by omega) _
  have ma:AL (w1.setRow w.heap.size #[.slice none 0 0,.slice none 0 0,.slice none 0 0,.int .i64 0,.int .i64 0,.slice none 0 0,.slice none 0 0,.slice none 0 0]) (w.heap.size+1+1) 3 [.int .i64 0]:=Le HA1.out (by omega) _
  have fe:=me.frozen 0;have fa:=ma.frozen 0
  have ce:=me.cell 0
  have ca:=ma.cell 0
  clear me ma
  have HTL:Hid (∀w2,w2=((w1.setRow w.heap.size V_.toArray).setCell ⟨w.heap.size+1,0,none⟩ (.int .i64 14)).setCell ⟨w.heap.size+1+1,0,none⟩ (.int .i64 0)→AL w2 w.heap.size 29 V_∧AL w2 (w.heap.size+1) 33 [.int .i64 14]∧AL w2 (w.heap.size+1+1) 3 [.int .i64 0]∧Below w.heap.size w w2):=AA (fun w2 h=>by
   rw [h]
   exact⟨((Sq Z4.out _).far (p:=⟨w.heap.size+1,0,none⟩) (show w.heap.size≠w.heap.size+1 by omega) _).far (p:=⟨w.heap.size+1+1,0,none⟩) (show w.heap.size≠w.heap.size+1+1 by omega) _,
    ((Le fG.out (by omega) _).set 0 _).far (p:=⟨w.heap.size+1+1,0,none⟩) (show w.heap.size+1≠w.heap.size+1+1 by omega) _,
    (((Le HA1.out (by omega) _).far (p:=⟨w.heap.size+1,0,none⟩) (show w.heap.size+1+1≠w.heap.size+1 by omega) _).set 0 _),
    ((below_setRow HB1.out (Nat.le_refl _) _).setCell (p:=⟨w.heap.size+1,0,none⟩) (Nat.le_succ _) _).setCell (p:=⟨w.heap.size+1+1,0,none⟩) (by show w.heap.size≤w.heap.size+1+1;omega) _⟩)
  obtain⟨t1,t2,t3,t4⟩:=HTL.out _ rfl
  by_cases h5:l.length<5
  ·have h5i:(l.length:Int)<5:=by omega
   go_wp2_with (refine Pm Z4.out rfl _ _ rfl rfl _ rfl ?_ ?_ ?_ ?_;(try focus kernel_rfl);(try focus rfl);(try focus kernel_rfl))
   exact⟨_,Rq t1 t2 t3 rfl rfl rfl,YM t4 (by decide)⟩
  ·have h5i: ¬(l.length:Int)<5:=by omega
   have h5c:5≤c:=by omega
   have hcv:=Zu (c:=c) HR1.out (by omega)
   have hmg:=W9 l
   rw [decide_eq_false vS,Bool.not_false] at hmg
   generalize (⟨(l.take 5).toArray⟩:ByteArray)=S at*
   go_wp2_with (refine Pm Z4.out rfl _ _ rfl rfl _ rfl ?_ ?_ ?_ ?_;(try focus kernel_rfl);(try focus rfl);(try focus kernel_rfl))
   exact⟨_,Rq t1 t2 t3 rfl rfl rfl,YM t4 (by decide)⟩
 have h5:5≤l.length:=by
  have:=congrArg List.length vS
  rw [List.length_take] at this
  have:KY.length=5:=rfl
  omega
 have h5i: ¬(l.length:Int)<5:=by omega
 have h5c:5≤c:=by omega
 have hcv:=Zu (c:=c) HR1.out h5
 have hmg:=W9 l
 rw [decide_eq_true vS,Bool.not_true] at hmg
 have HMG:=AA vS
 generalize (⟨(l.take 5).toArray⟩:ByteArray)=S at*
 go_upto_region 9 with fail
 generalize hw2:World.alloc (World.alloc w1 _) _=w2
 have hb2:Below w1.heap.size w1 w2:=by rw [←hw2];exact((Below.refl _ _).alloc (Nat.le_refl _) _).alloc (by simp) _
 have ho2:AL w2 w1.heap.size 29 V_:=by rw [←hw2];exact(AL.new w1 _ V_).alloc _
 have hr2:Rg w2 (w1.heap.size+1) w1.heap.size 0 A l.length c (5:Nat):=by
  rw [←hw2]
  have:=AL.new (w1.alloc (.cells V_.toArray 29)) 121 [.pointer (some ⟨w1.heap.size,0,none⟩),.int .i64 0,.slice A l.length c,.int .i64 5]
  rw [World.size_alloc] at this
  exact this
 have hz2:w1.heap.size+1+1≤w2.heap.size:=by rw [←hw2];simp
 have hz1:w.heap.size+1+1+1≤w1.heap.size:=Nat.le_of_eq HZ1.out.symm
 have HB2:=AA (HB1.out.trans (hb2.mono HB1.out.size))
 have aW:=AA (Z4.out.below hb2 Z4.out.lt)
 have HE2:=AA (fG.out.below hb2 fG.out.lt)
 have HA2:=AA (HA1.out.below hb2 HA1.out.lt)
 have hI2:UJ w2 w.heap.size l A l.length c:=⟨rfl,HI.out.le,HI.out.cap,(HI.out.row.more hB).below' HB2.out (Nat.le_refl _)⟩
 have hq:HQ (RD l A c w.heap.size w1.heap.size w2.heap.size w2) w2 (MX [] [] [] 0 0) 0 5:=⟨hI2,(by show w.heap.size≤w1.heap.size;omega),(by show w.heap.size≤w1.heap.size+1;omega),fun _=>0,_,_,_,_,_,_,⟨ho2,hr2,⟨J6.nil _ _ _ _ _,J6.nil _ _ _ _ _,J6.nil _ _ _ _ _,J6.nil _ _ _ _ _,J6.nil _ _ _ _ _,J6.nil _ _ _ _ _⟩,(by show w1.heap.size<w1.heap.size+1+1;omega),(by show w1.heap.size+1<w1.heap.size+1+1;omega),(by show w1.heap.size≠w1.heap.size+1;omega),(by show w1.heap.size+1+1≤w2.heap.size;omega),fun k hk=>hk.elim,fun k hk=>hk.elim⟩⟩
 have HHD:Hid (Calls prog 63 #[.pointer (some ⟨w1.heap.size+1,0,none⟩)] w2 (fun e w'=>Keep (KD (w1.heap.size+1+1) w1.heap.size (w1.heap.size+1) (fun _=>False)) w2 w'∧((∃ts hs gs fi mo q',e= .returned (.tuple #[])∧HQ (RD l A c w.heap.size w1.heap.size w2.heap.size w2) w' (MX ts hs gs fi mo) 0 q'∧K_ l 5 (Li (MX ts hs gs fi mo)) q'∧JG (MX ts hs gs fi mo)=0)∨Zn e))):=AA (vG (R:=RD l A c w.heap.size w1.heap.size w2.heap.size w2) ⟨rfl,rfl,rfl⟩ hq h5)
 clear hw2 hb2 ho2 hr2 hI2 hq hcv hmg
 go_wp2_with fail
 refine HHD.out.mono ?_
 rintro e w3 ⟨hk3,⟨ts,hs,gs,fi,mo,q3,rfl,hq3,wY,qo⟩ | ⟨en,a1,hne,rfl⟩⟩
 case inr=>
  have H1:=AA hne
  have hge:=HE2.out.keep hk3 ⟨.inl (by omega),by omega,by omega⟩
  have hgm:=aW.out.keep hk3 ⟨.inl (by omega),by omega,by omega⟩
  have hga:=HA2.out.keep hk3 ⟨.inl (by omega),by omega,by omega⟩
  have HB:=AA (HB2.out.trans (Keep.below hk3 HB2.out.size (fun k hk=>⟨.inl (by omega),by omega,by omega⟩)))
  go_wp2_with fail
  refine leaves_cons (f:=62) (args:= #[.pointer (some ⟨w.heap.size+1,0,none⟩),.pointer (some ⟨w.heap.size+1+1,0,none⟩)]) (by simp) (by simp [go_sem]) ?_
  refine(Jp en a1 _ _ 0 0 _ hge hga (by omega)).mono ?_
  rintro e u' wx ⟨rfl,rfl,hkx,hbe,hba⟩
  have AAI:=hgm.keep hkx (by omega)
  refine leaves_cons (f:=61) (args:= #[.pointer (some ⟨w.heap.size+1,0,none⟩),.pointer (some ⟨w.heap.size,0,none⟩)]) (by simp [settle]) (by simp [go_sem]) ?_
  refine(PI _ _ _ en _ hbe AAI).mono ?_
  rintro e u' wy ⟨rfl,rfl,hky,hby⟩
  rw [if_neg H1.out] at hby
  have ZT:=HB.out.trans ((hkx.below (B:=w.heap.size) HB.out.size fun k hk=>by omega).trans (hky.below (B:=w.heap.size) (Nat.le_trans HB.out.size hkx.size) fun k hk=>by omega))
  exact⟨_,Rq hby (hbe.keep hky (by omega)) (hba.keep hky (by omega)) rfl rfl rfl,YM ZT H1.out⟩
 have SQ:=AA hk3;have HAD:=AA wY;have HED:=AA qo
 have hin:=Za qo
 have htl:ts.length≤64:=of_decide_eq_true (Bw (by decide) (AQ (AQ qo).1).1)
 have hpg:=of_decide_eq_true (Bw (by decide) (AQ (AQ (AQ qo).2).2).2)
 obtain⟨fn,hfn⟩:=Int.eq_ofNat_of_zero_le (show(0:Int)≤fi from hpg.1)
 have HB3:=AA (HB2.out.trans (hk3.below HB2.out.size (fun k hk=>⟨.inl (by omega),by omega,by omega⟩)))
 have hb3s:=HB3.out.size
 have HBD:Hid (Calls prog 64 #[.pointer (some ⟨w1.heap.size+1,0,none⟩)] w3 (fun e w'=>Keep (KD (w1.heap.size+1+1) w1.heap.size (w1.heap.size+1) (fun _=>False)) w3 w'∧((∃fs ds es all q',e= .returned (.tuple #[])∧HQ (RD l A c w.heap.size w1.heap.size w3.heap.size w3) w' (MB (MX ts hs gs fi mo) fs ds es) all q'∧K_ l q3 (Oe (MB (MX ts hs gs fi mo) fs ds es)) q'∧I_ (MB (MX ts hs gs fi mo) fs ds es)=0∧q'=l.length)∨Zn e))):=
  AA (vR (R:=RD l A c w.heap.size w1.heap.size w3.heap.size w3) (m:=MX ts hs gs fi mo) (fi:=fn) ⟨rfl,rfl,rfl⟩ ⟨hq3.inp,hq3.i1,hq3.i2,hq3.ds⟩ hb3s (AA (fun W hW=>vN.out W (HB3.out.trans hW))) htl hin.1 hfn (by have:=hpg.2.1;have h2:fi=(fn:Int):=hfn;have h3:fi≤64:=hpg.2.1;omega))
 have wM:=AA hpg
 clear hk3 hq3 wY qo hin htl hpg hfn HHD
 go_wp2_with fail
 refine HBD.out.mono ?_
 rintro e w4 ⟨hk4,⟨fs,ds,es,all,q4,rfl,hq4,ha4,he4,ACU⟩ | ⟨en,a1,hne,rfl⟩⟩
 case inr=>
  have H1:=AA hne
  have hge:=HE2.out.keep (SQ.out.trans hk4) ⟨.inl (by omega),by omega,by omega⟩
  have hgm:=aW.out.keep (SQ.out.trans hk4) ⟨.inl (by omega),by omega,by omega⟩
  have hga:=HA2.out.keep (SQ.out.trans hk4) ⟨.inl (by omega),by omega,by omega⟩
  have HB:=AA (HB2.out.trans (Keep.below (SQ.out.trans hk4) HB2.out.size (fun k hk=>⟨.inl (by omega),by omega,by omega⟩)))
  go_wp2_with fail
  refine leaves_cons (f:=62) (args:= #[.pointer (some ⟨w.heap.size+1,0,none⟩),.pointer (some ⟨w.heap.size+1+1,0,none⟩)]) (by simp) (by simp [go_sem]) ?_
  refine(Jp en a1 _ _ 0 0 _ hge hga (by omega)).mono ?_
  rintro e u' wx ⟨rfl,rfl,hkx,hbe,hba⟩
  have AAI:=hgm.keep hkx (by omega)
  refine leaves_cons (f:=61) (args:= #[.pointer (some ⟨w.heap.size+1,0,none⟩),.pointer (some ⟨w.heap.size,0,none⟩)]) (by simp [settle]) (by simp [go_sem]) ?_
  refine(PI _ _ _ en _ hbe AAI).mono ?_
  rintro e u' wy ⟨rfl,rfl,hky,hby⟩
  rw [if_neg H1.out] at hby
  have ZT:=HB.out.trans ((hkx.below (B:=w.heap.size) HB.out.size fun k hk=>by omega).trans (hky.below (B:=w.heap.size) (Nat.le_trans HB.out.size hkx.size) fun k hk=>by omega))
  exact⟨_,Rq hby (hbe.keep hky (by omega)) (hba.keep hky (by omega)) rfl rfl rfl,YM ZT H1.out⟩
 have jU:=AA (SQ.out.trans hk4)
 have hge:=HE2.out.keep jU.out ⟨.inl (by omega),by omega,by omega⟩
 have hgm:=aW.out.keep jU.out ⟨.inl (by omega),by omega,by omega⟩
 have hga:=HA2.out.keep jU.out ⟨.inl (by omega),by omega,by omega⟩
 have J9:=AA (HB2.out.trans (jU.out.below HB2.out.size (fun k hk=>⟨.inl (by omega),by omega,by omega⟩)))
 obtain⟨col,v1,v2,v3,v6,v7,v8,d⟩:=hq4.ds
 have Zr:Hid (GU (MB (MX ts hs gs fi mo) fs ds es)=0∧LU (MB (MX ts hs gs fi mo) fs ds es)=l):=AA (qH HMG.out HED.out he4 (by rw [←ACU];exact HAD.out.trans ha4) HI.out.le)
 have NH:Rd.ER fi∧Rd.ER mo:=by have h1:=wM.out.1;have h2:=wM.out.2.1;have h3:=wM.out.2.2.1;have h4:=wM.out.2.2.2;have e1:(0:Int)≤fi:=h1;have e2:fi≤64:=h2;have e3:fi≤mo:=h3;have e4:mo≤64:=h4;unfold Rd.ER;omega
 have HMD:Hid (JQ.R w4 (w1.heap.size+1+1) w4.heap.size [v1,v2,v3,.int .i64 fi,.int .i64 mo,v6,v7,v8] (MB (MX ts hs gs fi mo) fs ds es)):=AA (EK.2 ⟨_,_,_,_,_,_,rfl,d.six.p1.reads,d.six.p2.reads,d.six.p3.reads,NH.1,NH.2,d.six.p6.reads,d.six.p7.reads,d.six.p8.reads⟩)
 have ho4:AL w4 w1.heap.size 29 [v1,v2,v3,.int .i64 fi,.int .i64 mo,v6,v7,v8]:=d.out
 obtain⟨A1,c1,cs1,e1,p1⟩:=d.six.p1
 obtain⟨A2,c2,cs2,e2,p2⟩:=d.six.p2
 obtain⟨A3,c3,cs3,e3,p3⟩:=d.six.p3
 obtain⟨A6,c6,cs6,e6,p6⟩:=d.six.p6
 obtain⟨A7,c7,cs7,e7,p7⟩:=d.six.p7
 obtain⟨A8,c8,cs8,e8,p8⟩:=d.six.p8
 have g1:v1= .slice A1 ts.length c1:=e1
 have g2:v2= .slice A2 hs.length c2:=e2
 have g3:v3= .slice A3 gs.length c3:=e3
 have g6:v6= .slice A6 fs.length c6:=e6
 have g7:v7= .slice A7 ds.length c7:=e7
 have g8:v8= .slice A8 es.length c8:=e8
 clear d e1 e2 e3 e6 e7 e8 p1 p2 p3 p6 p7 p8 hq4 ha4 he4 ACU hk4 NH HBD SQ
 subst g1 g2 g3 g6 g7 g8
 obtain⟨ys,hys⟩: ∃ys:Array Value,#[.slice A1 ts.length c1,.slice A2 hs.length c2,.slice A3 gs.length c3,.int .i64 fi,.int .i64 mo,.slice A6 fs.length c6,.slice A7 ds.length c7,.slice A8 es.length c8]=ys:=⟨_,rfl⟩
 have HO4:=AA ho4;have HGM:=AA hgm;have yh:=AA hge;have HGA:=AA hga
 have me:AL (w4.setRow w.heap.size #[.slice A1 ts.length c1,.slice A2 hs.length c2,.slice A3 gs.length c3,.int .i64 fi,.int .i64 mo,.slice A6 fs.length c6,.slice A7 ds.length c7,.slice A8 es.length c8]) (w.heap.size+1) 33 [.int .i64 0]:=Le hge (by omega) _
 have ma:AL (w4.setRow w.heap.size #[.slice A1 ts.length c1,.slice A2 hs.length c2,.slice A3 gs.length c3,.int .i64 fi,.int .i64 mo,.slice A6 fs.length c6,.slice A7 ds.length c7,.slice A8 es.length c8]) (w.heap.size+1+1) 3 [.int .i64 0]:=Le hga (by omega) _
 have fe:=me.frozen 0;have fa:=ma.frozen 0
 have ce:=me.cell 0
 have ca:=ma.cell 0
 have HME:=AA me;have HMA:=AA ma
 clear hgm hge hga ho4 me ma hys
 go_wp2_with (first | (refine ldM HO4.out rfl _ rfl rfl ?_) | (refine Pm HGM.out rfl _ _ rfl rfl _ rfl ?_ ?_ ?_ ?_;(try focus kernel_rfl);(try focus rfl);(try focus kernel_rfl)))
 generalize Mr:World.setCell _ _ _=w5
 have Z7:AL w5 w.heap.size 29 [.slice A1 ts.length c1,.slice A2 hs.length c2,.slice A3 gs.length c3,.int .i64 fi,.int .i64 mo,.slice A6 fs.length c6,.slice A7 ds.length c7,.slice A8 es.length c8]:=by rw [←Mr];exact((Sq HGM.out _).far (p:=⟨w.heap.size+1,0,none⟩) (show w.heap.size≠w.heap.size+1 by omega) _).far (p:=⟨w.heap.size+1+1,0,none⟩) (show w.heap.size≠w.heap.size+1+1 by omega) _
 have qp:AL w5 (w.heap.size+1) 33 [.int .i64 0]:=by rw [←Mr];exact(HME.out.set 0 _).far (p:=⟨w.heap.size+1+1,0,none⟩) (show w.heap.size+1≠w.heap.size+1+1 by omega) _
 have ha5:AL w5 (w.heap.size+1+1) 3 [.int .i64 0]:=by rw [←Mr];exact(HMA.out.far (p:=⟨w.heap.size+1,0,none⟩) (show w.heap.size+1+1≠w.heap.size+1 by omega) _).set 0 _
 have hk5:Keep (fun k=>k≠w.heap.size∧k≠w.heap.size+1∧k≠w.heap.size+1+1) w4 w5:=by rw [←Mr];exact(((Keep.refl _ _).setRow (fun h=>h.1 rfl) _).setCell (fun h=>h.2.1 rfl) _).setCell (fun h=>h.2.2 rfl) _
 have hb5:Below w.heap.size w w5:=J9.out.trans (hk5.below J9.out.size (fun k hk=>⟨by omega,by omega,by omega⟩))
 clear Mr
 refine leaves_cons (f:=62) (args:= #[.pointer (some ⟨w.heap.size+1,0,none⟩),.pointer (some ⟨w.heap.size+1+1,0,none⟩)]) (by simp) (by simp [go_sem]) ?_
 refine(TN _ _ _).mono ?_
 rintro e u' wx ⟨rfl,rfl,rfl⟩
 refine leaves_cons (f:=61) (args:= #[.pointer (some ⟨w.heap.size+1,0,none⟩),.pointer (some ⟨w.heap.size,0,none⟩)]) (by simp [settle]) (by simp [go_sem]) ?_
 refine(PI _ _ _ 0 _ qp Z7).mono ?_
 rintro e u' wy ⟨rfl,rfl,hky,hby⟩
 rw [if_pos rfl] at hby
 have hkk:Keep (fun k=>k≠w.heap.size∧k≠w.heap.size+1∧k≠w.heap.size+1+1) w4 wy:=hk5.trans (hky.mono (fun k h=>h.1))
 have ZT:=hb5.trans (hky.below (B:=w.heap.size) hb5.size fun k hk=>by omega)
 exact⟨_,Rq hby (qp.keep hky (by omega)) (ha5.keep hky (by omega)) rfl rfl rfl,ZT,A1,A2,A3,A6,A7,A8,ts.length,hs.length,gs.length,fs.length,ds.length,es.length,c1,c2,c3,c6,c7,c8,fi,mo,0,0,rfl,fun _=>⟨_,JQ.more (show w.heap.size≤w1.heap.size+1+1 by omega) hkk.size (Rd.GX HMD.out hkk (Nat.le_refl _) (fun k h1 h2=>⟨by omega,by omega,by omega⟩)),Zr.out.1,Zr.out.2⟩⟩
end Go.Proofs.YtejbcledkhioeaaGreatDoor
