/- Part 24 of the proof: R6G -/
import Derived.Test.YtebgikflpgcnlaaGreatDoorP16
import Derived.Test.YtebgikflpgcnlaaGreatDoorP22
namespace Go.Proofs.YtebgikflpgcnlaaGreatDoor
set_option linter.unusedVariables false
set_option linter.unusedSimpArgs false
set_option maxRecDepth 100000
set_option maxHeartbeats 4000000
open Go.RowKit Tryz
theorem jI (W:World) (g:Nat) (b:UInt8) (h:W.cell? ⟨g,0,none⟩=some (.int .u8 (b.toNat:Int))):(convert 41 9 (.slice (some ⟨g,0,none⟩) 1 1)).run prog W= .ok (.string ⟨#[b]⟩) W:=
 Ki _ _ _ underlying41 underlying5 underlying9 _ (g+1) _ 1 1 [b] rfl (fun _=>⟨g,0,rfl,Nat.lt_succ_self _,fun j u hu=>by
  cases j with
  | zero=>injection hu with hu;subst hu;exact h
  | succ j=>simp at hu⟩)
set_option maxRecDepth 1000000 in
theorem pG {w w2:World} {hi hj:Nat} {m:AQ} {A1 A2 A3 A6 A7 A8:Option Addr} {c1 c2 c3 c6 c7 c8:Nat} (C:Hid (M7 w w2 hi hj m A1 c1 A2 c2 A3 c3 A6 c6 A7 c7 A8 c8)) {A0:Option Addr} {n0 c0:Nat} {WV:World} (HP:Hid (A_ w2 WV A0 n0 c0 (Vf m)))
 (s0 s2 s3 s4 s6 s7 s8 s9 s13 G5 s15 s16 G6 FW IY s20 FP Gx Ea s24 Eb FQ Eu Ev Ew Ey Ez E5 E8 E9 E_ FB GN GQ GR GU GV GX s43 s44 GY GZ Ga Gb s49 Gc Gd Gf s53 Fa Fb Fe Fg Fh Fj Fp Fq Fu Fv Fw Ec Ed Ee Ef FR FT FU BF BG BH BI BJ BL BM BN BO BP BQ BR BS Ch Ci Cj Ck Cm Cn Co Cq Cr Ct Cw Cx BU Ay BX BZ Bf Bg CO CP CQ DJ DK DL DN DR DT DU DV DW DX DY DZ Da Db Cy Cz Bh Bj Bl Bn Bo Bp Bq Br Bt Az Bu Bv Bw Bz B_ CB CS CU CV CW CX CY CZ Cc Ce BK LX LY LZ La Lb Lc Ld Le Lf Lg Lh Li Lj Js Jt Ju Jv Jw Jy Jz J2 J3 J4 J5 J6 J7 J8 J9 J_ KA KC KD KF KG KH KI KJ KL KM KN KO KP Ir Iu qL Tv T9 u66 qM u68 u69 u70 UC u72 u73 UD u75 UE UF UG UH UJ UK UL UM UN UO UQ qN qO qP qQ qR qU:Value) (Q:Exit→Act→World→Prop) (HX:Hid (∀(qL Tv T9 u66 qM u68 u69 u70 UC u72 u73 UD u75 UE UF UG UH UJ UK UL UM UN UO UQ qN qO qP qQ qR qU:Value) (A':Option Addr) (n' c':Nat) (wx:World),A_ w2 wx A' n' c' (qG m)→Q (.exit 4) ⟨(List.toArray (s0::(.pointer (some ⟨w.heap.size,0,none⟩))::s2::s3::s4::(.slice A' n' c')::s6::s7::s8::s9::(.int .i64 m.globs.length)::qL::Tv::s13::G5::s15::s16::G6::FW::IY::s20::FP::Gx::Ea::s24::Eb::FQ::Eu::Ev::Ew::Ey::Ez::E5::E8::E9::E_::FB::GN::GQ::GR::GU::GV::GX::s43::s44::GY::GZ::Ga::Gb::s49::Gc::Gd::Gf::s53::Fa::Fb::Fe::Fg::Fh::Fj::Fp::Fq::Fu::Fv::Fw::T9::u66::qM::u68::u69::u70::UC::u72::u73::UD::u75::UE::UF::UG::UH::UJ::UK::UL::UM::UN::UO::UQ::qN::qO::qP::qQ::qR::qU::Ec::Ed::Ee::Ef::FR::FT::FU::BF::BG::BH::BI::BJ::BL::BM::BN::BO::BP::BQ::BR::BS::Ch::Ci::Cj::Ck::Cm::Cn::Co::Cq::Cr::Ct::Cw::Cx::BU::Ay::BX::BZ::Bf::Bg::CO::CP::CQ::DJ::DK::DL::DN::DR::DT::DU::DV::DW::DX::DY::DZ::Da::Db::Cy::Cz::Bh::Bj::Bl::Bn::Bo::Bp::Bq::Br::Bt::Az::Bu::Bv::Bw::Bz::B_::CB::CS::CU::CV::CW::CX::CY::CZ::Cc::Ce::BK::LX::LY::LZ::La::Lb::Lc::Ld::Le::Lf::Lg::Lh::Li::Lj::Js::Jt::Ju::Jv::Jw::Jy::Jz::J2::J3::J4::J5::J6::J7::J8::J9::J_::KA::KC::KD::KF::KG::KH::KI::KJ::KL::KM::KN::KO::KP::Ir::Iu:: [])),[]⟩ wx)):
 Code.wp prog (Code.loop (SQ 2)) Q ⟨(List.toArray (s0::(.pointer (some ⟨w.heap.size,0,none⟩))::s2::s3::s4::(.slice A0 n0 c0)::s6::s7::s8::s9::(.int .i64 0)::qL::Tv::s13::G5::s15::s16::G6::FW::IY::s20::FP::Gx::Ea::s24::Eb::FQ::Eu::Ev::Ew::Ey::Ez::E5::E8::E9::E_::FB::GN::GQ::GR::GU::GV::GX::s43::s44::GY::GZ::Ga::Gb::s49::Gc::Gd::Gf::s53::Fa::Fb::Fe::Fg::Fh::Fj::Fp::Fq::Fu::Fv::Fw::T9::u66::qM::u68::u69::u70::UC::u72::u73::UD::u75::UE::UF::UG::UH::UJ::UK::UL::UM::UN::UO::UQ::qN::qO::qP::qQ::qR::qU::Ec::Ed::Ee::Ef::FR::FT::FU::BF::BG::BH::BI::BJ::BL::BM::BN::BO::BP::BQ::BR::BS::Ch::Ci::Cj::Ck::Cm::Cn::Co::Cq::Cr::Ct::Cw::Cx::BU::Ay::BX::BZ::Bf::Bg::CO::CP::CQ::DJ::DK::DL::DN::DR::DT::DU::DV::DW::DX::DY::DZ::Da::Db::Cy::Cz::Bh::Bj::Bl::Bn::Bo::Bp::Bq::Br::Bt::Az::Bu::Bv::Bw::Bz::B_::CB::CS::CU::CV::CW::CX::CY::CZ::Cc::Ce::BK::LX::LY::LZ::La::Lb::Lc::Ld::Le::Lf::Lg::Lh::Li::Lj::Js::Jt::Ju::Jv::Jw::Jy::Jz::J2::J3::J4::J5::J6::J7::J8::J9::J_::KA::KC::KD::KF::KG::KH::KI::KJ::KL::KM::KN::KO::KP::Ir::Iu:: [])),[]⟩ WV:=by
 refine wp_loop (fun a wx=> ∃(qL Tv T9 u66 qM u68 u69 u70 UC u72 u73 UD u75 UE UF UG UH UJ UK UL UM UN UO UQ qN qO qP qQ qR qU:Value) (A':Option Addr) (n' c' k:Nat),k≤m.globs.length∧A_ w2 wx A' n' c' (Vf m++(m.globs.take k).flatMap FN)∧a=⟨(List.toArray (s0::(.pointer (some ⟨w.heap.size,0,none⟩))::s2::s3::s4::(.slice A' n' c')::s6::s7::s8::s9::(.int .i64 k)::qL::Tv::s13::G5::s15::s16::G6::FW::IY::s20::FP::Gx::Ea::s24::Eb::FQ::Eu::Ev::Ew::Ey::Ez::E5::E8::E9::E_::FB::GN::GQ::GR::GU::GV::GX::s43::s44::GY::GZ::Ga::Gb::s49::Gc::Gd::Gf::s53::Fa::Fb::Fe::Fg::Fh::Fj::Fp::Fq::Fu::Fv::Fw::T9::u66::qM::u68::u69::u70::UC::u72::u73::UD::u75::UE::UF::UG::UH::UJ::UK::UL::UM::UN::UO::UQ::qN::qO::qP::qQ::qR::qU::Ec::Ed::Ee::Ef::FR::FT::FU::BF::BG::BH::BI::BJ::BL::BM::BN::BO::BP::BQ::BR::BS::Ch::Ci::Cj::Ck::Cm::Cn::Co::Cq::Cr::Ct::Cw::Cx::BU::Ay::BX::BZ::Bf::Bg::CO::CP::CQ::DJ::DK::DL::DN::DR::DT::DU::DV::DW::DX::DY::DZ::Da::Db::Cy::Cz::Bh::Bj::Bl::Bn::Bo::Bp::Bq::Br::Bt::Az::Bu::Bv::Bw::Bz::B_::CB::CS::CU::CV::CW::CX::CY::CZ::Cc::Ce::BK::LX::LY::LZ::La::Lb::Lc::Ld::Le::Lf::Lg::Lh::Li::Lj::Js::Jt::Ju::Jv::Jw::Jy::Jz::J2::J3::J4::J5::J6::J7::J8::J9::J_::KA::KC::KD::KF::KG::KH::KI::KJ::KL::KM::KN::KO::KP::Ir::Iu:: [])),[]⟩) (fun a _=>m.globs.length-(intOf (a.tmps.getD 10 undef)).toNat) ?_ ?_
 ·exact⟨qL,Tv,T9,u66,qM,u68,u69,u70,UC,u72,u73,UD,u75,UE,UF,UG,UH,UJ,UK,UL,UM,UN,UO,UQ,qN,qO,qP,qQ,qR,qU,A0,n0,c0,0,Nat.zero_le _,by rw [List.take_zero,List.flatMap_nil,List.append_nil];exact HP.out,rfl⟩
 intro a wr hI
 clear HP qL Tv T9 u66 qM u68 u69 u70 UC u72 u73 UD u75 UE UF UG UH UJ UK UL UM UN UO UQ qN qO qP qQ qR qU
 obtain⟨qL,Tv,T9,u66,qM,u68,u69,u70,UC,u72,u73,UD,u75,UE,UF,UG,UH,UJ,UK,UL,UM,UN,UO,UQ,qN,qO,qP,qQ,qR,qU,A,n,c,k,hk,hp,rfl⟩:=hI
 have HP:=AA hp
 clear hp
 refine Iz (fun K=> ∀(qL Tv T9 u66 qM u68 u69 u70 UC u72 u73 UD u75 UE UF UG UH UJ UK UL UM UN UO UQ qN qO qP qQ qR qU:Value) (A':Option Addr) (n' c':Nat) (wx:World),k<m.globs.length→A_ w2 wx A' n' c' (Vf m++(m.globs.take (k+1)).flatMap FN)→K ⟨(List.toArray (s0::(.pointer (some ⟨w.heap.size,0,none⟩))::s2::s3::s4::(.slice A' n' c')::s6::s7::s8::s9::(.int .i64 ((k:Int)+1))::qL::Tv::s13::G5::s15::s16::G6::FW::IY::s20::FP::Gx::Ea::s24::Eb::FQ::Eu::Ev::Ew::Ey::Ez::E5::E8::E9::E_::FB::GN::GQ::GR::GU::GV::GX::s43::s44::GY::GZ::Ga::Gb::s49::Gc::Gd::Gf::s53::Fa::Fb::Fe::Fg::Fh::Fj::Fp::Fq::Fu::Fv::Fw::T9::u66::qM::u68::u69::u70::UC::u72::u73::UD::u75::UE::UF::UG::UH::UJ::UK::UL::UM::UN::UO::UQ::qN::qO::qP::qQ::qR::qU::Ec::Ed::Ee::Ef::FR::FT::FU::BF::BG::BH::BI::BJ::BL::BM::BN::BO::BP::BQ::BR::BS::Ch::Ci::Cj::Ck::Cm::Cn::Co::Cq::Cr::Ct::Cw::Cx::BU::Ay::BX::BZ::Bf::Bg::CO::CP::CQ::DJ::DK::DL::DN::DR::DT::DU::DV::DW::DX::DY::DZ::Da::Db::Cy::Cz::Bh::Bj::Bl::Bn::Bo::Bp::Bq::Br::Bt::Az::Bu::Bv::Bw::Bz::B_::CB::CS::CU::CV::CW::CX::CY::CZ::Cc::Ce::BK::LX::LY::LZ::La::Lb::Lc::Ld::Le::Lf::Lg::Lh::Li::Lj::Js::Jt::Ju::Jv::Jw::Jy::Jz::J2::J3::J4::J5::J6::J7::J8::J9::J_::KA::KC::KD::KF::KG::KH::KI::KJ::KL::KM::KN::KO::KP::Ir::Iu:: [])),[]⟩ wx) ?_ ?_
 ·intro qL Tv T9 u66 qM u68 u69 u70 UC u72 u73 UD u75 UE UF UG UH UJ UK UL UM UN UO UQ qN qO qP qQ qR qU A2 n2 c2 wy hlt hp2
  refine⟨⟨qL,Tv,T9,u66,qM,u68,u69,u70,UC,u72,u73,UD,u75,UE,UF,UG,UH,UJ,UK,UL,UM,UN,UO,UQ,qN,qO,qP,qQ,qR,qU,A2,n2,c2,k+1,hlt,hp2,rfl⟩,?_⟩
  show m.globs.length-(intOf (.int .i64 ((k+1:Nat):Int))).toNat<m.globs.length-(intOf (.int .i64 (k:Int))).toNat
  simp [intOf]
  omega
 intro K HK
 conv=>arg 2;whnf
 have Eo:=AA (C.out.Gg.trans (HP.out.2.mono C.out.Gg.size))
 have fT:=AA (C.out.blk.below HP.out.2 C.out.lt)
 have hsz:w2.heap.size≤wr.heap.size:=HP.out.2.size
 have hsw:w.heap.size<w2.heap.size:=C.out.lt
 have hhi:=C.out.hhi
 have hk0:(0:Int)≤k:=by omega
 have q0:=fT.out.q 2 rfl
 by_cases hlt:k<m.globs.length
 ·obtain⟨x,hx⟩: ∃x,m.globs[k]?=some x:=⟨_,List.getElem?_eq_getElem hlt⟩
  have Lr:(k:Int)<m.globs.length:=by omega
  have Ux:m.globs.length≤2147483647:=by have:=C.out.few;unfold Ad at this;omega
  obtain⟨bk,ok,rfl,_,Kg,hc0,hc1,hc2,hb64⟩:=K_ (Rd.below C.out.h3 Eo.out hhi) hx
  have Ls:=AA (Dz (Vf m) FN hx)
  have KZ:=AA (DC (Vf m) FN hx)
  have K8:(Vf m++m.globs.flatMap FN).length≤1048576:=by have:=Ou m C.out.le;first | exact this.2.1 | exact this.2.2.1 | exact this.2.2.2.1 | exact this.2.2.2.2.1 | exact this.2.2.2.2.2.1 | exact this.2.2.2.2.2.2.1 | exact this.2.2.2.2.2.2.2
  have HL2:Hid ((Vf m++(m.globs.take k).flatMap FN).length+(FN x).length≤140737488351232):=AA (by have:=KZ.out;rw [List.length_append] at this;omega)
  have vk:Hid ((FN x).length≤1048576):=AA (by have:=KZ.out;rw [List.length_append] at this;omega)
  have Xl:=AA (List.mem_of_getElem? hx)
  clear hx
  obtain⟨hsn,hsf⟩:=C.out.fine.globs x Xl.out
  have hv64:=hsf.2
  have qH:Hid (∀W,Calls prog 41 #[.agg #[.int .u8 (x.l.toNat:Int),.bool x.m,.int .u64 (x.v:Int)]] W fun e w'=>Below W.heap.size W w'∧e= .returned (.int .i64 (Au x))):=AA (fun W=>ZM x W hsn hsf.1 hv64)
  have HSB:=AA (OC hv64 hsf.1)
  have X3:Hid (∀W,Calls prog 40 #[.int .i64 (Au x)] W fun e w'=>Below W.heap.size W w'∧e= .returned (.string (BA (Lib.itoa (Au x))))):=AA (fun W=>Iq (Au x) HSB.out W)
  have hz:(BA (Lib.itoa (Au x))).size≤20:=by rw [JY];exact Dc _ HSB.out
  clear HX hsn hsf hv64
  go_upto_region 19 with fail
  generalize hw3:World.alloc _ _=w3
  have HB3:Hid (Below wr.heap.size wr w3):=AA (by rw [←hw3];exact(Below.refl _ _).alloc (Nat.le_refl _) _)
  have Gz:Hid (AV w3 wr.heap.size 82 [.int .u8 (x.l.toNat:Int),.bool x.m,.int .u64 (x.v:Int)]):=AA (by rw [←hw3];exact AV.new wr _ _)
  have xQ:=AA (HP.out.below HB3.out)
  have c1':=Gz.out.q 1 rfl
  clear hw3 hc0 hc1 hc2 q0
  obtain⟨how,ACo⟩: ∃how:ByteArray,(if x.m then(⟨#[32,118,97,114,32]⟩:ByteArray) else⟨#[32,99,111,110,115,116,32]⟩)=how:=⟨_,rfl⟩
  have wE:=AA ACo
  have hhz:how.size≤10:=by rw [←ACo];split<;>decide
  clear ACo
  go_upto_if 78 with fail
  go_cut [12] from 65 to 92 (fun a wx=>a= .string how∧wx=w3)
  case first=>
   cases hm:x.m with
   | true=>rw [hm] at c1' wE;go_wp2_with fail;go_meet;exact⟨by rw [←wE.out];rfl,rfl⟩
   | false=>rw [hm] at c1' wE;go_wp2_with fail;go_meet;exact⟨by rw [←wE.out];rfl,rfl⟩
  case rest=>
   obtain⟨rfl,rfl⟩:=hcut
   obtain⟨w3,rfl⟩: ∃w3:World,w3=wc:=⟨_,rfl⟩
   have hcv: ∀(W:World) (g:Nat),W.cell? ⟨g,0,none⟩=some (.int .u8 (x.l.toNat:Int))→(convert 41 9 (.slice (some ⟨g,0,none⟩) 1 1)).run prog W= .ok (.string ⟨#[x.l]⟩) W:=fun W g hg=>jI W g x.l hg
   have hs3:wr.heap.size<w3.heap.size:=Gz.out.lt
   have X4:Hid ((⟨#[103,108,111,98,97,108,32]⟩++⟨#[x.l]⟩++how++BA (Lib.itoa (Au x))++⟨#[10]⟩:ByteArray).data.toList=FN x):=AA (by
    rw [←wE.out]
    unfold FN
    rw [Wu]
    cases x.m<;>simp [BA,Ji,UZ,Ma])
   generalize hd:BA (Lib.itoa (Au x))=ds at hz X3 X4
   have z1: ¬(9223372036854775807<8+how.size):=by omega
   have z2: ¬(9223372036854775807<8+how.size+ds.size):=by omega
   have z3: ¬(9223372036854775807<8+how.size+ds.size+1):=by omega
   clear hd c1'
   have Zo:Hid ((Value.slice A n c).ownBlock≠some wr.heap.size):=AA (fun e=>by have:=(HP.out.1.lt _ e).2;omega)
   have OV:Hid (∀W,Below w3.heap.size w3 W→W.cell? ⟨wr.heap.size,0,none⟩=some (.int .u8 (x.l.toNat:Int))∧W.cell? ⟨wr.heap.size,1,none⟩=some (.bool x.m)∧W.cell? ⟨wr.heap.size,2,none⟩=some (.int .u64 (x.v:Int))):=AA (fun W hW=>⟨(Gz.out.below hW hs3).cell 0,(Gz.out.below hW hs3).cell 1,(Gz.out.below hW hs3).cell 2⟩)
   have Pq:Hid (Below w3.heap.size w3 w3.drew):=AA (Below.refl w3.heap.size w3).drew
   go_upto_region 22 with fail
   refine wp_region_noPanic ?_
   refine wp_region_held_drew (S:=fun W=>W.cell? ⟨wr.heap.size,0,none⟩=some (.int .u8 (x.l.toNat:Int))∧W.cell? ⟨wr.heap.size,1,none⟩=some (.bool x.m)∧W.cell? ⟨wr.heap.size,2,none⟩=some (.int .u64 (x.v:Int))) (by kernel_rfl) (OV.out _ Pq.out) (fun hHeld=> ?_)
   generalize w3.drew=w9 at*
   refine AB (i:=0) (v:= ?_) rfl (by kernel_rfl) (fun _ _ _ h=>h) (by intro w hSw;(try dsimp only at hSw);go_simp;try with_reducible rfl) hHeld ?_
   refine AB (i:=1) (v:= ?_) rfl (by kernel_rfl) (fun _ _ _ h=>h) (by intro w hSw;(try dsimp only at hSw);go_simp;try with_reducible rfl) hHeld ?_
   refine AB (i:=2) (v:= ?_) rfl (by kernel_rfl) (fun _ _ _ h=>h) (by intro w hSw;(try dsimp only at hSw);go_simp;try with_reducible rfl) hHeld ?_
   refine AB (i:=6) (v:= ?_) rfl (by kernel_rfl) (fun _ _ _ h=>h) (by intro w hSw;(try dsimp only at hSw);go_simp;try with_reducible rfl) hHeld ?_
   refine AB (i:=8) (v:= ?_) rfl (by kernel_rfl) (fun _ _ _ h=>h) (by intro w hSw;(try dsimp only at hSw);go_simp;try with_reducible rfl) hHeld ?_
   refine wpAnyH_ready (rs:= [3,9]) (by kernel_rfl) (by simp) ?_
   refine AllReadyH.cons rfl (fun K hK=> ?_) (AllReadyH.cons rfl (fun K hK=> ?_) AllReadyH.nil)
   ·go_simp
    have Vk:Hid (Below w3.heap.size w3 (w9.alloc (.cells #[.int .u8 (x.l.toNat:Int)] 5))):=AA (Pq.out.alloc Pq.out.size _)
    have wF:Hid (AV (w9.alloc (.cells #[.int .u8 (x.l.toNat:Int)] 5)) w9.heap.size 5 [.int .u8 (x.l.toNat:Int)]):=AA (AV.new w9 _ _)
    refine hK.out _ _ (OV.out _ Vk.out) (fun AAU=> ?_)
    clear hK K
    generalize hwn:w9.alloc (.cells #[.int .u8 (x.l.toNat:Int)] 5)=uX at*
    clear hwn
    refine wpAnyH_ready (rs:= [4,9]) (by kernel_rfl) (by simp) ?_
    refine AllReadyH.cons rfl (fun K hK=> ?_) (AllReadyH.cons rfl (fun K hK=> ?_) AllReadyH.nil)
    ·have hcw:=hcv uX _ (wF.out.cell 0)
     go_simp
     refine hK.out _ _ (OV.out _ Vk.out) (fun TY=> ?_)
     clear hK K hcw
     refine AB (i:=5) (v:= ?_) rfl (by kernel_rfl) (fun _ _ _ h=>h) (by intro w hSw;(try dsimp only at hSw);go_simp;try with_reducible rfl) TY ?_
     refine AB (i:=7) (v:= ?_) rfl (by kernel_rfl) (fun _ _ _ h=>h) (by intro w hSw;(try dsimp only at hSw);go_simp;try with_reducible rfl) TY ?_
     refine wpAnyH_ready (rs:= [9]) (by kernel_rfl) (by simp) ?_
     refine AllReadyH.cons rfl (fun K hK=> ?_) AllReadyH.nil
     go_simp
     go_at_call 41
     refine(qH.out _).mono ?_
     rintro e w12 ⟨hb,rfl⟩
     have Qg:=AA (Vk.out.trans (hb.mono Vk.out.size))
     have eZ:=AA (wF.out.below hb wF.out.lt)
     clear hb
     refine hK.out _ _ (OV.out _ Qg.out) (fun Nq=> ?_)
     clear hK K
     refine wpAnyH_ready (rs:= [10]) (by kernel_rfl) (by simp) ?_
     refine AllReadyH.cons rfl (fun K hK=> ?_) AllReadyH.nil
     go_simp
     go_at_call 40
     refine(X3.out _).mono ?_
     rintro e w13 ⟨hb,rfl⟩
     have X8:=AA (Qg.out.trans (hb.mono Qg.out.size))
     have AFD:=AA (eZ.out.below hb eZ.out.lt)
     clear hb
     refine hK.out _ _ (OV.out _ X8.out) (fun EA=> ?_)
     clear hK K
     refine AB (i:=11) (v:= ?_) rfl (by kernel_rfl) (fun _ _ _ h=>h) (by intro w hSw;(try dsimp only at hSw);go_simp;try with_reducible rfl) EA ?_
     refine AB (i:=12) (v:= ?_) rfl (by kernel_rfl) (fun _ _ _ h=>h) (by intro w hSw;(try dsimp only at hSw);go_simp;try with_reducible rfl) EA ?_
     refine wpAnyH_ready (rs:= [13]) (by kernel_rfl) (by simp) ?_
     refine AllReadyH.cons rfl (fun K hK=> ?_) AllReadyH.nil
     refine Ig w2 (w7:=w3) (r7:=(Value.slice A n c).ownBlock) rfl _ _ rfl A n c _ rfl (xQ.out.below X8.out) ((Aside.refl w3 (.slice A n c)).below X8.out) _ _ X4.out rfl HL2.out ?_
     intro A6 n6 c6 w6 h6 Rf
     have X9:=AA (EB Rf.1 Gz.out Zo.out)
     refine hK.out _ _ ⟨X9.out.cell 0,X9.out.cell 1,X9.out.cell 2⟩ (fun Kr=> ?_)
     have Oa:=AA h6
     clear hK K h6 Rf
     refine AB (i:=14) (v:= ?_) rfl (by kernel_rfl) (fun _ _ _ h=>h) (by intro w hSw;(try dsimp only at hSw);go_simp;try with_reducible rfl) Kr ?_
     refine wpAnyH_done (by kernel_rfl) ?_ _
     refine NoPanic.normal ?_
     go_simp
     go_wp2_with fail
     apply HK.out
     ·exact hlt
     ·rw [←Ls.out];exact Oa.out
    ·go_simp
     go_at_call 41
     refine(qH.out _).mono ?_
     rintro e fQ ⟨hb,rfl⟩
     have Q5:=AA (Vk.out.trans (hb.mono Vk.out.size))
     have X_:=AA (wF.out.below hb wF.out.lt)
     clear hb
     refine hK.out _ _ (OV.out _ Q5.out) (fun TY=> ?_)
     clear hK K
     refine wpAnyH_ready (rs:= [4,10]) (by kernel_rfl) (by simp) ?_
     refine AllReadyH.cons rfl (fun K hK=> ?_) (AllReadyH.cons rfl (fun K hK=> ?_) AllReadyH.nil)
     ·have hcw:=hcv fQ _ (X_.out.cell 0)
      go_simp
      refine hK.out _ _ (OV.out _ Q5.out) (fun Nq=> ?_)
      clear hK K hcw
      refine AB (i:=5) (v:= ?_) rfl (by kernel_rfl) (fun _ _ _ h=>h) (by intro w hSw;(try dsimp only at hSw);go_simp;try with_reducible rfl) Nq ?_
      refine AB (i:=7) (v:= ?_) rfl (by kernel_rfl) (fun _ _ _ h=>h) (by intro w hSw;(try dsimp only at hSw);go_simp;try with_reducible rfl) Nq ?_
      refine wpAnyH_ready (rs:= [10]) (by kernel_rfl) (by simp) ?_
      refine AllReadyH.cons rfl (fun K hK=> ?_) AllReadyH.nil
      go_simp
      go_at_call 40
      refine(X3.out _).mono ?_
      rintro e w13 ⟨hb,rfl⟩
      have X8:=AA (Q5.out.trans (hb.mono Q5.out.size))
      have AFD:=AA (X_.out.below hb X_.out.lt)
      clear hb
      refine hK.out _ _ (OV.out _ X8.out) (fun EA=> ?_)
      clear hK K
      refine AB (i:=11) (v:= ?_) rfl (by kernel_rfl) (fun _ _ _ h=>h) (by intro w hSw;(try dsimp only at hSw);go_simp;try with_reducible rfl) EA ?_
      refine AB (i:=12) (v:= ?_) rfl (by kernel_rfl) (fun _ _ _ h=>h) (by intro w hSw;(try dsimp only at hSw);go_simp;try with_reducible rfl) EA ?_
      refine wpAnyH_ready (rs:= [13]) (by kernel_rfl) (by simp) ?_
      refine AllReadyH.cons rfl (fun K hK=> ?_) AllReadyH.nil
      refine Ig w2 (w7:=w3) (r7:=(Value.slice A n c).ownBlock) rfl _ _ rfl A n c _ rfl (xQ.out.below X8.out) ((Aside.refl w3 (.slice A n c)).below X8.out) _ _ X4.out rfl HL2.out ?_
      intro A6 n6 c6 w6 h6 Rf
      have X9:=AA (EB Rf.1 Gz.out Zo.out)
      refine hK.out _ _ ⟨X9.out.cell 0,X9.out.cell 1,X9.out.cell 2⟩ (fun Kr=> ?_)
      have Oa:=AA h6
      clear hK K h6 Rf
      refine AB (i:=14) (v:= ?_) rfl (by kernel_rfl) (fun _ _ _ h=>h) (by intro w hSw;(try dsimp only at hSw);go_simp;try with_reducible rfl) Kr ?_
      refine wpAnyH_done (by kernel_rfl) ?_ _
      refine NoPanic.normal ?_
      go_simp
      go_wp2_with fail
      apply HK.out
      ·exact hlt
      ·rw [←Ls.out];exact Oa.out
     ·go_simp
      go_at_call 40
      refine(X3.out _).mono ?_
      rintro e w12 ⟨hb,rfl⟩
      have Qg:=AA (Q5.out.trans (hb.mono Q5.out.size))
      have eZ:=AA (X_.out.below hb X_.out.lt)
      clear hb
      refine hK.out _ _ (OV.out _ Qg.out) (fun Nq=> ?_)
      clear hK K
      refine wpAnyH_ready (rs:= [4]) (by kernel_rfl) (by simp) ?_
      refine AllReadyH.cons rfl (fun K hK=> ?_) AllReadyH.nil
      have hcw:=hcv w12 _ (eZ.out.cell 0)
      go_simp
      refine hK.out _ _ (OV.out _ Qg.out) (fun EA=> ?_)
      clear hK K hcw
      refine AB (i:=5) (v:= ?_) rfl (by kernel_rfl) (fun _ _ _ h=>h) (by intro w hSw;(try dsimp only at hSw);go_simp;try with_reducible rfl) EA ?_
      refine AB (i:=7) (v:= ?_) rfl (by kernel_rfl) (fun _ _ _ h=>h) (by intro w hSw;(try dsimp only at hSw);go_simp;try with_reducible rfl) EA ?_
      refine AB (i:=11) (v:= ?_) rfl (by kernel_rfl) (fun _ _ _ h=>h) (by intro w hSw;(try dsimp only at hSw);go_simp;try with_reducible rfl) EA ?_
      refine AB (i:=12) (v:= ?_) rfl (by kernel_rfl) (fun _ _ _ h=>h) (by intro w hSw;(try dsimp only at hSw);go_simp;try with_reducible rfl) EA ?_
      refine wpAnyH_ready (rs:= [13]) (by kernel_rfl) (by simp) ?_
      refine AllReadyH.cons rfl (fun K hK=> ?_) AllReadyH.nil
      refine Ig w2 (w7:=w3) (r7:=(Value.slice A n c).ownBlock) rfl _ _ rfl A n c _ rfl (xQ.out.below Qg.out) ((Aside.refl w3 (.slice A n c)).below Qg.out) _ _ X4.out rfl HL2.out ?_
      intro A6 n6 c6 w6 h6 Rf
      have X9:=AA (EB Rf.1 Gz.out Zo.out)
      refine hK.out _ _ ⟨X9.out.cell 0,X9.out.cell 1,X9.out.cell 2⟩ (fun Kr=> ?_)
      have Oa:=AA h6
      clear hK K h6 Rf
      refine AB (i:=14) (v:= ?_) rfl (by kernel_rfl) (fun _ _ _ h=>h) (by intro w hSw;(try dsimp only at hSw);go_simp;try with_reducible rfl) Kr ?_
      refine wpAnyH_done (by kernel_rfl) ?_ _
      refine NoPanic.normal ?_
      go_simp
      go_wp2_with fail
      apply HK.out
      ·exact hlt
      ·rw [←Ls.out];exact Oa.out
   ·go_simp
    go_at_call 41
    refine(qH.out _).mono ?_
    rintro e uX ⟨hb,rfl⟩
    have Vk:=AA (Pq.out.trans (hb.mono Pq.out.size))
    clear hb
    refine hK.out _ _ (OV.out _ Vk.out) (fun AAU=> ?_)
    clear hK K
    refine wpAnyH_ready (rs:= [3,10]) (by kernel_rfl) (by simp) ?_
    refine AllReadyH.cons rfl (fun K hK=> ?_) (AllReadyH.cons rfl (fun K hK=> ?_) AllReadyH.nil)
    ·go_simp
     have Q5:Hid (Below w3.heap.size w3 (uX.alloc (.cells #[.int .u8 (x.l.toNat:Int)] 5))):=AA (Vk.out.alloc Vk.out.size _)
     have X_:Hid (AV (uX.alloc (.cells #[.int .u8 (x.l.toNat:Int)] 5)) uX.heap.size 5 [.int .u8 (x.l.toNat:Int)]):=AA (AV.new uX _ _)
     refine hK.out _ _ (OV.out _ Q5.out) (fun TY=> ?_)
     clear hK K
     generalize hwn:uX.alloc (.cells #[.int .u8 (x.l.toNat:Int)] 5)=fQ at*
     clear hwn
     refine wpAnyH_ready (rs:= [4,10]) (by kernel_rfl) (by simp) ?_
     refine AllReadyH.cons rfl (fun K hK=> ?_) (AllReadyH.cons rfl (fun K hK=> ?_) AllReadyH.nil)
     ·have hcw:=hcv fQ _ (X_.out.cell 0)
      go_simp
      refine hK.out _ _ (OV.out _ Q5.out) (fun Nq=> ?_)
      clear hK K hcw
      refine AB (i:=5) (v:= ?_) rfl (by kernel_rfl) (fun _ _ _ h=>h) (by intro w hSw;(try dsimp only at hSw);go_simp;try with_reducible rfl) Nq ?_
      refine AB (i:=7) (v:= ?_) rfl (by kernel_rfl) (fun _ _ _ h=>h) (by intro w hSw;(try dsimp only at hSw);go_simp;try with_reducible rfl) Nq ?_
      refine wpAnyH_ready (rs:= [10]) (by kernel_rfl) (by simp) ?_
      refine AllReadyH.cons rfl (fun K hK=> ?_) AllReadyH.nil
      go_simp
      go_at_call 40
      refine(X3.out _).mono ?_
      rintro e w13 ⟨hb,rfl⟩
      have X8:=AA (Q5.out.trans (hb.mono Q5.out.size))
      have AFD:=AA (X_.out.below hb X_.out.lt)
      clear hb
      refine hK.out _ _ (OV.out _ X8.out) (fun EA=> ?_)
      clear hK K
      refine AB (i:=11) (v:= ?_) rfl (by kernel_rfl) (fun _ _ _ h=>h) (by intro w hSw;(try dsimp only at hSw);go_simp;try with_reducible rfl) EA ?_
      refine AB (i:=12) (v:= ?_) rfl (by kernel_rfl) (fun _ _ _ h=>h) (by intro w hSw;(try dsimp only at hSw);go_simp;try with_reducible rfl) EA ?_
      refine wpAnyH_ready (rs:= [13]) (by kernel_rfl) (by simp) ?_
      refine AllReadyH.cons rfl (fun K hK=> ?_) AllReadyH.nil
      refine Ig w2 (w7:=w3) (r7:=(Value.slice A n c).ownBlock) rfl _ _ rfl A n c _ rfl (xQ.out.below X8.out) ((Aside.refl w3 (.slice A n c)).below X8.out) _ _ X4.out rfl HL2.out ?_
      intro A6 n6 c6 w6 h6 Rf
      have X9:=AA (EB Rf.1 Gz.out Zo.out)
      refine hK.out _ _ ⟨X9.out.cell 0,X9.out.cell 1,X9.out.cell 2⟩ (fun Kr=> ?_)
      have Oa:=AA h6
      clear hK K h6 Rf
      refine AB (i:=14) (v:= ?_) rfl (by kernel_rfl) (fun _ _ _ h=>h) (by intro w hSw;(try dsimp only at hSw);go_simp;try with_reducible rfl) Kr ?_
      refine wpAnyH_done (by kernel_rfl) ?_ _
      refine NoPanic.normal ?_
      go_simp
      go_wp2_with fail
      apply HK.out
      ·exact hlt
      ·rw [←Ls.out];exact Oa.out
     ·go_simp
      go_at_call 40
      refine(X3.out _).mono ?_
      rintro e w12 ⟨hb,rfl⟩
      have Qg:=AA (Q5.out.trans (hb.mono Q5.out.size))
      have eZ:=AA (X_.out.below hb X_.out.lt)
      clear hb
      refine hK.out _ _ (OV.out _ Qg.out) (fun Nq=> ?_)
      clear hK K
      refine wpAnyH_ready (rs:= [4]) (by kernel_rfl) (by simp) ?_
      refine AllReadyH.cons rfl (fun K hK=> ?_) AllReadyH.nil
      have hcw:=hcv w12 _ (eZ.out.cell 0)
      go_simp
      refine hK.out _ _ (OV.out _ Qg.out) (fun EA=> ?_)
      clear hK K hcw
      refine AB (i:=5) (v:= ?_) rfl (by kernel_rfl) (fun _ _ _ h=>h) (by intro w hSw;(try dsimp only at hSw);go_simp;try with_reducible rfl) EA ?_
      refine AB (i:=7) (v:= ?_) rfl (by kernel_rfl) (fun _ _ _ h=>h) (by intro w hSw;(try dsimp only at hSw);go_simp;try with_reducible rfl) EA ?_
      refine AB (i:=11) (v:= ?_) rfl (by kernel_rfl) (fun _ _ _ h=>h) (by intro w hSw;(try dsimp only at hSw);go_simp;try with_reducible rfl) EA ?_
      refine AB (i:=12) (v:= ?_) rfl (by kernel_rfl) (fun _ _ _ h=>h) (by intro w hSw;(try dsimp only at hSw);go_simp;try with_reducible rfl) EA ?_
      refine wpAnyH_ready (rs:= [13]) (by kernel_rfl) (by simp) ?_
      refine AllReadyH.cons rfl (fun K hK=> ?_) AllReadyH.nil
      refine Ig w2 (w7:=w3) (r7:=(Value.slice A n c).ownBlock) rfl _ _ rfl A n c _ rfl (xQ.out.below Qg.out) ((Aside.refl w3 (.slice A n c)).below Qg.out) _ _ X4.out rfl HL2.out ?_
      intro A6 n6 c6 w6 h6 Rf
      have X9:=AA (EB Rf.1 Gz.out Zo.out)
      refine hK.out _ _ ⟨X9.out.cell 0,X9.out.cell 1,X9.out.cell 2⟩ (fun Kr=> ?_)
      have Oa:=AA h6
      clear hK K h6 Rf
      refine AB (i:=14) (v:= ?_) rfl (by kernel_rfl) (fun _ _ _ h=>h) (by intro w hSw;(try dsimp only at hSw);go_simp;try with_reducible rfl) Kr ?_
      refine wpAnyH_done (by kernel_rfl) ?_ _
      refine NoPanic.normal ?_
      go_simp
      go_wp2_with fail
      apply HK.out
      ·exact hlt
      ·rw [←Ls.out];exact Oa.out
    ·go_simp
     go_at_call 40
     refine(X3.out _).mono ?_
     rintro e fQ ⟨hb,rfl⟩
     have Q5:=AA (Vk.out.trans (hb.mono Vk.out.size))
     clear hb
     refine hK.out _ _ (OV.out _ Q5.out) (fun TY=> ?_)
     clear hK K
     refine wpAnyH_ready (rs:= [3]) (by kernel_rfl) (by simp) ?_
     refine AllReadyH.cons rfl (fun K hK=> ?_) AllReadyH.nil
     go_simp
     have Qg:Hid (Below w3.heap.size w3 (fQ.alloc (.cells #[.int .u8 (x.l.toNat:Int)] 5))):=AA (Q5.out.alloc Q5.out.size _)
     have eZ:Hid (AV (fQ.alloc (.cells #[.int .u8 (x.l.toNat:Int)] 5)) fQ.heap.size 5 [.int .u8 (x.l.toNat:Int)]):=AA (AV.new fQ _ _)
     refine hK.out _ _ (OV.out _ Qg.out) (fun Nq=> ?_)
     clear hK K
     generalize hwn:fQ.alloc (.cells #[.int .u8 (x.l.toNat:Int)] 5)=w12 at*
     clear hwn
     refine wpAnyH_ready (rs:= [4]) (by kernel_rfl) (by simp) ?_
     refine AllReadyH.cons rfl (fun K hK=> ?_) AllReadyH.nil
     have hcw:=hcv w12 _ (eZ.out.cell 0)
     go_simp
     refine hK.out _ _ (OV.out _ Qg.out) (fun EA=> ?_)
     clear hK K hcw
     refine AB (i:=5) (v:= ?_) rfl (by kernel_rfl) (fun _ _ _ h=>h) (by intro w hSw;(try dsimp only at hSw);go_simp;try with_reducible rfl) EA ?_
     refine AB (i:=7) (v:= ?_) rfl (by kernel_rfl) (fun _ _ _ h=>h) (by intro w hSw;(try dsimp only at hSw);go_simp;try with_reducible rfl) EA ?_
     refine AB (i:=11) (v:= ?_) rfl (by kernel_rfl) (fun _ _ _ h=>h) (by intro w hSw;(try dsimp only at hSw);go_simp;try with_reducible rfl) EA ?_
     refine AB (i:=12) (v:= ?_) rfl (by kernel_rfl) (fun _ _ _ h=>h) (by intro w hSw;(try dsimp only at hSw);go_simp;try with_reducible rfl) EA ?_
     refine wpAnyH_ready (rs:= [13]) (by kernel_rfl) (by simp) ?_
     refine AllReadyH.cons rfl (fun K hK=> ?_) AllReadyH.nil
     refine Ig w2 (w7:=w3) (r7:=(Value.slice A n c).ownBlock) rfl _ _ rfl A n c _ rfl (xQ.out.below Qg.out) ((Aside.refl w3 (.slice A n c)).below Qg.out) _ _ X4.out rfl HL2.out ?_
     intro A6 n6 c6 w6 h6 Rf
     have X9:=AA (EB Rf.1 Gz.out Zo.out)
     refine hK.out _ _ ⟨X9.out.cell 0,X9.out.cell 1,X9.out.cell 2⟩ (fun Kr=> ?_)
     have Oa:=AA h6
     clear hK K h6 Rf
     refine AB (i:=14) (v:= ?_) rfl (by kernel_rfl) (fun _ _ _ h=>h) (by intro w hSw;(try dsimp only at hSw);go_simp;try with_reducible rfl) Kr ?_
     refine wpAnyH_done (by kernel_rfl) ?_ _
     refine NoPanic.normal ?_
     go_simp
     go_wp2_with fail
     apply HK.out
     ·exact hlt
     ·rw [←Ls.out];exact Oa.out
 ·obtain rfl:k=m.globs.length:=by omega
  have Qf:Hid (A_ w2 wr A n c (qG m)):=AA (by have:=HP.out;rw [List.take_length] at this;exact this)
  clear HP HK
  go_wp2_with fail
  apply HX.out
  exact Qf.out
end Go.Proofs.YtebgikflpgcnlaaGreatDoor
