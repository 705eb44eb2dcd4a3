/- Part 17 of the proof: R6K WrdA WrdB -/
import Derived.Test.YtebgikflpgcnlaaGreatDoorP16
namespace Go.Proofs.YtebgikflpgcnlaaGreatDoor
set_option linter.unusedVariables false
set_option linter.unusedSimpArgs false
set_option maxRecDepth 100000
set_option maxHeartbeats 4000000
open Go.RowKit Tryz
theorem wH {W:World} {lo hi:Nat} {A:Option Addr} {n c:Nat} {xs:List UInt8} (h:(Rd.u8.sl false).R W lo hi [.slice A n c] xs) {k:Nat} {x:UInt8} (hk:xs[k]?=some x): ∃b o,A=some ⟨b,o,none⟩∧b<hi∧W.cell? ⟨b,o+k,none⟩=some (.int .u8 (x.toNat:Int)):=by
 obtain⟨b,o,e,h1,h2,cs,hc,hr⟩:=NW h hk
 obtain⟨rfl,_⟩:=hr
 have:=hc 0 _ rfl
 exact⟨b,o,e,h2,by simpa [Rd.u8,Rd.one,bv] using this⟩
def Nc (c:UInt8):List UInt8:=KX [c]
theorem ZN: ∀b:List UInt8,b.flatMap Nc=KX b
 | []=>rfl
 | c::b=>by
  rw [List.flatMap_cons,ZN b]
  rfl
set_option maxRecDepth 1000000 in
theorem pI {w w2:World} {hi hj:Nat} {m:AQ} {A1 A2 A3 A6 A7 A8:Option Addr} {c1 c2 c3 c6 c7 c8:Nat} (C:Hid (M7 w w2 hi hj m A1 c1 A2 c2 A3 c3 A6 c6 A7 c7 A8 c8)) {q:Nat} {x:EZ} (HQ:Hid (m.dat[q]?=some x)) {P:List UInt8} (Ta:(P++x.b.flatMap Nc).length≤1048576) {A0:Option Addr} {n0 c0:Nat} {WV:World} (HP:Hid (A_ w2 WV A0 n0 c0 (P)))
 (s0 s2 s3 s4 s6 s7 s8 s9 s10 s11 s12 s13 G5 s15 s16 IY s20 FP Gx Ea s24 Eb FQ Eu Ev Ew Ey Ez E5 E8 E9 E_ FB GN GQ GR GU GV GX s43 s44 GY GZ Ga Gb s49 Gc Gd Gf s53 Fa Fb Fe Fg Fh Fj Fp Fq Fu Fv Fw Fx FC Fy s68 Fz F3 F4 s72 F5 F6 F7 F8 F9 GA GD GH GI s82 s83 GJ GK GL s87 FD FE FH FI FJ Ec Ed Ee Ef FR FT FU BF BG BH BI BJ BL BM BN BO BP BQ BR BS Ch Ci Cj Ck Cm Cn Co Cq Cr Ct Cw Cx BU Ay BX BZ Bf Bg CO CP CQ DJ DK DL DN DR DT DU DV DW DX DY DZ Da Db Cy Cz Bh Bj Bl Bn Bo Bp Bq Br Bt Az Bu Bv Bw Bz B_ CB Js Jt Ju Jv Jw Jy Jz J2 J3 J4 J5 J6 J7 J8 J9 J_ KA KC KD KF KG KH KI KJ KL KM KN KO KP Ir Iu IG II IJ IK IL IQ IU IV IW ND NG NH NI NJ NK NM NP NQ NR NS NT NU NV:Value) (Q:Exit→Act→World→Prop) (HX:Hid (∀(IG II IJ IK IL IQ IU IV IW ND NG NH NI NJ NK NM NP NQ NR NS NT NU NV:Value) (A':Option Addr) (n' c':Nat) (wx:World),A_ w2 wx A' n' c' (P++x.b.flatMap Nc)→Q (.exit 12) ⟨(List.toArray (s0::(.pointer (some ⟨w.heap.size,0,none⟩))::s2::s3::s4::(.slice A' n' c')::s6::s7::s8::s9::s10::s11::s12::s13::G5::s15::s16::(.int .i64 q)::(.int .i64 x.b.length)::IY::s20::FP::Gx::Ea::s24::Eb::FQ::Eu::Ev::Ew::Ey::Ez::E5::E8::E9::E_::FB::GN::GQ::GR::GU::GV::GX::s43::s44::GY::GZ::Ga::Gb::s49::Gc::Gd::Gf::s53::Fa::Fb::Fe::Fg::Fh::Fj::Fp::Fq::Fu::Fv::Fw::Fx::FC::Fy::s68::Fz::F3::F4::s72::F5::F6::F7::F8::F9::GA::GD::GH::GI::s82::s83::GJ::GK::GL::s87::FD::FE::FH::FI::FJ::Ec::Ed::Ee::Ef::FR::FT::FU::BF::BG::BH::BI::BJ::BL::BM::BN::BO::BP::BQ::BR::BS::Ch::Ci::Cj::Ck::Cm::Cn::Co::Cq::Cr::Ct::Cw::Cx::BU::Ay::BX::BZ::Bf::Bg::CO::CP::CQ::DJ::DK::DL::DN::DR::DT::DU::DV::DW::DX::DY::DZ::Da::Db::Cy::Cz::Bh::Bj::Bl::Bn::Bo::Bp::Bq::Br::Bt::Az::Bu::Bv::Bw::Bz::B_::CB::IG::II::IJ::IK::IL::IQ::IU::IV::IW::ND::NG::NH::NI::NJ::NK::NM::NP::NQ::NR::NS::NT::NU::NV::Js::Jt::Ju::Jv::Jw::Jy::Jz::J2::J3::J4::J5::J6::J7::J8::J9::J_::KA::KC::KD::KF::KG::KH::KI::KJ::KL::KM::KN::KO::KP::Ir::Iu:: [])),[]⟩ wx)):
 Code.wp prog (Code.loop (kY 4)) Q ⟨(List.toArray (s0::(.pointer (some ⟨w.heap.size,0,none⟩))::s2::s3::s4::(.slice A0 n0 c0)::s6::s7::s8::s9::s10::s11::s12::s13::G5::s15::s16::(.int .i64 q)::(.int .i64 0)::IY::s20::FP::Gx::Ea::s24::Eb::FQ::Eu::Ev::Ew::Ey::Ez::E5::E8::E9::E_::FB::GN::GQ::GR::GU::GV::GX::s43::s44::GY::GZ::Ga::Gb::s49::Gc::Gd::Gf::s53::Fa::Fb::Fe::Fg::Fh::Fj::Fp::Fq::Fu::Fv::Fw::Fx::FC::Fy::s68::Fz::F3::F4::s72::F5::F6::F7::F8::F9::GA::GD::GH::GI::s82::s83::GJ::GK::GL::s87::FD::FE::FH::FI::FJ::Ec::Ed::Ee::Ef::FR::FT::FU::BF::BG::BH::BI::BJ::BL::BM::BN::BO::BP::BQ::BR::BS::Ch::Ci::Cj::Ck::Cm::Cn::Co::Cq::Cr::Ct::Cw::Cx::BU::Ay::BX::BZ::Bf::Bg::CO::CP::CQ::DJ::DK::DL::DN::DR::DT::DU::DV::DW::DX::DY::DZ::Da::Db::Cy::Cz::Bh::Bj::Bl::Bn::Bo::Bp::Bq::Br::Bt::Az::Bu::Bv::Bw::Bz::B_::CB::IG::II::IJ::IK::IL::IQ::IU::IV::IW::ND::NG::NH::NI::NJ::NK::NM::NP::NQ::NR::NS::NT::NU::NV::Js::Jt::Ju::Jv::Jw::Jy::Jz::J2::J3::J4::J5::J6::J7::J8::J9::J_::KA::KC::KD::KF::KG::KH::KI::KJ::KL::KM::KN::KO::KP::Ir::Iu:: [])),[]⟩ WV:=by
 refine wp_loop (fun a wx=> ∃(IG II IJ IK IL IQ IU IV IW ND NG NH NI NJ NK NM NP NQ NR NS NT NU NV:Value) (A':Option Addr) (n' c' k:Nat),k≤x.b.length∧A_ w2 wx A' n' c' (P++(x.b.take k).flatMap Nc)∧a=⟨(List.toArray (s0::(.pointer (some ⟨w.heap.size,0,none⟩))::s2::s3::s4::(.slice A' n' c')::s6::s7::s8::s9::s10::s11::s12::s13::G5::s15::s16::(.int .i64 q)::(.int .i64 k)::IY::s20::FP::Gx::Ea::s24::Eb::FQ::Eu::Ev::Ew::Ey::Ez::E5::E8::E9::E_::FB::GN::GQ::GR::GU::GV::GX::s43::s44::GY::GZ::Ga::Gb::s49::Gc::Gd::Gf::s53::Fa::Fb::Fe::Fg::Fh::Fj::Fp::Fq::Fu::Fv::Fw::Fx::FC::Fy::s68::Fz::F3::F4::s72::F5::F6::F7::F8::F9::GA::GD::GH::GI::s82::s83::GJ::GK::GL::s87::FD::FE::FH::FI::FJ::Ec::Ed::Ee::Ef::FR::FT::FU::BF::BG::BH::BI::BJ::BL::BM::BN::BO::BP::BQ::BR::BS::Ch::Ci::Cj::Ck::Cm::Cn::Co::Cq::Cr::Ct::Cw::Cx::BU::Ay::BX::BZ::Bf::Bg::CO::CP::CQ::DJ::DK::DL::DN::DR::DT::DU::DV::DW::DX::DY::DZ::Da::Db::Cy::Cz::Bh::Bj::Bl::Bn::Bo::Bp::Bq::Br::Bt::Az::Bu::Bv::Bw::Bz::B_::CB::IG::II::IJ::IK::IL::IQ::IU::IV::IW::ND::NG::NH::NI::NJ::NK::NM::NP::NQ::NR::NS::NT::NU::NV::Js::Jt::Ju::Jv::Jw::Jy::Jz::J2::J3::J4::J5::J6::J7::J8::J9::J_::KA::KC::KD::KF::KG::KH::KI::KJ::KL::KM::KN::KO::KP::Ir::Iu:: [])),[]⟩) (fun a _=>x.b.length-(intOf (a.tmps.getD 18 undef)).toNat) ?_ ?_
 ·exact⟨IG,II,IJ,IK,IL,IQ,IU,IV,IW,ND,NG,NH,NI,NJ,NK,NM,NP,NQ,NR,NS,NT,NU,NV,A0,n0,c0,0,Nat.zero_le _,by rw [List.take_zero,List.flatMap_nil,List.append_nil];exact HP.out,rfl⟩
 intro a wr hI
 clear HP IG II IJ IK IL IQ IU IV IW ND NG NH NI NJ NK NM NP NQ NR NS NT NU NV
 obtain⟨IG,II,IJ,IK,IL,IQ,IU,IV,IW,ND,NG,NH,NI,NJ,NK,NM,NP,NQ,NR,NS,NT,NU,NV,A,n,c,k,hk,hp,rfl⟩:=hI
 have HP:=AA hp
 clear hp
 refine Iz (fun K=> ∀(IG II IJ IK IL IQ IU IV IW ND NG NH NI NJ NK NM NP NQ NR NS NT NU NV:Value) (A':Option Addr) (n' c':Nat) (wx:World),k<x.b.length→A_ w2 wx A' n' c' (P++(x.b.take (k+1)).flatMap Nc)→K ⟨(List.toArray (s0::(.pointer (some ⟨w.heap.size,0,none⟩))::s2::s3::s4::(.slice A' n' c')::s6::s7::s8::s9::s10::s11::s12::s13::G5::s15::s16::(.int .i64 q)::(.int .i64 ((k:Int)+1))::IY::s20::FP::Gx::Ea::s24::Eb::FQ::Eu::Ev::Ew::Ey::Ez::E5::E8::E9::E_::FB::GN::GQ::GR::GU::GV::GX::s43::s44::GY::GZ::Ga::Gb::s49::Gc::Gd::Gf::s53::Fa::Fb::Fe::Fg::Fh::Fj::Fp::Fq::Fu::Fv::Fw::Fx::FC::Fy::s68::Fz::F3::F4::s72::F5::F6::F7::F8::F9::GA::GD::GH::GI::s82::s83::GJ::GK::GL::s87::FD::FE::FH::FI::FJ::Ec::Ed::Ee::Ef::FR::FT::FU::BF::BG::BH::BI::BJ::BL::BM::BN::BO::BP::BQ::BR::BS::Ch::Ci::Cj::Ck::Cm::Cn::Co::Cq::Cr::Ct::Cw::Cx::BU::Ay::BX::BZ::Bf::Bg::CO::CP::CQ::DJ::DK::DL::DN::DR::DT::DU::DV::DW::DX::DY::DZ::Da::Db::Cy::Cz::Bh::Bj::Bl::Bn::Bo::Bp::Bq::Br::Bt::Az::Bu::Bv::Bw::Bz::B_::CB::IG::II::IJ::IK::IL::IQ::IU::IV::IW::ND::NG::NH::NI::NJ::NK::NM::NP::NQ::NR::NS::NT::NU::NV::Js::Jt::Ju::Jv::Jw::Jy::Jz::J2::J3::J4::J5::J6::J7::J8::J9::J_::KA::KC::KD::KF::KG::KH::KI::KJ::KL::KM::KN::KO::KP::Ir::Iu:: [])),[]⟩ wx) ?_ ?_
 ·intro IG II IJ IK IL IQ IU IV IW ND NG NH NI NJ NK NM NP NQ NR NS NT NU NV A2 n2 c2 wy hlt hp2
  refine⟨⟨IG,II,IJ,IK,IL,IQ,IU,IV,IW,ND,NG,NH,NI,NJ,NK,NM,NP,NQ,NR,NS,NT,NU,NV,A2,n2,c2,k+1,hlt,hp2,rfl⟩,?_⟩
  show x.b.length-(intOf (.int .i64 ((k+1:Nat):Int))).toNat<x.b.length-(intOf (.int .i64 (k:Int))).toNat
  simp [intOf]
  omega
 intro K HK
 conv=>arg 2;whnf
 have Eo:=AA (C.out.Gg.trans (HP.out.2.mono C.out.Gg.size))
 have fT:=AA (C.out.blk.below HP.out.2 C.out.lt)
 have hsz:w2.heap.size≤wr.heap.size:=HP.out.2.size
 have hsw:w.heap.size<w2.heap.size:=C.out.lt
 have hhi:=C.out.hhi
 have hk0:(0:Int)≤k:=by omega
 obtain⟨bk,ok,Sb,Rl,rfl,_,Kg,hc0,hc1,Lp,hbs⟩:=Jd C.out.h7 HQ.out
 have hqi:(q:Int)<m.dat.length:=by have:=(List.getElem?_eq_some_iff.1 HQ.out).1;omega
 have hq0:(0:Int)≤q:=by omega
 have hc1:=(Eo.out.cell (p:=⟨bk,ok+q*2+1,none⟩) (show bk<w.heap.size by omega)).trans hc1
 have q0:=fT.out.q 6 rfl
 by_cases hlt:k<x.b.length
 ·obtain⟨y,hx⟩: ∃y,x.b[k]?=some y:=⟨_,List.getElem?_eq_getElem hlt⟩
  have Lr:(k:Int)<x.b.length:=by omega
  have Ux:x.b.length≤2147483647:=kS (List.mem_of_getElem? HQ.out) C.out.few
  have HXY:=AA hx
  have Ls:=AA (Dz (P) Nc hx)
  have KZ:=AA (DC (P) Nc hx)
  have K8:=Ta
  have HL2:Hid ((P++(x.b.take k).flatMap Nc).length+(Nc y).length≤140737488351232):=AA (by have:=KZ.out;rw [List.length_append] at this;omega)
  have vk:Hid ((Nc y).length≤1048576):=AA (by have:=KZ.out;rw [List.length_append] at this;omega)
  have Xl:=AA (List.mem_of_getElem? hx)
  clear hx
  have HI:=AA (ACj y wr)
  have hz:(BA (KX [y])).size≤10:=by rw [JY];exact(by decide:2≤10)
  obtain⟨b9,o9,rfl,yX,hcy⟩:=wH (Rd.below hbs Eo.out hhi) HXY.out
  clear HX
  go_wp2_with fail
  refine HI.out.mono ?_
  rintro e w5 ⟨hb5,rfl⟩
  have ow:=AA (HP.out.below hb5)
  generalize hd:BA (KX [y])=ds at hz⊢
  have X4:Hid (ds.data.toList=Nc y):=AA (by rw [←hd,LG];rfl)
  clear hb5 hd HI hcy
  go_wp2_with (at_builtin;refine SN w2 (w7:=w5) (r7:=(Value.slice A n c).ownBlock) _ rfl _ _ rfl A n c _ rfl ow.out (Aside.refl w5 _) _ _ X4.out rfl HL2.out ?_;intro A6 n6 c6 w6 h6 Rf;have Oa:=AA h6;clear h6 Rf)
  apply HK.out
  ·exact hlt
  ·rw [←Ls.out];exact Oa.out
 ·obtain rfl:k=x.b.length:=by omega
  have Qf:Hid (A_ w2 wr A n c (P++x.b.flatMap Nc)):=AA (by have:=HP.out;rw [List.take_length] at this;exact this)
  clear HP HK
  go_wp2_with fail
  apply HX.out
  exact Qf.out
namespace Rd
def wide {α:Type} (r:Rd α) (mk:Nat→List Value):Rd (List α) where
 z:=1
 R W lo hi cs xs:= ∃b,cs= [.slice (some ⟨b,0,none⟩) xs.length (xs.length+64)]∧lo≤b∧b<hi∧(∀(k:Nat) x,xs[k]?=some x→r.at_ W lo hi b (k*r.z) x)∧ ∀(q:Nat),xs.length≤q→q<xs.length+64→ ∀(j:Nat) u,(mk q)[j]?=some u→W.cell? ⟨b,q*r.z+j,none⟩=some u
 len h:=by obtain⟨b,rfl,_⟩:=h;rfl
 keep hk h:=by
  obtain⟨b,rfl,h1,h2,h3,h4⟩:=h
  exact⟨b,rfl,h1,h2,fun k x hx=>(h3 k x hx).keep ⟨h1,h2⟩ hk,fun q a c j u hu=>(hk _ h1 h2).trans (h4 q a c j u hu)⟩
 more h1 h2 h:=by
  obtain⟨b,rfl,h3,h4,h5,h6⟩:=h
  exact⟨b,rfl,by omega,by omega,fun k x hx=>(h5 k x hx).more h1 h2,h6⟩
end Rd
theorem Nr {α:Type} {r r':Rd α} {mk:Nat→List Value} {W:World} {lo hi:Nat} {cs:List Value} {xs:List α} (h:(r.wide mk).R W lo hi cs xs) (hz:r.z=r'.z) (hr: ∀cs x,r.R W lo hi cs x→r'.R W lo hi cs x):(r'.sl false).R W lo hi cs xs:=by
 obtain⟨b,rfl,h1,h2,h3,h4⟩:=h
 refine⟨_,_,rfl,⟨fun h=>(by cases h),by omega⟩,fun _=>⟨b,0,rfl,h1,h2,fun k x hx=> ?_⟩⟩
 obtain⟨cs,hc,hx⟩:=h3 k x hx
 rw [←hz,Nat.zero_add]
 exact⟨cs,hc,hr _ _ hx⟩
theorem Df {α:Type} {r:Rd α} {mk:Nat→List Value} {W:World} {lo hi:Nat} {cs:List Value} {xs:List α} (h:(r.wide mk).R W lo hi cs xs): ∃b,cs= [.slice (some ⟨b,0,none⟩) xs.length (xs.length+64)]∧lo≤b∧b<hi:=by
 obtain⟨b,rfl,h1,h2,_⟩:=h
 exact⟨b,rfl,h1,h2⟩
def Q7 (w:World) (g:Nat):Nat→List Value→World
 | _,[]=>w
 | i,v::vs=>Q7 (w.setCell ⟨g,i,none⟩ v) g (i+1) vs
def WH (xs:List Value):Nat→List Value→List Value
 | _,[]=>xs
 | i,v::vs=>WH (xs.set i v) (i+1) vs
theorem ZO {g:Nat} {e:TypeId}: ∀(vs:List Value) {w:World} {xs:List Value} {i:Nat},AV w g e xs→AV (Q7 w g i vs) g e (WH xs i vs)
 | [],_,_,_,h=>h
 | v::vs,_,_,i,h=>ZO vs (h.set i v)
theorem YE {g:Nat} {p:Addr} (hp:p.block≠g): ∀(vs:List Value) {w:World} {i:Nat},(Q7 w g i vs).cell? p=w.cell? p
 | [],_,_=>rfl
 | v::vs,w,i=>by
  show(Q7 (w.setCell ⟨g,i,none⟩ v) g (i+1) vs).cell? p=_
  rw [YE hp vs]
  have hb:=Below.heap_setCell w ⟨g,i,none⟩ v p.block hp
  simp only [World.cell?,hb]
theorem YF {g:Nat}: ∀(vs:List Value) {w:World} {i:Nat},(Q7 w g i vs).heap.size=w.heap.size
 | [],_,_=>rfl
 | v::vs,w,i=>by
  show(Q7 (w.setCell ⟨g,i,none⟩ v) g (i+1) vs).heap.size=_
  rw [YF vs]
  simp [World.setCell]
theorem C9 {B g:Nat} (hB:B≤g): ∀(vs:List Value) {w0 w:World} {i:Nat},Below B w0 w→Below B w0 (Q7 w g i vs)
 | [],_,_,_,h=>h
 | v::vs,_,_,_,h=>C9 hB vs (h.setCell hB _)
theorem eu: ∀(vs xs:List Value) (i:Nat),(WH xs i vs).length=xs.length
 | [],_,_=>rfl
 | v::vs,xs,i=>by
  show(WH (xs.set i v) (i+1) vs).length=_
  rw [eu vs,List.length_set]
theorem YG: ∀(vs xs:List Value) (i j:Nat),(j<i∨i+vs.length≤j)→(WH xs i vs)[j]?=xs[j]?
 | [],_,_,_,_=>rfl
 | v::vs,xs,i,j,h=>by
  show(WH (xs.set i v) (i+1) vs)[j]?=_
  rw [List.length_cons] at h
  rw [YG vs _ _ _ (by omega),List.getElem?_set_ne (by omega)]
theorem ku: ∀(vs xs:List Value) (i j:Nat),i+vs.length≤xs.length→j<vs.length→(WH xs i vs)[i+j]?=vs[j]?
 | [],_,_,_,_,h=>absurd h (Nat.not_lt_zero _)
 | v::vs,xs,i,j,hl,hj=>by
  show(WH (xs.set i v) (i+1) vs)[i+j]?=_
  rw [List.length_cons] at hl hj
  cases j with
  | zero=>
   rw [YG vs _ _ _ (by omega)]
   exact List.getElem?_set_self (by omega)
  | succ j=>
   have:=ku vs (xs.set i v) (i+1) j (by rw [List.length_set];omega) (by omega)
   rw [show i+1+j=i+(j+1)by omega] at this
   rw [this,List.getElem?_cons_succ]
theorem WX (xs:List Value) (a z j:Nat) (hj:j<z):((xs.drop a).take z)[j]?=xs[a+j]?:=by
 rw [List.getElem?_take,if_pos hj,List.getElem?_drop]
structure WP {α:Type} (r:Rd α) (mk:Nat→List Value) (w:World) (g:Nat) (e:TypeId) (L:List α) (xs:List Value) (k:Nat):Prop where
 len:xs.length=(L.length+64)*r.z
 hdr:AV w g e xs
 els: ∀(q:Nat) x,q<k→L[q]?=some x→r.R w (g+1) w.heap.size ((xs.drop (q*r.z)).take r.z) x
 mks: ∀(q:Nat),q<k→L.length≤q→(xs.drop (q*r.z)).take r.z=mk q
section
variable {α:Type} {r:Rd α} {mk:Nat→List Value} {w:World} {g:Nat} {e:TypeId} {L:List α} {xs:List Value} {k:Nat}
theorem WP.below (h:WP r mk w g e L xs k) {w':World} (hb:Below w.heap.size w w'):WP r mk w' g e L xs k:=
 ⟨h.len,h.hdr.below hb h.hdr.lt,fun q x hq hx=>r.more (Nat.le_refl _) hb.size (Rd.below (h.els q x hq hx) hb (Nat.le_refl _)),h.mks⟩
theorem YH (h:WP r mk w g e L xs k) {q:Nat} (hq:q<L.length+64):q*r.z+r.z≤xs.length:=by
 rw [h.len,←Nat.succ_mul]
 exact Nat.mul_le_mul_right _ hq
theorem WP.lay (h:WP r mk w g e L xs k) (hk:k<L.length+64) (vs:List Value) (hv:vs.length=r.z) (hz:0<r.z) (hel: ∀x,L[k]?=some x→r.R w (g+1) w.heap.size vs x) (hmk:L.length≤k→mk k=vs):
 WP r mk (Q7 w g (k*r.z) vs) g e L (WH xs (k*r.z) vs) (k+1):=by
 have hroom:=YH h hk
 have hself:((WH xs (k*r.z) vs).drop (k*r.z)).take r.z=vs:=by
  refine List.ext_getElem? fun j=> ?_
  by_cases hj:j<r.z
  ·rw [WX _ _ _ _ hj,ku vs xs _ j (by omega) (by omega)]
  ·rw [List.getElem?_take,if_neg hj,List.getElem?_eq_none (by omega)]
 have sP: ∀q,q≠k→((WH xs (k*r.z) vs).drop (q*r.z)).take r.z=(xs.drop (q*r.z)).take r.z:=fun q hq=>by
  refine List.ext_getElem? fun j=> ?_
  by_cases hj:j<r.z
  ·rw [WX _ _ _ _ hj,WX _ _ _ _ hj,YG]
   rcases Nat.lt_or_gt_of_ne hq with hq | hq
   ·left
    have:=Nat.mul_le_mul_right r.z (Nat.succ_le_of_lt hq)
    rw [Nat.succ_mul] at this
    omega
   ·right
    have:=Nat.mul_le_mul_right r.z (Nat.succ_le_of_lt hq)
    rw [Nat.succ_mul] at this
    omega
  ·rw [List.getElem?_take,if_neg hj,List.getElem?_take,if_neg hj]
 have hkeep: ∀ {cs:List Value} {x:α},r.R w (g+1) w.heap.size cs x→r.R (Q7 w g (k*r.z) vs) (g+1) (Q7 w g (k*r.z) vs).heap.size cs x:=fun hr=>by
  rw [YF]
  exact r.keep (fun p h1 _=>YE (by omega) vs) hr
 refine⟨by rw [eu,h.len],ZO vs h.hdr,fun q x hq hx=> ?_,fun q hq hl=> ?_⟩
 ·by_cases e:q=k
  ·subst e
   rw [hself]
   exact hkeep (hel x hx)
  ·rw [sP q e]
   exact hkeep (h.els q x (by omega) hx)
 ·by_cases e:q=k
  ·subst e
   rw [hself]
   exact(hmk hl).symm
  ·rw [sP q e]
   exact h.mks q (by omega) hl
theorem WP.done (h:WP r mk w g e L xs (L.length+64)):(r.wide mk).R w g w.heap.size [.slice (some ⟨g,0,none⟩) L.length (L.length+64)] L:=by
 have hcell: ∀(q j:Nat) u,((xs.drop (q*r.z)).take r.z)[j]?=some u→w.cell? ⟨g,q*r.z+j,none⟩=some u:=fun q j u hu=>by
  have hj:j<r.z:=by
   refine Decidable.byContradiction fun hn=> ?_
   rw [List.getElem?_take,if_neg hn] at hu
   cases hu
  rw [WX _ _ _ _ hj] at hu
  exact(h.hdr.cell _).trans hu
 refine⟨g,rfl,Nat.le_refl _,h.hdr.lt,fun q x hx=> ?_,fun q h1 h2 j u hu=> ?_⟩
 ·have hq:q<L.length:=(List.getElem?_eq_some_iff.1 hx).1
  exact⟨_,hcell q,r.more (Nat.le_succ _) (Nat.le_refl _) (h.els q x (by omega) hx)⟩
 ·rw [←h.mks q h2 h1] at hu
  exact hcell q j u hu
theorem WP.KV (h:WP r mk w g e L xs k) {i:Nat} (hi:i=k*r.z) (hk:k<L.length+64) (vs:List Value) (hv:vs.length=r.z) (hz:0<r.z) (hel: ∀x,L[k]?=some x→r.R w (g+1) w.heap.size vs x) (hmk:L.length≤k→mk k=vs):
 WP r mk (Q7 w g i vs) g e L (WH xs i vs) (k+1):=by
 subst hi
 exact h.lay hk vs hv hz hel hmk
theorem WP.Dp (h:WP r mk w g e L xs k) (hk:k<L.length+64) (i j:Nat) (hj:j<r.z) (hi:i=k*r.z+j): ∃old,w.cell? ⟨g,i,none⟩=some old:=by
 subst hi
 have hroom:=YH h hk
 exact⟨_,(h.hdr.cell _).trans (List.getElem?_eq_getElem (by omega))⟩
theorem WP.old (h:WP r mk w g e L xs k) (hk:k<L.length+64) {j:Nat} (hj:j<r.z): ∃old,w.cell? ⟨g,k*r.z+j,none⟩=some old:=by
 have hroom:=YH h hk
 exact⟨_,(h.hdr.cell _).trans (List.getElem?_eq_getElem (by omega))⟩
end
theorem M8 {P:Program} (t e:TypeId) (i:TypeInfo) (z:Value) (size bytes:Nat) (ht:P.underlying t=some (.slice e)) (hi:P.info? e=some i) (hz:i.zero=some z) (hs:i.size=size) (hb:i.bytes=bytes) (n:Int) (m:Nat) (hn:n=m) (hbytes:bytes*m≤281474976710656) (h63:m≤9223372036854775807):
 ∃Z:List Value,Z.length=m*size∧ ∀w:World,(Instr.makeSlice t (.int .i64 n) (.int .i64 n)).run P w= .ok (.slice (some ⟨w.heap.size,0,none⟩) m m) (w.alloc (.cells Z.toArray e)):=by
 subst hn
 refine⟨(madeCells z.cells (m*i.size)).toList,by rw [Array.length_toList,size_madeCells,hs],fun w=> ?_⟩
 have hb':(i.bytes:Int)*(m:Int)≤281474976710656:=by
  rw [hb]
  have h:((bytes*m:Nat):Int)≤281474976710656:=by omega
  rwa [Int.natCast_mul] at h
 have hr:=run_make (P:=P) w t e i z ht hi hz .i64 .i64 m m (by omega) (by omega) hb' (by omega)
 simp only [Int.toNat_natCast] at hr
 rw [hr,Array.toArray_toList]
theorem WP.start {α:Type} {r:Rd α} {mk:Nat→List Value} (w:World) (e:TypeId) (L:List α) {Z:List Value} (hZ:Z.length=(L.length+64)*r.z):WP r mk (w.alloc (.cells Z.toArray e)) w.heap.size e L Z 0:=
 ⟨hZ,AV.new w e Z,fun q x h=>absurd h (Nat.not_lt_zero _),fun q h=>absurd h (Nat.not_lt_zero _)⟩
def Ei (q:Nat):Int:=((1048576*9+q+1:Nat):Int)
def Qc (q:Nat):ByteArray:=⟨#[33]⟩++⟨(Lib.itoa (Ei q)).toArray⟩
def mkI (q:Nat):List Value:= [.int .i64 (Ei q)]
def mkB (q:Nat):List Value:= [qX q]
def mkS (q:Nat):List Value:= [.string (Qc q),.string ⟨#[]⟩]
def mkG (q:Nat):List Value:= [.int .u8 0,.bool false,.int .u64 (Ei q)]
def mkE (q:Nat):List Value:= [.string (Qc q),.int .i64 0]
def mkC (q:Nat):List Value:= [.int .u8 0,.int .i64 (Ei q),.slice none 0 0]
def mkF (q:Nat):List Value:= [.int .i64 (Ei q),.string ⟨#[]⟩,.slice none 0 0]
def mkD (q:Nat):List Value:= [.int .i64 (Ei q),.slice none 0 0]
def ZP:Rd (List Int):=Rd.i64.wide mkI
def aJ:Rd (List UInt8):=Rd.u8.wide mkB
def aK:Rd Av:=(Rd.u8.pair (Rd.i64.pair (ZP.pair Rd.unit))).via (fun x=>(x.op,x.a,x.l,()))
def wFn:Rd FL:=(Rd.i64.pair (Rd.str.pair ((aK.wide mkC).pair Rd.unit))).via (fun x=>(x.t,x.loc,x.code,()))
def fA:Rd EZ:=(Rd.i64.pair (aJ.pair Rd.unit)).via (fun x=>(x.at_,x.b,()))
theorem jR {α:Type} {r:Rd α} (h1:r.z=1) {W:World} {lo hi:Nat} {cs:List Value} {x:α} (h:r.R W lo hi cs x): ∃v,cs= [v]∧r.R W lo hi [v] x:=by
 have:=r.len h
 rw [h1] at this
 match cs,this,h with
 | [v],_,h=>exact⟨v,rfl,h⟩
theorem Td {W:World} {lo hi:Nat} {cs:List Value} {x:Av}:aK.R W lo hi cs x↔ ∃v:Value,cs= [bv x.op,Value.int .i64 x.a,v]∧Rd.Ej x.a∧ZP.R W lo hi [v] x.l:=by
 constructor
 ·rintro⟨c1,r1,rfl,h1,⟨c2,r2,rfl,h2,⟨c3,r3,rfl,h3,rfl⟩⟩⟩
  obtain⟨rfl,_⟩:=h1
  obtain⟨rfl,h2⟩:=h2
  obtain⟨v,rfl,h3⟩:=jR rfl h3
  exact⟨v,rfl,h2,h3⟩
 ·rintro⟨v,rfl,h2,h3⟩
  exact⟨[bv x.op],[Value.int .i64 x.a,v],rfl,⟨rfl,trivial⟩,⟨[Value.int .i64 x.a],[v],rfl,⟨rfl,h2⟩,⟨[v],[],rfl,h3,rfl⟩⟩⟩
theorem WY {W:World} {lo hi:Nat} {cs:List Value} {x:FL}:wFn.R W lo hi cs x↔ ∃v:Value,cs= [Value.int .i64 x.t,Value.string x.loc,v]∧Rd.Ej x.t∧Rd.U6 x.loc∧(aK.wide mkC).R W lo hi [v] x.code:=by
 constructor
 ·rintro⟨c1,r1,rfl,h1,⟨c2,r2,rfl,h2,⟨c3,r3,rfl,h3,rfl⟩⟩⟩
  obtain⟨rfl,h1⟩:=h1
  obtain⟨rfl,h2⟩:=h2
  obtain⟨v,rfl,h3⟩:=jR rfl h3
  exact⟨v,rfl,h1,h2,h3⟩
 ·rintro⟨v,rfl,h1,h2,h3⟩
  exact⟨[Value.int .i64 x.t],[Value.string x.loc,v],rfl,⟨rfl,h1⟩,⟨[Value.string x.loc],[v],rfl,⟨rfl,h2⟩,⟨[v],[],rfl,h3,rfl⟩⟩⟩
theorem Te {W:World} {lo hi:Nat} {cs:List Value} {x:EZ}:fA.R W lo hi cs x↔ ∃v:Value,cs= [Value.int .i64 x.at_,v]∧Rd.Ej x.at_∧aJ.R W lo hi [v] x.b:=by
 constructor
 ·rintro⟨c1,r1,rfl,h1,⟨c2,r2,rfl,h2,rfl⟩⟩
  obtain⟨rfl,h1⟩:=h1
  obtain⟨v,rfl,h2⟩:=jR rfl h2
  exact⟨v,rfl,h1,h2⟩
 ·rintro⟨v,rfl,h1,h2⟩
  exact⟨[Value.int .i64 x.at_],[v],rfl,⟨rfl,h1⟩,⟨[v],[],rfl,h2,rfl⟩⟩
theorem AC5 {W:World} {lo hi:Nat} {cs:List Value} {x:Av} (h:aK.R W lo hi cs x):I_.R W lo hi cs x:=by
 obtain⟨v,rfl,h1,h2⟩:=Td.1 h
 exact D9.2 ⟨v,rfl,h1,Nr h2 rfl (fun _ _ h=>h)⟩
theorem AFZ {W:World} {lo hi:Nat} {cs:List Value} {x:FL} (h:wFn.R W lo hi cs x):Tf.R W lo hi cs x:=by
 obtain⟨v,rfl,h1,h2,h3⟩:=WY.1 h
 exact Ob.2 ⟨v,rfl,h1,h2,Nr h3 rfl (fun _ _ h=>AC5 h)⟩
theorem AC6 {W:World} {lo hi:Nat} {cs:List Value} {x:EZ} (h:fA.R W lo hi cs x):Kz.R W lo hi cs x:=by
 obtain⟨v,rfl,h1,h2⟩:=Te.1 h
 exact N7.2 ⟨v,rfl,h1,Nr h2 rfl (fun _ _ h=>h)⟩
def M9 {α:Type} (r:Rd α) (x:α) (w:World) (e:Ending) (w':World):Prop:=Below w.heap.size w w'∧ ∃v,e= .returned v∧r.R w' w.heap.size w'.heap.size [v] x
theorem w_num (i:Nat) (hi:i≤10000100) (w:World):Calls prog 70 #[.int .i64 9,.int .i64 (i:Int)] w fun e w'=>w=w'∧e= .returned (.int .i64 (Ei i)):=by
 have h1:(0:Int)≤i:=by omega
 go_enter func70,ntmps70
 go_wp2_with fail
 go_ret
 exact⟨rfl,by unfold Ei;simp⟩
theorem U2 {hj:Nat} (i:Nat) (hi:i≤10000100) (w:World) (hE:Dt hj w):Calls prog 69 #[.int .i64 9,.int .i64 (i:Int)] w fun e w'=>Below w.heap.size w w'∧e= .returned (.string (Qc i)):=by
 have hb: -9223372036854775808≤Ei i∧Ei i≤9223372036854775807:=by unfold Ei;omega
 have Hc:=AA (strconv_Itoa (Ei i) hb.1 hb.2 w (hE.pow w (Below.refl _ _)))
 have hz:(⟨(Lib.itoa (Ei i)).toArray⟩:ByteArray).size≤20:=by show(List.toArray _).size≤20;rw [List.size_toArray];exact Dc _ ⟨hb.1,by omega⟩
 have HT:Hid (Qc i=⟨#[33]⟩++⟨(Lib.itoa (Ei i)).toArray⟩):=AA rfl
 generalize (⟨(Lib.itoa (Ei i)).toArray⟩:ByteArray)=ds at hz HT Hc
 clear hE hb
 go_enter func69,ntmps69
 go_wp2_with fail
 refine(w_num i hi w).mono ?_
 rintro e w1 ⟨rfl,rfl⟩
 go_wp2_with fail
 refine Hc.out.mono ?_
 rintro e w' ⟨rfl,kk,os,rfl⟩
 go_wp2_with fail
 go_ret
 exact⟨Lib.below_grow _ _ (Nat.le_refl _) kk os,by rw [HT.out];rfl⟩
theorem AAd:(prog.info? 3).map (fun i=>(i.size,i.bytes,i.zero.map fun z=>z.cells.size))=some (1,8,some 1):=by kernel_rfl
def wU (l:List Int) (w:World) (i:Value) (wr:World):Prop:= ∃(k:Nat) (xs:List Value),k≤l.length+64∧i= .int .i64 (k:Int)∧WP Rd.i64 mkI wr w.heap.size 3 l xs k∧Below w.heap.size w wr
theorem wV (A:Option Addr) (n c hi:Nat) (l:List Int) (w:World) (h:(Rd.i64.sl false).R w 0 hi [.slice A n c] l) (hhi:hi≤w.heap.size) (hle:l.length≤131072):
 Calls prog 22 #[.slice A n c] w (M9 ZP l w):=by
 have hn:=D5 h
 subst hn
 obtain⟨i0,z0,hi0,hz,hs',hb,hzz⟩:=info_parts' AAd
 obtain⟨Z,hZ,hmk⟩:=M8 (P:=prog) 23 3 i0 z0 1 8 underlying23 hi0 hz hs' hb ((l.length:Int)+64) (l.length+64) (by omega) (by omega) (by omega)
 have H:=AA h;have HZ:=AA hZ
 clear h hZ hi0 hz hs' hb hzz
 go_enter func22,ntmps22
 go_wp2_with fail
 go_loopw [4] (fun i wr=>wU l w i wr) (fun i _=>l.length+64-(intOf i).toNat)
 case atStart=>exact⟨0,Z,Nat.zero_le _,rfl,WP.start w _ l HZ.out,(Below.refl _ _).alloc (Nat.le_refl _) _⟩
 case round=>
  obtain⟨k,xs,hk,rfl,hwp,hbel⟩:=hrel
  have Iy:=AA hwp;have CF:=AA hbel
  clear hwp hbel hmk
  by_cases hlt:k<l.length+64
  ·have hk0:(0:Int)≤k:=by omega
   have SX:(k:Int)<l.length+64:=by omega
   by_cases hkn:k<l.length
   ·have SY:(k:Int)<l.length:=by omega
    obtain⟨x,hx⟩: ∃x,l[k]?=some x:=⟨_,List.getElem?_eq_getElem hkn⟩
    obtain⟨b,o,rfl,_,Kg,hc0,ACC⟩:=ints_at (Rd.below H.out CF.out hhi) hx
    have HX:=AA hx
    clear hx
    obtain⟨p0,hp0⟩:=Iy.out.Dp hlt (k) 0 (by decide) (Nat.mul_one k).symm
    have hf0:=Iy.out.hdr.frozen (k)
    go_wp2_with fail
    exact⟨⟨k+1,_,hlt,by go_num,Iy.out.KV (i:=k) (Nat.mul_one k).symm hlt [.int .i64 x] rfl (by decide) (fun x' hx'=>by rw [HX.out] at hx';injection hx' with hx';subst hx';exact⟨rfl,ACC⟩) (fun h=>by omega),C9 (Nat.le_refl _) [.int .i64 x] (i:=k) CF.out⟩,by simp [intOf];omega⟩
   ·have SY: ¬(k:Int)<l.length:=by omega
    have HC:=AA (w_num k (by omega) wr)
    obtain⟨y,hy,hy0,hy1⟩: ∃y,Ei k=y∧0≤y∧y<4611686018427387904:=⟨_,rfl,by unfold Ei;omega,by unfold Ei;omega⟩
    rw [hy] at HC
    have HY:=AA hy
    have hwr:IntKind.u64.wrap y=y:=by rw [IntKind.wrap_u64];omega
    clear hy
    obtain⟨p0,hp0⟩:=Iy.out.Dp hlt (k) 0 (by decide) (Nat.mul_one k).symm
    have hf0:=Iy.out.hdr.frozen (k)
    go_wp2_with fail
    refine HC.out.mono ?_
    rintro e w2 ⟨rfl,rfl⟩
    go_wp2_with fail
    exact⟨⟨k+1,_,hlt,by go_num,Iy.out.KV (i:=k) (Nat.mul_one k).symm hlt [.int .i64 y] rfl (by decide) (fun x' hx'=>absurd (List.getElem?_eq_some_iff.1 hx').1 hkn) (fun h=>by unfold mkI;rw [HY.out]),C9 (Nat.le_refl _) [.int .i64 y] (i:=k) CF.out⟩,by simp [intOf];omega⟩
  ·obtain rfl:k=l.length+64:=by omega
   have hge: ¬(((l.length+64:Nat):Int)<l.length+64):=by omega
   go_wp2_with fail
   go_ret
   exact⟨CF.out,_,rfl,Iy.out.done⟩
theorem wX:(prog.info? 5).map (fun i=>(i.size,i.bytes,i.zero.map fun z=>z.cells.size))=some (1,1,some 1):=by kernel_rfl
def pQ (l:List UInt8) (w:World) (i:Value) (wr:World):Prop:= ∃(k:Nat) (xs:List Value),k≤l.length+64∧i= .int .i64 (k:Int)∧WP Rd.u8 mkB wr w.heap.size 5 l xs k∧Below w.heap.size w wr
theorem AAe (A:Option Addr) (n c hi:Nat) (l:List UInt8) (w:World) (h:(Rd.u8.sl false).R w 0 hi [.slice A n c] l) (hhi:hi≤w.heap.size) (hle:l.length≤131072):
 Calls prog 125 #[.slice A n c] w (M9 aJ l w):=by
 have hn:=D5 h
 subst hn
 obtain⟨i0,z0,hi0,hz,hs',hb,hzz⟩:=info_parts' wX
 obtain⟨Z,hZ,hmk⟩:=M8 (P:=prog) 41 5 i0 z0 1 1 underlying41 hi0 hz hs' hb ((l.length:Int)+64) (l.length+64) (by omega) (by omega) (by omega)
 have H:=AA h;have HZ:=AA hZ
 clear h hZ hi0 hz hs' hb hzz
 go_enter func125,ntmps125
 go_wp2_with fail
 go_loopw [4] (fun i wr=>pQ l w i wr) (fun i _=>l.length+64-(intOf i).toNat)
 case atStart=>exact⟨0,Z,Nat.zero_le _,rfl,WP.start w _ l HZ.out,(Below.refl _ _).alloc (Nat.le_refl _) _⟩
 case round=>
  obtain⟨k,xs,hk,rfl,hwp,hbel⟩:=hrel
  have Iy:=AA hwp;have CF:=AA hbel
  clear hwp hbel hmk
  by_cases hlt:k<l.length+64
  ·have hk0:(0:Int)≤k:=by omega
   have SX:(k:Int)<l.length+64:=by omega
   by_cases hkn:k<l.length
   ·have SY:(k:Int)<l.length:=by omega
    obtain⟨x,hx⟩: ∃x,l[k]?=some x:=⟨_,List.getElem?_eq_getElem hkn⟩
    obtain⟨b,o,rfl,Kg,hc0⟩:=wH (Rd.below H.out CF.out hhi) hx
    have HX:=AA hx
    clear hx
    obtain⟨p0,hp0⟩:=Iy.out.Dp hlt (k) 0 (by decide) (Nat.mul_one k).symm
    have hf0:=Iy.out.hdr.frozen (k)
    go_wp2_with fail
    exact⟨⟨k+1,_,hlt,by go_num,Iy.out.KV (i:=k) (Nat.mul_one k).symm hlt [.int .u8 (x.toNat:Int)] rfl (by decide) (fun x' hx'=>by rw [HX.out] at hx';injection hx' with hx';subst hx';exact⟨rfl,trivial⟩) (fun h=>by omega),C9 (Nat.le_refl _) [.int .u8 (x.toNat:Int)] (i:=k) CF.out⟩,by simp [intOf];omega⟩
   ·have SY: ¬(k:Int)<l.length:=by omega
    obtain⟨p0,hp0⟩:=Iy.out.Dp hlt (k) 0 (by decide) (Nat.mul_one k).symm
    have hf0:=Iy.out.hdr.frozen (k)
    go_wp2_with fail
    exact⟨⟨k+1,_,hlt,by go_num,Iy.out.KV (i:=k) (Nat.mul_one k).symm hlt [.int .u8 ((279+7*(k:Int)+3)%256)] rfl (by decide) (fun x' hx'=>absurd (List.getElem?_eq_some_iff.1 hx').1 hkn) (fun h=>by unfold mkB qX;congr 2;omega),C9 (Nat.le_refl _) [.int .u8 ((279+7*(k:Int)+3)%256)] (i:=k) CF.out⟩,by simp [intOf];omega⟩
  ·obtain rfl:k=l.length+64:=by omega
   have hge: ¬(((l.length+64:Nat):Int)<l.length+64):=by omega
   go_wp2_with fail
   go_ret
   exact⟨CF.out,_,rfl,Iy.out.done⟩
theorem AAf:(prog.info? 51).map (fun i=>(i.size,i.bytes,i.zero.map fun z=>z.cells.size))=some (2,32,some 2):=by kernel_rfl
def wY (l:List Dl) (w:World) (i:Value) (wr:World):Prop:= ∃(k:Nat) (xs:List Value),k≤l.length+64∧i= .int .i64 (k:Int)∧WP Mr mkS wr w.heap.size 51 l xs k∧Below w.heap.size w wr
theorem AC7 (A:Option Addr) (n c hi:Nat) (l:List Dl) (w:World) (h:(Mr.sl false).R w 0 hi [.slice A n c] l) (hhi:hi≤w.heap.size) (hle:l.length≤131072) {hj:Nat} (hE:Dt hj w) (KQ:hj≤w.heap.size):
 Calls prog 21 #[.slice A n c] w (M9 (Mr.wide mkS) l w):=by
 have hn:=D5 h
 subst hn
 obtain⟨i0,z0,hi0,hz,hs',hb,hzz⟩:=info_parts' AAf
 obtain⟨Z,hZ,hmk⟩:=M8 (P:=prog) 22 51 i0 z0 2 32 underlying22 hi0 hz hs' hb ((l.length:Int)+64) (l.length+64) (by omega) (by omega) (by omega)
 have H:=AA h;have HZ:=AA hZ;have HE:=AA hE
 clear h hZ hi0 hz hs' hb hzz hE
 go_enter func21,ntmps21
 go_wp2_with fail
 go_loopw [4] (fun i wr=>wY l w i wr) (fun i _=>l.length+64-(intOf i).toNat)
 case atStart=>exact⟨0,Z,Nat.zero_le _,rfl,WP.start w _ l HZ.out,(Below.refl _ _).alloc (Nat.le_refl _) _⟩
 case round=>
  obtain⟨k,xs,hk,rfl,hwp,hbel⟩:=hrel
  have Iy:=AA hwp;have CF:=AA hbel
  clear hwp hbel hmk
  by_cases hlt:k<l.length+64
  ·have hk0:(0:Int)≤k:=by omega
   have SX:(k:Int)<l.length+64:=by omega
   by_cases hkn:k<l.length
   ·have SY:(k:Int)<l.length:=by omega
    obtain⟨x,hx⟩: ∃x,l[k]?=some x:=⟨_,List.getElem?_eq_getElem hkn⟩
    obtain⟨b,o,rfl,_,Kg,hc0,hc1,hs0,hs1⟩:=Ii (Rd.below H.out CF.out hhi) hx
    have HX:=AA hx
    clear hx
    obtain⟨p0,hp0⟩:=Iy.out.Dp hlt (k*2) 0 (by decide) rfl
    have hf0:=Iy.out.hdr.frozen (k*2)
    obtain⟨p1,hp1⟩:=Iy.out.Dp hlt (k*2+1) 1 (by decide) rfl
    have hf1:=Iy.out.hdr.frozen (k*2+1)
    go_wp2_with fail
    exact⟨⟨k+1,_,hlt,by go_num,Iy.out.KV (i:=k*2) rfl hlt [.string x.p,.string x.r] rfl (by decide) (fun x' hx'=>by rw [HX.out] at hx';injection hx' with hx';subst hx';exact Qk.2 ⟨rfl,hs0,hs1⟩) (fun h=>by omega),C9 (Nat.le_refl _) [.string x.p,.string x.r] (i:=k*2) CF.out⟩,by simp [intOf];omega⟩
   ·have SY: ¬(k:Int)<l.length:=by omega
    have HC:=AA (U2 k (by omega) wr (HE.out.to (CF.out.mono KQ)))
    obtain⟨ty,hy⟩: ∃ty,Qc k=ty:=⟨_,rfl⟩
    rw [hy] at HC
    have HY:=AA hy
    clear hy
    go_wp2_with fail
    refine HC.out.mono ?_
    rintro e w2 ⟨hb2,rfl⟩
    have Ri:=AA (Iy.out.below hb2)
    have HB2:=AA (CF.out.trans (hb2.mono CF.out.size))
    clear hb2
    obtain⟨p0,hp0⟩:=Ri.out.Dp hlt (k*2) 0 (by decide) rfl
    have hf0:=Ri.out.hdr.frozen (k*2)
    obtain⟨p1,hp1⟩:=Ri.out.Dp hlt (k*2+1) 1 (by decide) rfl
    have hf1:=Ri.out.hdr.frozen (k*2+1)
    go_wp2_with fail
    exact⟨⟨k+1,_,hlt,by go_num,Ri.out.KV (i:=k*2) rfl hlt [.string ty,.string ⟨#[]⟩] rfl (by decide) (fun x' hx'=>absurd (List.getElem?_eq_some_iff.1 hx').1 hkn) (fun h=>by unfold mkS;rw [HY.out]),C9 (Nat.le_refl _) [.string ty,.string ⟨#[]⟩] (i:=k*2) HB2.out⟩,by simp [intOf];omega⟩
  ·obtain rfl:k=l.length+64:=by omega
   have hge: ¬(((l.length+64:Nat):Int)<l.length+64):=by omega
   go_wp2_with fail
   go_ret
   exact⟨CF.out,_,rfl,Iy.out.done⟩
theorem jS:(prog.info? 82).map (fun i=>(i.size,i.bytes,i.zero.map fun z=>z.cells.size))=some (3,16,some 3):=by kernel_rfl
def fB (l:List Ep) (w:World) (i:Value) (wr:World):Prop:= ∃(k:Nat) (xs:List Value),k≤l.length+64∧i= .int .i64 (k:Int)∧WP JG mkG wr w.heap.size 82 l xs k∧Below w.heap.size w wr
theorem pR (A:Option Addr) (n c hi:Nat) (l:List Ep) (w:World) (h:(JG.sl false).R w 0 hi [.slice A n c] l) (hhi:hi≤w.heap.size) (hle:l.length≤131072):
 Calls prog 23 #[.slice A n c] w (M9 (JG.wide mkG) l w):=by
 have hn:=D5 h
 subst hn
 obtain⟨i0,z0,hi0,hz,hs',hb,hzz⟩:=info_parts' jS
 obtain⟨Z,hZ,hmk⟩:=M8 (P:=prog) 24 82 i0 z0 3 16 underlying24 hi0 hz hs' hb ((l.length:Int)+64) (l.length+64) (by omega) (by omega) (by omega)
 have H:=AA h;have HZ:=AA hZ
 clear h hZ hi0 hz hs' hb hzz
 go_enter func23,ntmps23
 go_wp2_with fail
 go_loopw [4] (fun i wr=>fB l w i wr) (fun i _=>l.length+64-(intOf i).toNat)
 case atStart=>exact⟨0,Z,Nat.zero_le _,rfl,WP.start w _ l HZ.out,(Below.refl _ _).alloc (Nat.le_refl _) _⟩
 case round=>
  obtain⟨k,xs,hk,rfl,hwp,hbel⟩:=hrel
  have Iy:=AA hwp;have CF:=AA hbel
  clear hwp hbel hmk
  by_cases hlt:k<l.length+64
  ·have hk0:(0:Int)≤k:=by omega
   have SX:(k:Int)<l.length+64:=by omega
   by_cases hkn:k<l.length
   ·have SY:(k:Int)<l.length:=by omega
    obtain⟨x,hx⟩: ∃x,l[k]?=some x:=⟨_,List.getElem?_eq_getElem hkn⟩
    obtain⟨b,o,rfl,_,Kg,hc0,hc1,hc2,hv64⟩:=K_ (Rd.below H.out CF.out hhi) hx
    have HX:=AA hx
    clear hx
    obtain⟨p0,hp0⟩:=Iy.out.Dp hlt (k*3) 0 (by decide) rfl
    have hf0:=Iy.out.hdr.frozen (k*3)
    obtain⟨p1,hp1⟩:=Iy.out.Dp hlt (k*3+1) 1 (by decide) rfl
    have hf1:=Iy.out.hdr.frozen (k*3+1)
    obtain⟨p2,hp2⟩:=Iy.out.Dp hlt (k*3+2) 2 (by decide) rfl
    have hf2:=Iy.out.hdr.frozen (k*3+2)
    go_wp2_with fail
    exact⟨⟨k+1,_,hlt,by go_num,Iy.out.KV (i:=k*3) rfl hlt [.int .u8 (x.l.toNat:Int),.bool x.m,.int .u64 (x.v:Int)] rfl (by decide) (fun x' hx'=>by rw [HX.out] at hx';injection hx' with hx';subst hx';exact Ns.2 ⟨rfl,hv64⟩) (fun h=>by omega),C9 (Nat.le_refl _) [.int .u8 (x.l.toNat:Int),.bool x.m,.int .u64 (x.v:Int)] (i:=k*3) CF.out⟩,by simp [intOf];omega⟩
   ·have SY: ¬(k:Int)<l.length:=by omega
    have HC:=AA (w_num k (by omega) wr)
    obtain⟨y,hy,hy0,hy1⟩: ∃y,Ei k=y∧0≤y∧y<4611686018427387904:=⟨_,rfl,by unfold Ei;omega,by unfold Ei;omega⟩
    rw [hy] at HC
    have HY:=AA hy
    have hwr:IntKind.u64.wrap y=y:=by rw [IntKind.wrap_u64];omega
    clear hy
    obtain⟨p0,hp0⟩:=Iy.out.Dp hlt (k*3) 0 (by decide) rfl
    have hf0:=Iy.out.hdr.frozen (k*3)
    obtain⟨p1,hp1⟩:=Iy.out.Dp hlt (k*3+1) 1 (by decide) rfl
    have hf1:=Iy.out.hdr.frozen (k*3+1)
    obtain⟨p2,hp2⟩:=Iy.out.Dp hlt (k*3+2) 2 (by decide) rfl
    have hf2:=Iy.out.hdr.frozen (k*3+2)
    go_wp2_with fail
    refine HC.out.mono ?_
    rintro e w2 ⟨rfl,rfl⟩
    go_wp2_with fail
    exact⟨⟨k+1,_,hlt,by go_num,Iy.out.KV (i:=k*3) rfl hlt [.int .u8 0,.bool false,.int .u64 y] rfl (by decide) (fun x' hx'=>absurd (List.getElem?_eq_some_iff.1 hx').1 hkn) (fun h=>by unfold mkG;rw [HY.out]),C9 (Nat.le_refl _) [.int .u8 0,.bool false,.int .u64 y] (i:=k*3) CF.out⟩,by simp [intOf];omega⟩
  ·obtain rfl:k=l.length+64:=by omega
   have hge: ¬(((l.length+64:Nat):Int)<l.length+64):=by omega
   go_wp2_with fail
   go_ret
   exact⟨CF.out,_,rfl,Iy.out.done⟩
theorem jT:(prog.info? 61).map (fun i=>(i.size,i.bytes,i.zero.map fun z=>z.cells.size))=some (2,24,some 2):=by kernel_rfl
def fC (l:List LA) (w:World) (i:Value) (wr:World):Prop:= ∃(k:Nat) (xs:List Value),k≤l.length+64∧i= .int .i64 (k:Int)∧WP M_ mkE wr w.heap.size 61 l xs k∧Below w.heap.size w wr
theorem pU (A:Option Addr) (n c hi:Nat) (l:List LA) (w:World) (h:(M_.sl false).R w 0 hi [.slice A n c] l) (hhi:hi≤w.heap.size) (hle:l.length≤131072) {hj:Nat} (hE:Dt hj w) (KQ:hj≤w.heap.size):
 Calls prog 26 #[.slice A n c] w (M9 (M_.wide mkE) l w):=by
 have hn:=D5 h
 subst hn
 obtain⟨i0,z0,hi0,hz,hs',hb,hzz⟩:=info_parts' jT
 obtain⟨Z,hZ,hmk⟩:=M8 (P:=prog) 27 61 i0 z0 2 24 underlying27 hi0 hz hs' hb ((l.length:Int)+64) (l.length+64) (by omega) (by omega) (by omega)
 have H:=AA h;have HZ:=AA hZ;have HE:=AA hE
 clear h hZ hi0 hz hs' hb hzz hE
 go_enter func26,ntmps26
 go_wp2_with fail
 go_loopw [4] (fun i wr=>fC l w i wr) (fun i _=>l.length+64-(intOf i).toNat)
 case atStart=>exact⟨0,Z,Nat.zero_le _,rfl,WP.start w _ l HZ.out,(Below.refl _ _).alloc (Nat.le_refl _) _⟩
 case round=>
  obtain⟨k,xs,hk,rfl,hwp,hbel⟩:=hrel
  have Iy:=AA hwp;have CF:=AA hbel
  clear hwp hbel hmk
  by_cases hlt:k<l.length+64
  ·have hk0:(0:Int)≤k:=by omega
   have SX:(k:Int)<l.length+64:=by omega
   by_cases hkn:k<l.length
   ·have SY:(k:Int)<l.length:=by omega
    obtain⟨x,hx⟩: ∃x,l[k]?=some x:=⟨_,List.getElem?_eq_getElem hkn⟩
    obtain⟨b,o,rfl,_,Kg,hc0,hc1,hs0,n_⟩:=LB (Rd.below H.out CF.out hhi) hx
    have HX:=AA hx
    clear hx
    obtain⟨p0,hp0⟩:=Iy.out.Dp hlt (k*2) 0 (by decide) rfl
    have hf0:=Iy.out.hdr.frozen (k*2)
    obtain⟨p1,hp1⟩:=Iy.out.Dp hlt (k*2+1) 1 (by decide) rfl
    have hf1:=Iy.out.hdr.frozen (k*2+1)
    go_wp2_with fail
    exact⟨⟨k+1,_,hlt,by go_num,Iy.out.KV (i:=k*2) rfl hlt [.string x.n,.int .i64 x.f] rfl (by decide) (fun x' hx'=>by rw [HX.out] at hx';injection hx' with hx';subst hx';exact Wj.2 ⟨rfl,hs0,n_⟩) (fun h=>by omega),C9 (Nat.le_refl _) [.string x.n,.int .i64 x.f] (i:=k*2) CF.out⟩,by simp [intOf];omega⟩
   ·have SY: ¬(k:Int)<l.length:=by omega
    have HC:=AA (U2 k (by omega) wr (HE.out.to (CF.out.mono KQ)))
    obtain⟨ty,hy⟩: ∃ty,Qc k=ty:=⟨_,rfl⟩
    rw [hy] at HC
    have HY:=AA hy
    clear hy
    go_wp2_with fail
    refine HC.out.mono ?_
    rintro e w2 ⟨hb2,rfl⟩
    have Ri:=AA (Iy.out.below hb2)
    have HB2:=AA (CF.out.trans (hb2.mono CF.out.size))
    clear hb2
    obtain⟨p0,hp0⟩:=Ri.out.Dp hlt (k*2) 0 (by decide) rfl
    have hf0:=Ri.out.hdr.frozen (k*2)
    obtain⟨p1,hp1⟩:=Ri.out.Dp hlt (k*2+1) 1 (by decide) rfl
    have hf1:=Ri.out.hdr.frozen (k*2+1)
    go_wp2_with fail
    exact⟨⟨k+1,_,hlt,by go_num,Ri.out.KV (i:=k*2) rfl hlt [.string ty,.int .i64 0] rfl (by decide) (fun x' hx'=>absurd (List.getElem?_eq_some_iff.1 hx').1 hkn) (fun h=>by unfold mkE;rw [HY.out]),C9 (Nat.le_refl _) [.string ty,.int .i64 0] (i:=k*2) HB2.out⟩,by simp [intOf];omega⟩
  ·obtain rfl:k=l.length+64:=by omega
   have hge: ¬(((l.length+64:Nat):Int)<l.length+64):=by omega
   go_wp2_with fail
   go_ret
   exact⟨CF.out,_,rfl,Iy.out.done⟩
end Go.Proofs.YtebgikflpgcnlaaGreatDoor
