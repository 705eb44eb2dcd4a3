/- Part 34 of the proof: DecT DecV -/
import Derived.Test.YtejbcledkhioeaaGreatDoorQ33
namespace Go.Proofs.YtejbcledkhioeaaGreatDoor
set_option linter.unusedVariables false
set_option linter.unusedSimpArgs false
set_option maxRecDepth 100000
set_option maxHeartbeats 4000000
open Go.RowKit Tryz
theorem qZ (w:World) (s:ByteArray):(Rd.u8.sl false).R (Lib.bytesWorld w 5 s) w.heap.size (w.heap.size+1) [.slice (some ⟨w.heap.size,0,none⟩) s.size (grownCap w s.size 0 5)] s.data.toList:=by
 have hl:s.data.toList.length=s.size:=by simp
 refine⟨some ⟨w.heap.size,0,none⟩,grownCap w s.size 0 5,by rw [hl],⟨fun h=>(by cases h),(by rw [hl];exact grownCap_ge _ _ _ _)⟩,fun hn=>⟨w.heap.size,0,rfl,Nat.le_refl _,Nat.lt_succ_self _,fun k x hx=>⟨[bv x],fun j u hu=> ?_,rfl,trivial⟩⟩⟩
 have hk:=(List.getElem?_eq_some_iff.1 hx).1
 cases j with
 | zero=>
  injection hu with hu
  subst hu
  have:=Lib.bytesWorld_cell w 5 s k (by omega)
  rw [show(0+k*Rd.u8.z+0)=k by show 0+k*1+0=k;omega,this]
  rw [List.getD_eq_getElem?_getD,hx]
  rfl
 | succ j=>simp at hu
theorem AAC (args:Array Value) (W:World):(callFunc 109 args).run prog W= .ok (.enter 109 args) W:=by kernel_rfl
def AAD (ds:List EU) (x:Int):Int:=if ds.length=0 then 0 else match ds[ds.length-1]? with | none=>0 | some y=>Ae (decide (y.at_+y.b.length<x)) 18
theorem lt_of_cell {W:World} {a:Addr} {v:Value} (h:W.cell? a=some v):a.block<W.heap.size:=by
 rcases Nat.lt_or_ge a.block W.heap.size with h2 | h2
 ·exact h2
 ·unfold World.cell? at h
  rw [Array.getElem?_eq_none h2] at h
  cases h
theorem AAE (u:Nat) (hu:u<18446744073709551616) (pl:Int) (g2 gr rg og fi:Nat) (hf:fi≤64) (A:Option Addr) (c lo hi:Nat) (ds:List EU) (W:World) (hg2:W.cell? ⟨g2,0,none⟩=some (.int .i64 ((fi*4096:Nat):Int))) (hgr:W.cell? ⟨gr,0,none⟩=some (.pointer (some ⟨rg,0,none⟩))) (h0:W.cell? ⟨rg,0,none⟩=some (.pointer (some ⟨og,0,none⟩))) (h6:W.cell? ⟨og,6,none⟩=some (.slice A ds.length c)) (h3:W.cell? ⟨og,3,none⟩=some (.int .i64 (fi:Int)))
 (hr:(JC.sl false).R W lo hi [.slice A ds.length c] ds) (hok: ∀y∈ds,0≤y.at_∧y.at_≤262144∧y.b.length≤262144) (hk:ds.length≤1000000):
 Calls prog 109 #[.int .u64 (u:Int),.int .i64 pl,.pointer (some ⟨g2,0,none⟩),.pointer (some ⟨gr,0,none⟩)] W (fun e w'=>Below W.heap.size W w'∧((e= .returned (.tuple #[])∧u≤fi*4096∧AAD ds (u:Int)=0)∨Zn e)):=by
 obtain⟨rm,hrm⟩: ∃rm:Nat,fi*4096=rm:=⟨_,rfl⟩
 rw [hrm] at hg2
 have hwr:IntKind.u64.wrap (rm:Int)=rm:=by rw [IntKind.wrap_u64];omega
 have wN:=AA hrm
 by_cases hl:u≤rm
 case neg=>
  have d1:decide ((u:Int)≤rm)=false:=decide_eq_false (by omega)
  have d2: ¬(u:Int)≤rm:=by omega
  clear hl hrm hr hok hgr h0 h6 h3
  go_enter func109,ntmps109
  go_wp2_with fail
  refine(Ah _ _ _).mono ?_
  rintro e w' ⟨rfl,rfl⟩
  go_wp2_with fail
  exact⟨rfl,Below.refl _ _,.inr ⟨_,_,by decide,rfl⟩⟩
 have d1:decide ((u:Int)≤rm)=true:=decide_eq_true (by omega)
 have d2:(u:Int)≤rm:=by omega
 have hwu:IntKind.i64.wrap (u:Int)=u:=by rw [IntKind.wrap_i64];omega
 have HL:=AA hl;have HR:=AA hr;have Qz:=AA hok
 have HST:=AA (j5 rg og (fi:Int) (u:Int) A ds.length c lo hi ds pl W.drew h0 h3 hr (by omega) (by omega) (by omega) hok hk)
 clear hl hrm hr hok h3
 go_enter func109,ntmps109
 go_wp2_with fail
 refine(Af _ _ _).mono ?_
 rintro e w' ⟨rfl,rfl⟩
 go_upto_region 1 with fail
 refine Aa ?_
 refine wp_region_held_drew (S:=fun X=>X.cell? ⟨gr,0,none⟩=some (.pointer (some ⟨rg,0,none⟩))∧X.cell? ⟨rg,0,none⟩=some (.pointer (some ⟨og,0,none⟩))∧X.cell? ⟨og,6,none⟩=some (.slice A ds.length c)) (by kernel_rfl) ⟨hgr,h0,h6⟩ (fun hHeld=> ?_)
 have HDW:Hid (Below W.heap.size W W.drew):=AA (Below.refl _ _).drew
 have hdz:W.drew.heap.size=W.heap.size:=rfl
 have hS:Hid (∀X,Below W.heap.size W X→X.cell? ⟨gr,0,none⟩=some (.pointer (some ⟨rg,0,none⟩))∧X.cell? ⟨rg,0,none⟩=some (.pointer (some ⟨og,0,none⟩))∧X.cell? ⟨og,6,none⟩=some (.slice A ds.length c)):=AA (fun X hX=>⟨(hX.cell (lt_of_cell hgr)).trans hgr,(hX.cell (lt_of_cell h0)).trans h0,(hX.cell (lt_of_cell h6)).trans h6⟩)
 generalize W.drew=CP at*
 clear hgr h0 h6
 refine AB (i:=0) (v:= ?_) rfl (by kernel_rfl) (fun _ _ _ h=>h) (by intro w hSw;(try dsimp only at hSw);go_simp;try with_reducible rfl) hHeld ?_
 refine AB (i:=1) (v:= ?_) rfl (by kernel_rfl) (fun _ _ _ h=>h) (by intro w hSw;(try dsimp only at hSw);go_simp;try with_reducible rfl) hHeld ?_
 refine AB (i:=2) (v:= ?_) rfl (by kernel_rfl) (fun _ _ _ h=>h) (by intro w hSw;(try dsimp only at hSw);go_simp;try with_reducible rfl) hHeld ?_
 refine AB (i:=3) (v:= ?_) rfl (by kernel_rfl) (fun _ _ _ h=>h) (by intro w hSw;(try dsimp only at hSw);go_simp;try with_reducible rfl) hHeld ?_
 refine AB (i:=4) (v:= ?_) rfl (by kernel_rfl) (fun _ _ _ h=>h) (by intro w hSw;(try dsimp only at hSw);go_simp;try with_reducible rfl) hHeld ?_
 refine AB (i:=5) (v:= ?_) rfl (by kernel_rfl) (fun _ _ _ h=>h) (by intro w hSw;(try dsimp only at hSw);go_simp;try with_reducible rfl) hHeld ?_
 refine AB (i:=6) (v:= ?_) rfl (by kernel_rfl) (fun _ _ _ h=>h) (by intro w hSw;(try dsimp only at hSw);go_simp;try with_reducible rfl) hHeld ?_
 refine AB (i:=7) (v:= ?_) rfl (by kernel_rfl) (fun _ _ _ h=>h) (by intro w hSw;(try dsimp only at hSw);go_simp;try with_reducible rfl) hHeld ?_
 refine AB (i:=8) (v:= ?_) rfl (by kernel_rfl) (fun _ _ _ h=>h) (by intro w hSw;(try dsimp only at hSw);go_simp;try with_reducible rfl) hHeld ?_
 refine AB (i:=9) (v:= ?_) rfl (by kernel_rfl) (fun _ _ _ h=>h) (by intro w hSw;(try dsimp only at hSw);go_simp;try with_reducible rfl) hHeld ?_
 refine AB (i:=10) (v:= ?_) rfl (by kernel_rfl) (fun _ _ _ h=>h) (by intro w hSw;(try dsimp only at hSw);go_simp;try with_reducible rfl) hHeld ?_
 refine AB (i:=11) (v:= ?_) rfl (by kernel_rfl) (fun _ _ _ h=>h) (by intro w hSw;(try dsimp only at hSw);go_simp;try with_reducible rfl) hHeld ?_
 refine AB (i:=12) (v:= ?_) rfl (by kernel_rfl) (fun _ _ _ h=>h) (by intro w hSw;(try dsimp only at hSw);go_simp;try with_reducible rfl) hHeld ?_
 refine AB (i:=13) (v:= ?_) rfl (by kernel_rfl) (fun _ _ _ h=>h) (by intro w hSw;(try dsimp only at hSw);go_simp;try with_reducible rfl) hHeld ?_
 refine wpAnyH_ready (rs:= [14]) (by kernel_rfl) (by simp) ?_
 refine AllReadyH.cons rfl (fun K hK=> ?_) AllReadyH.nil
 go_simp
 go_at_call 110
 refine HST.out.mono ?_
 rintro e w2 ⟨hb,D5⟩
 have HB:=AA (HDW.out.trans (hb.mono (Nat.le_of_eq hdz.symm)))
 rcases D5.OW with⟨h0,rfl⟩ | ⟨en,a1,h1,rfl⟩
 case inr=>exact BG.thrown (fun ax hd=>And.intro hd (And.intro HB.out (Or.inr ⟨_,_,h1,rfl⟩)))
 have HZ:Hid (AAD ds (u:Int)=0):=AA (AQ h0).2
 refine hK.out _ _ (hS.out _ HB.out) (fun Ag=> ?_)
 clear hK K hb D5 h0
 refine wpAnyH_done (by kernel_rfl) ?_ _
 refine BG.normal ?_
 go_wp2_with fail
 go_end0
 first | exact⟨HB.out,.inl ⟨rfl,by rw [wN.out];exact HL.out,HZ.out⟩⟩ | exact⟨HB.out,.inl ⟨by rw [wN.out];exact HL.out,HZ.out⟩⟩
set_option maxRecDepth 1000000 in
theorem vQ {R:RC} {m:AP} {fs:List GR} {ds:List EU} {all:Int} (hfl:fs.length≤128) {p0:Nat} {b0:List UInt8} {M:Nat} (hM:M≤64) {Wt:World} (HP:Hid (xH R m fs ds all p0 b0 0 Wt))
 (s0 s2 s3 s4 s5 s8 s9 s10 s11 s12 s13 Fw s15 s16 En EN GZ s20 Eo Ga EO s24 EP Ep Ea Eb Ec Ed E9 E_ FB FC FD FE G7 G8 G9 G_ Hf Hl s43 s44 Ho Hq Hw GI s49 Hz H_ IB s53 Gh Gi Gj Gl Gm Gn Gp Gq Gs Gt Gu Gv Ee Er s68 Bz B_ CB CF CG CJ BL BF BM BN BO BP BQ BR BS u6 u7 Ox u72 u73 Oy u75 Oz O1 O4 O5 O6 O7 Tj Tk Tn Tp O8 Xy Xz X0 X3 X4 X5 u93 X6 X7 X8 X9 X_ YA IY IZ Ia Ib Ic u105 Ie Ig Ih Ii Ij Ik Il Im Io Ip D9 D_ EA:Value) (Q:Exit→Act→World→Prop) (HT:Hid (∀(en a1:Int) (ax:Act) (wx:World),en≠0→ax.defers= []→Keep (KD R.B R.og R.rg R.Z0) R.w0 wx→Q (.panic (thrown en a1)) ax wx))
 (HX:Hid (∀(u6 u7 Ox u72 u73 Oy u75 Oz O1 O4 O5 O6 O7 Tj Tk Tn Tp O8 Xy Xz X0 X3 X4 X5 u93 X6 X7 X8 X9 X_ YA IY IZ Ia Ib Ic u105 Ie Ig Ih Ii Ij Ik Il Im Io Ip D9 D_ EA:Value) (wx:World),xH R m fs ds all p0 b0 M wx→Q (.exit 4) ⟨(List.toArray (s0::(.pointer (some ⟨R.gr,0,none⟩))::s2::s3::s4::s5::u6::u7::s8::s9::s10::s11::s12::s13::Fw::s15::s16::En::EN::GZ::s20::Eo::Ga::EO::s24::EP::Ep::Ea::Eb::Ec::Ed::E9::E_::FB::FC::FD::FE::G7::G8::G9::G_::Hf::Hl::s43::s44::Ho::Hq::Hw::GI::s49::Hz::H_::IB::s53::Gh::Gi::Gj::Gl::Gm::Gn::Gp::Gq::Gs::Gt::Gu::Gv::Ee::Er::s68::(.int .i64 (M:Int))::(.int .i64 (M:Int))::Ox::u72::u73::Oy::u75::Oz::O1::O4::O5::O6::O7::Tj::Tk::Tn::Tp::O8::Xy::Xz::X0::X3::X4::X5::u93::X6::X7::X8::X9::X_::YA::IY::IZ::Ia::Ib::Ic::u105::Ie::Ig::Ih::Ii::Ij::Ik::Il::Im::Io::Ip::D9::D_::EA::Bz::B_::CB::CF::CG::CJ::BL::BF::BM::BN::BO::BP::BQ::BR::BS:: [])),[]⟩ wx)):
 Code.wp prog (Code.loop (dA 2)) Q ⟨(List.toArray (s0::(.pointer (some ⟨R.gr,0,none⟩))::s2::s3::s4::s5::u6::u7::s8::s9::s10::s11::s12::s13::Fw::s15::s16::En::EN::GZ::s20::Eo::Ga::EO::s24::EP::Ep::Ea::Eb::Ec::Ed::E9::E_::FB::FC::FD::FE::G7::G8::G9::G_::Hf::Hl::s43::s44::Ho::Hq::Hw::GI::s49::Hz::H_::IB::s53::Gh::Gi::Gj::Gl::Gm::Gn::Gp::Gq::Gs::Gt::Gu::Gv::Ee::Er::s68::(.int .i64 (M:Int))::(.int .i64 0)::Ox::u72::u73::Oy::u75::Oz::O1::O4::O5::O6::O7::Tj::Tk::Tn::Tp::O8::Xy::Xz::X0::X3::X4::X5::u93::X6::X7::X8::X9::X_::YA::IY::IZ::Ia::Ib::Ic::u105::Ie::Ig::Ih::Ii::Ij::Ik::Il::Im::Io::Ip::D9::D_::EA::Bz::B_::CB::CF::CG::CJ::BL::BF::BM::BN::BO::BP::BQ::BR::BS:: [])),[]⟩ Wt:=by
 refine wp_loop (fun a wx=> ∃(U:Nat→Value) (k:Nat),k≤M∧xH R m fs ds all p0 b0 k wx∧a=⟨(List.toArray (s0::(.pointer (some ⟨R.gr,0,none⟩))::s2::s3::s4::s5::(U 0)::(U 1)::s8::s9::s10::s11::s12::s13::Fw::s15::s16::En::EN::GZ::s20::Eo::Ga::EO::s24::EP::Ep::Ea::Eb::Ec::Ed::E9::E_::FB::FC::FD::FE::G7::G8::G9::G_::Hf::Hl::s43::s44::Ho::Hq::Hw::GI::s49::Hz::H_::IB::s53::Gh::Gi::Gj::Gl::Gm::Gn::Gp::Gq::Gs::Gt::Gu::Gv::Ee::Er::s68::(.int .i64 (M:Int))::(.int .i64 (k:Int))::(U 2)::(U 3)::(U 4)::(U 5)::(U 6)::(U 7)::(U 8)::(U 9)::(U 10)::(U 11)::(U 12)::(U 13)::(U 14)::(U 15)::(U 16)::(U 17)::(U 18)::(U 19)::(U 20)::(U 21)::(U 22)::(U 23)::(U 24)::(U 25)::(U 26)::(U 27)::(U 28)::(U 29)::(U 30)::(U 31)::(U 32)::(U 33)::(U 34)::(U 35)::(U 36)::(U 37)::(U 38)::(U 39)::(U 40)::(U 41)::(U 42)::(U 43)::(U 44)::(U 45)::(U 46)::(U 47)::(U 48)::(U 49)::Bz::B_::CB::CF::CG::CJ::BL::BF::BM::BN::BO::BP::BQ::BR::BS:: [])),[]⟩) (fun a _=>M-(intOf (a.tmps.getD 70 undef)).toNat) ?_ ?_
 ·exact⟨fun i=> [u6,u7,Ox,u72,u73,Oy,u75,Oz,O1,O4,O5,O6,O7,Tj,Tk,Tn,Tp,O8,Xy,Xz,X0,X3,X4,X5,u93,X6,X7,X8,X9,X_,YA,IY,IZ,Ia,Ib,Ic,u105,Ie,Ig,Ih,Ii,Ij,Ik,Il,Im,Io,Ip,D9,D_,EA].getD i undef,0,Nat.zero_le _,HP.out,rfl⟩
 intro a wr hI
 clear HP u6 u7 Ox u72 u73 Oy u75 Oz O1 O4 O5 O6 O7 Tj Tk Tn Tp O8 Xy Xz X0 X3 X4 X5 u93 X6 X7 X8 X9 X_ YA IY IZ Ia Ib Ic u105 Ie Ig Ih Ii Ij Ik Il Im Io Ip D9 D_ EA
 obtain⟨U,k,hk,hp,rfl⟩:=hI
 have HP:=AA hp
 clear hp
 refine Qc (fun K=> ∀(u6 u7 Ox u72 u73 Oy u75 Oz O1 O4 O5 O6 O7 Tj Tk Tn Tp O8 Xy Xz X0 X3 X4 X5 u93 X6 X7 X8 X9 X_ YA IY IZ Ia Ib Ic u105 Ie Ig Ih Ii Ij Ik Il Im Io Ip D9 D_ EA:Value) (wx:World),k<M→xH R m fs ds all p0 b0 (k+1) wx→K ⟨(List.toArray (s0::(.pointer (some ⟨R.gr,0,none⟩))::s2::s3::s4::s5::u6::u7::s8::s9::s10::s11::s12::s13::Fw::s15::s16::En::EN::GZ::s20::Eo::Ga::EO::s24::EP::Ep::Ea::Eb::Ec::Ed::E9::E_::FB::FC::FD::FE::G7::G8::G9::G_::Hf::Hl::s43::s44::Ho::Hq::Hw::GI::s49::Hz::H_::IB::s53::Gh::Gi::Gj::Gl::Gm::Gn::Gp::Gq::Gs::Gt::Gu::Gv::Ee::Er::s68::(.int .i64 (M:Int))::(.int .i64 ((k:Int)+1))::Ox::u72::u73::Oy::u75::Oz::O1::O4::O5::O6::O7::Tj::Tk::Tn::Tp::O8::Xy::Xz::X0::X3::X4::X5::u93::X6::X7::X8::X9::X_::YA::IY::IZ::Ia::Ib::Ic::u105::Ie::Ig::Ih::Ii::Ij::Ik::Il::Im::Io::Ip::D9::D_::EA::Bz::B_::CB::CF::CG::CJ::BL::BF::BM::BN::BO::BP::BQ::BR::BS:: [])),[]⟩ wx) ?_ ?_
 ·intro u6 u7 Ox u72 u73 Oy u75 Oz O1 O4 O5 O6 O7 Tj Tk Tn Tp O8 Xy Xz X0 X3 X4 X5 u93 X6 X7 X8 X9 X_ YA IY IZ Ia Ib Ic u105 Ie Ig Ih Ii Ij Ik Il Im Io Ip D9 D_ EA wy hlt hp2
  refine⟨⟨fun i=> [u6,u7,Ox,u72,u73,Oy,u75,Oz,O1,O4,O5,O6,O7,Tj,Tk,Tn,Tp,O8,Xy,Xz,X0,X3,X4,X5,u93,X6,X7,X8,X9,X_,YA,IY,IZ,Ia,Ib,Ic,u105,Ie,Ig,Ih,Ii,Ij,Ik,Il,Im,Io,Ip,D9,D_,EA].getD i undef,k+1,hlt,hp2,rfl⟩,?_⟩
  show M-(intOf (.int .i64 ((k+1:Nat):Int))).toNat<M-(intOf (.int .i64 (k:Int))).toNat
  simp [intOf]
  omega
 intro K HK
 conv=>arg 2;whnf
 have hk0:(0:Int)≤k:=by omega
 by_cases hlt:k<M
 ·have KU:(k:Int)<M:=by omega
  clear HX
  obtain⟨es,q,hh,hl,ha,he⟩:=HP.out
  have HH:=AA hh;have HA:=AA ha;have HE:=AA he
  have hel:es.length≤64:=by omega
  have Wu:=AA hl
  have hrl:=hh.kG;have hol:=hh.qJ;have hgB:=hh.gB;have htop:=hh.top
  have P0:=AA hh.pr
  clear hh ha he hl
  obtain⟨col,v1,v2,v3,v6,v7,v8,hds⟩:=HH.out.ds
  obtain⟨A2,c2,BJ,e2,hP⟩:=hds.six.p8
  subst e2
  obtain⟨F0,f0,cellsF,e1,hPF⟩:=hds.six.p6
  subst e1
  clear hPF
  have V7:=AA hds;have NT:=AA hP;have HO:=AA hds.out;have ME:=AA hds.ne
  have Vi:Hid (∀k,(Value.slice A2 es.length c2).ownBlock=some k→k≠R.rg):=AA (fun k hk e=>by have h1:=(hP.lt k hk).1;have h2:=hds.l2;omega)
  have UC:=AA (HH.out.kH (hP.far (by decide) hds.zz))
  have HOW:Hid (∀k,(Value.slice A2 es.length c2).ownBlock=some k→k<wr.heap.size):=AA (fun k hk=>(hP.lt k hk).2)
  clear hds hP
  have HTX:=AA (Xw (l:=R.l) 32 (by decide) HH.out.inp HH.out.rd)
  have ag:=Ao.gr HH.out P0.out
  go_wp2_with fail
  refine HTX.out.mono ?_
  rintro e w1 ⟨hk1,⟨v,bs,q1,rfl,⟨s,rfl,rfl,hs1,hs2⟩,ha1,hr1⟩ | ⟨en,a1,h1,rfl⟩⟩
  case inr=>
   have H1:=AA h1;have JF:=AA ((HH.out).OW hk1);clear h1
   go_wp2_with fail
   exact HT.out _ _ _ _ H1.out rfl JF.out
  have P1:Hid (Ao R wr w1 all q1):=AA (P0.out.V6 hk1 hr1)
  have HA1:=AA ha1;have HS2:=AA hs2
  clear hk1 hr1 ha1 hs1 hs2 HTX ag
  have HNA:=AA (p9 s (by have:=HS2.out;omega) A2 es.length c2 R.B wr.heap.size es q w1 (Rd.GX (show(Lf.sl false).R wr R.B wr.heap.size [.slice A2 es.length c2] es from NT.out.reads) P1.out.kp (Nat.le_refl _) (fun k h1 h2=>by show k≠R.rg;omega)) (by omega))
  have ag:=Ao.gr HH.out P1.out
  have a0:=P1.out.r0
  have a7:=(HO.out.keep P1.out.kp ME.out).q 7 rfl
  go_wp2_with fail
  refine HNA.out.mono ?_
  rintro e w2 ⟨hb2,D5⟩
  have P2:Hid (Ao R wr w2 all q1):=AA (P1.out.below hb2)
  rcases D5.OW with⟨h0,rfl⟩ | ⟨en,a1,h1,rfl⟩
  case inr=>
   have H1:=AA h1;have JF:=AA (P2.out.OW HH.out);clear h1 hb2 D5
   go_wp2_with fail
   exact HT.out _ _ _ _ H1.out rfl JF.out
  have HNZ:=AA (AQ h0)
  clear h0 hb2 D5 HNA ag a0 a7
  go_upto_region 17 with fail
  obtain⟨i0,hi0,hz,hs',hby⟩:=info_parts Y6
  refine Aa ?_
  have GN:Hid (Ao R wr w2.drew all q1):=AA P2.out.drew
  refine wp_region_held_drew (S:=fun W=>W.cell? ⟨R.gr,0,none⟩=some (.pointer (some ⟨R.rg,0,none⟩))∧W.cell? ⟨R.rg,0,none⟩=some (.pointer (some ⟨R.og,0,none⟩))∧W.cell? ⟨R.og,5,none⟩=some (.slice F0 fs.length f0)) (by kernel_rfl) ⟨Ao.gr HH.out GN.out,GN.out.r0,(HO.out.keep GN.out.kp ME.out).cell 5⟩ (fun hHeld=> ?_)
  generalize w2.drew=CP at*
  refine AB (i:=0) (v:= ?_) rfl (by kernel_rfl) (fun _ _ _ h=>h) (by intro w hSw;(try dsimp only at hSw);go_simp;try with_reducible rfl) hHeld ?_
  refine AB (i:=1) (v:= ?_) rfl (by kernel_rfl) (fun _ _ _ h=>h) (by intro w hSw;(try dsimp only at hSw);go_simp;try with_reducible rfl) hHeld ?_
  refine AB (i:=2) (v:= ?_) rfl (by kernel_rfl) (fun _ _ _ h=>h) (by intro w hSw;(try dsimp only at hSw);go_simp;try with_reducible rfl) hHeld ?_
  refine AB (i:=3) (v:= ?_) rfl (by kernel_rfl) (fun _ _ _ h=>h) (by intro w hSw;(try dsimp only at hSw);go_simp;try with_reducible rfl) hHeld ?_
  refine AB (i:=4) (v:= ?_) rfl (by kernel_rfl) (fun _ _ _ h=>h) (by intro w hSw;(try dsimp only at hSw);go_simp;try with_reducible rfl) hHeld ?_
  refine AB (i:=5) (v:= ?_) rfl (by kernel_rfl) (fun _ _ _ h=>h) (by intro w hSw;(try dsimp only at hSw);go_simp;try with_reducible rfl) hHeld ?_
  refine AB (i:=6) (v:= ?_) rfl (by kernel_rfl) (fun _ _ _ h=>h) (by intro w hSw;(try dsimp only at hSw);go_simp;try with_reducible rfl) hHeld ?_
  refine AB (i:=7) (v:= ?_) rfl (by kernel_rfl) (fun _ _ _ h=>h) (by intro w hSw;(try dsimp only at hSw);go_simp;try with_reducible rfl) hHeld ?_
  refine AB (i:=8) (v:= ?_) rfl (by kernel_rfl) (fun _ _ _ h=>h) (by intro w hSw;(try dsimp only at hSw);go_simp;try with_reducible rfl) hHeld ?_
  refine AB (i:=9) (v:= ?_) rfl (by kernel_rfl) (fun _ _ _ h=>h) (by intro w hSw;(try dsimp only at hSw);go_simp;try with_reducible rfl) hHeld ?_
  refine AB (i:=10) (v:= ?_) rfl (by kernel_rfl) (fun _ _ _ h=>h) (by intro w hSw;(try dsimp only at hSw);go_simp;try with_reducible rfl) hHeld ?_
  refine AB (i:=11) (v:= ?_) rfl (by kernel_rfl) (fun _ _ _ h=>h) (by intro w hSw;(try dsimp only at hSw);go_simp;try with_reducible rfl) hHeld ?_
  refine AB (i:=13) (v:= ?_) rfl (by kernel_rfl) (fun _ _ _ h=>h) (by intro w hSw;(try dsimp only at hSw);go_simp;try with_reducible rfl) hHeld ?_
  refine AB (i:=14) (v:= ?_) rfl (by kernel_rfl) (fun _ _ _ h=>h) (by intro w hSw;(try dsimp only at hSw);go_simp;try with_reducible rfl) hHeld ?_
  refine AB (i:=15) (v:= ?_) rfl (by kernel_rfl) (fun _ _ _ h=>h) (by intro w hSw;(try dsimp only at hSw);go_simp;try with_reducible rfl) hHeld ?_
  refine AB (i:=16) (v:= ?_) rfl (by kernel_rfl) (fun _ _ _ h=>h) (by intro w hSw;(try dsimp only at hSw);go_simp;try with_reducible rfl) hHeld ?_
  refine AB (i:=17) (v:= ?_) rfl (by kernel_rfl) (fun _ _ _ h=>h) (by intro w hSw;(try dsimp only at hSw);go_simp;try with_reducible rfl) hHeld ?_
  refine AB (i:=18) (v:= ?_) rfl (by kernel_rfl) (fun _ _ _ h=>h) (by intro w hSw;(try dsimp only at hSw);go_simp;try with_reducible rfl) hHeld ?_
  refine AB (i:=19) (v:= ?_) rfl (by kernel_rfl) (fun _ _ _ h=>h) (by intro w hSw;(try dsimp only at hSw);go_simp;try with_reducible rfl) hHeld ?_
  refine AB (i:=20) (v:= ?_) rfl (by kernel_rfl) (fun _ _ _ h=>h) (by intro w hSw;(try dsimp only at hSw);go_simp;try with_reducible rfl) hHeld ?_
  refine AB (i:=21) (v:= ?_) rfl (by kernel_rfl) (fun _ _ _ h=>h) (by intro w hSw;(try dsimp only at hSw);go_simp;try with_reducible rfl) hHeld ?_
  refine AB (i:=22) (v:= ?_) rfl (by kernel_rfl) (fun _ _ _ h=>h) (by intro w hSw;(try dsimp only at hSw);go_simp;try with_reducible rfl) hHeld ?_
  refine AB (i:=23) (v:= ?_) rfl (by kernel_rfl) (fun _ _ _ h=>h) (by intro w hSw;(try dsimp only at hSw);go_simp;try with_reducible rfl) hHeld ?_
  refine wpAnyH_ready (rs:= [12,24]) (by kernel_rfl) (by simp) ?_
  refine AllReadyH.cons rfl (fun K hK=> ?_) (AllReadyH.cons rfl (fun K hK=> ?_) AllReadyH.nil)
  ·have gl:=(HO.out.keep GN.out.kp ME.out).q 7 rfl
   go_simp
   refine hK.out _ _ ⟨Ao.gr HH.out GN.out,GN.out.r0,(HO.out.keep GN.out.kp ME.out).cell 5⟩ (fun Rm=> ?_)
   clear hK K gl
   refine wpAnyH_ready (rs:= [24]) (by kernel_rfl) (by simp) ?_
   refine AllReadyH.cons rfl (fun K hK=> ?_) AllReadyH.nil
   go_simp
   go_at_call 103
   refine(NQ (l:=R.l) (p:=q1) fs.length (by omega) (Ao.inp HH.out GN.out) GN.out.rd HH.out.i2).mono ?_
   rintro e Rn ⟨hk,⟨v,bs,q3,rfl,⟨u,rfl,rfl,hu⟩,ha,hr⟩ | ⟨en,a1,h1,rfl⟩⟩
   case inr=>
    have JF:=AA (HH.out.OW (GN.out.kp.trans hk))
    exact BG.thrown (fun ax hd=>HT.out _ _ ax _ h1 hd JF.out)
   have N_:Hid (Ao R wr Rn all q3):=AA (GN.out.V6 hk hr)
   clear hk hr
   refine hK.out _ _ ⟨Ao.gr HH.out N_.out,N_.out.r0,(HO.out.keep N_.out.kp ME.out).cell 5⟩ (fun OA=> ?_)
   clear hK K
   refine AB (i:=25) (v:= ?_) rfl (by kernel_rfl) (fun _ _ _ h=>h) (by intro w hSw;(try dsimp only at hSw);go_simp;try with_reducible rfl) OA ?_
   refine wpAnyH_ready (rs:= [26]) (by kernel_rfl) (by simp) ?_
   refine AllReadyH.cons rfl (fun K hK=> ?_) AllReadyH.nil
   go_simp
   have Sk:Hid (Ao R wr (Rn.alloc (.cells #[.string s,.int .i64 (u:Int)] 61)) all q3):=AA (N_.out.alloc _)
   have HRW:Hid (Row (Rn.alloc (.cells #[.string s,.int .i64 (u:Int)] 61)) (Rn.heap.size+1) (some ⟨Rn.heap.size,0,none⟩) [.string s,.int .i64 (u:Int)]):=AA (Ak Rn [.string s,.int .i64 (u:Int)] 61)
   refine hK.out _ _ ⟨Ao.gr HH.out Sk.out,Sk.out.r0,(HO.out.keep Sk.out.kp ME.out).cell 5⟩ (fun f_=> ?_)
   clear hK K
   generalize hwn:Rn.alloc (.cells #[.string s,.int .i64 (u:Int)] 61)=cO at*
   clear hwn
   refine wpAnyH_ready (rs:= [27]) (by kernel_rfl) (by simp) ?_
   refine AllReadyH.cons rfl (fun K hK=> ?_) AllReadyH.nil
   refine Au rfl (.tmp 100) (.tmp 114) 27 rfl R.B 61 i0 _ 2 24 underlying27 hi0 hz hs' hby rfl (by omega) _ es.length BJ rfl (BD NT.out.own Sk.out.kp Vi.out) (Rn.heap.size+1) _ 1 1 [.string s,.int .i64 (u:Int)] rfl rfl HRW.out (by intro u hu;simp at hu;rcases hu with rfl | rfl<;>rfl) (by unfold maxLen;omega) (by omega) (by have:=Sk.out.kp.size;omega) ?_
   intro A4 c4 kI h2 h3 h4
   have EZ:=Ao.cB HH.out Sk.out UC.out h3
   have LC:=EZ.2.2 _ HO.out
   have Ir:=AA LC;have fq:=AA EZ;have H2:=AA h2;have H3:=AA h3;have H4:=AA h4
   refine hK.out _ _ ⟨EZ.1.cell 0,AL.cell EZ.2.1 0,LC.cell 5⟩ (fun Ay=> ?_)
   clear hK K h2 h3 h4 EZ LC
   refine AB (i:=28) (v:= ?_) rfl (by kernel_rfl) (fun _ _ _ h=>h) (by intro w hSw;(try dsimp only at hSw);go_simp;try with_reducible rfl) Ay ?_
   refine AB (i:=29) (v:= ?_) rfl (by kernel_rfl) (fun _ _ _ h=>h) (by intro w hSw;(try dsimp only at hSw);go_simp;try with_reducible rfl) Ay ?_
   refine wpAnyH_ready (rs:= [30]) (by kernel_rfl) (by simp) ?_
   refine AllReadyH.cons rfl (fun K hK=> ?_) AllReadyH.nil
   have ys:=Ir.out.cell 7;have yf:=Ir.out.frozen 7
   go_simp
   have HST:Hid (HR R (kI.setCell ⟨R.og,7,none⟩ (.slice A4 (es.length+1) c4)) (MB m fs ds (es++ [⟨s,(u:Int)⟩])) all q3):=AA (HH.out.step (DS.Y5 (m:=MB m fs ds es) V7.out NT.out Sk.out.kp Sk.out.rd (lo:=cO.heap.size) (hi:=cO.heap.size) (x:=⟨s,(u:Int)⟩) (OY.2 ⟨rfl,(show s.size≤140737488351232 by have:=HS2.out;omega),(by unfold Rd.ER;dsimp only;omega)⟩) (by have:=Sk.out.kp.size;exact this) (Nat.le_refl _) H2.out H3.out H4.out))
   refine hK.out _ _ ⟨HST.out.box.cell 0,AL.cell HST.out.rd 0,(Ir.out.set 7 _).cell 5⟩ (fun Iq=> ?_)
   clear hK K ys yf
   refine wpAnyH_done (by kernel_rfl) ?_ _
   refine BG.normal ?_
   have Dz:Hid (xH R m fs ds all p0 b0 (k+1) _):=AA ⟨es++ [⟨s,(u:Int)⟩],q3,HST.out,by rw [List.length_append,Wu.out];rfl,by rw [DK,←List.append_assoc];exact HA.out.trans (HA1.out.trans ha),Si (m:=MB m fs ds es) HE.out HNZ.out.1 HNZ.out.2 ⟨by show(0:Int)≤u;omega,by show(u:Int)<fs.length;omega⟩⟩
   clear hu ha
   go_wp2_with fail
   apply HK.out
   ·exact hlt
   ·exact Dz.out
  ·go_simp
   go_at_call 103
   refine(NQ (l:=R.l) (p:=q1) fs.length (by omega) (Ao.inp HH.out GN.out) GN.out.rd HH.out.i2).mono ?_
   rintro e Qd ⟨hk,⟨v,bs,q3,rfl,⟨u,rfl,rfl,hu⟩,ha,hr⟩ | ⟨en,a1,h1,rfl⟩⟩
   case inr=>
    have JF:=AA (HH.out.OW (GN.out.kp.trans hk))
    exact BG.thrown (fun ax hd=>HT.out _ _ ax _ h1 hd JF.out)
   have Sl:Hid (Ao R wr Qd all q3):=AA (GN.out.V6 hk hr)
   clear hk hr
   refine hK.out _ _ ⟨Ao.gr HH.out Sl.out,Sl.out.r0,(HO.out.keep Sl.out.kp ME.out).cell 5⟩ (fun OB=> ?_)
   clear hK K
   refine AB (i:=25) (v:= ?_) rfl (by kernel_rfl) (fun _ _ _ h=>h) (by intro w hSw;(try dsimp only at hSw);go_simp;try with_reducible rfl) OB ?_
   refine wpAnyH_ready (rs:= [12,26]) (by kernel_rfl) (by simp) ?_
   refine AllReadyH.cons rfl (fun K hK=> ?_) (AllReadyH.cons rfl (fun K hK=> ?_) AllReadyH.nil)
   ·have gl:=(HO.out.keep Sl.out.kp ME.out).q 7 rfl
    go_simp
    refine hK.out _ _ ⟨Ao.gr HH.out Sl.out,Sl.out.r0,(HO.out.keep Sl.out.kp ME.out).cell 5⟩ (fun gD=> ?_)
    clear hK K gl
    refine wpAnyH_ready (rs:= [26]) (by kernel_rfl) (by simp) ?_
    refine AllReadyH.cons rfl (fun K hK=> ?_) AllReadyH.nil
    go_simp
    have Sm:Hid (Ao R wr (Qd.alloc (.cells #[.string s,.int .i64 (u:Int)] 61)) all q3):=AA (Sl.out.alloc _)
    have HRW:Hid (Row (Qd.alloc (.cells #[.string s,.int .i64 (u:Int)] 61)) (Qd.heap.size+1) (some ⟨Qd.heap.size,0,none⟩) [.string s,.int .i64 (u:Int)]):=AA (Ak Qd [.string s,.int .i64 (u:Int)] 61)
    refine hK.out _ _ ⟨Ao.gr HH.out Sm.out,Sm.out.r0,(HO.out.keep Sm.out.kp ME.out).cell 5⟩ (fun gG=> ?_)
    clear hK K
    generalize hwn:Qd.alloc (.cells #[.string s,.int .i64 (u:Int)] 61)=w26 at*
    clear hwn
    refine wpAnyH_ready (rs:= [27]) (by kernel_rfl) (by simp) ?_
    refine AllReadyH.cons rfl (fun K hK=> ?_) AllReadyH.nil
    refine Au rfl (.tmp 100) (.tmp 114) 27 rfl R.B 61 i0 _ 2 24 underlying27 hi0 hz hs' hby rfl (by omega) _ es.length BJ rfl (BD NT.out.own Sm.out.kp Vi.out) (Qd.heap.size+1) _ 1 1 [.string s,.int .i64 (u:Int)] rfl rfl HRW.out (by intro u hu;simp at hu;rcases hu with rfl | rfl<;>rfl) (by unfold maxLen;omega) (by omega) (by have:=Sm.out.kp.size;omega) ?_
    intro A4 c4 w27 h2 h3 h4
    have EZ:=Ao.cB HH.out Sm.out UC.out h3
    have LC:=EZ.2.2 _ HO.out
    have Ir:=AA LC;have fq:=AA EZ;have H2:=AA h2;have H3:=AA h3;have H4:=AA h4
    refine hK.out _ _ ⟨EZ.1.cell 0,AL.cell EZ.2.1 0,LC.cell 5⟩ (fun Ay=> ?_)
    clear hK K h2 h3 h4 EZ LC
    refine AB (i:=28) (v:= ?_) rfl (by kernel_rfl) (fun _ _ _ h=>h) (by intro w hSw;(try dsimp only at hSw);go_simp;try with_reducible rfl) Ay ?_
    refine AB (i:=29) (v:= ?_) rfl (by kernel_rfl) (fun _ _ _ h=>h) (by intro w hSw;(try dsimp only at hSw);go_simp;try with_reducible rfl) Ay ?_
    refine wpAnyH_ready (rs:= [30]) (by kernel_rfl) (by simp) ?_
    refine AllReadyH.cons rfl (fun K hK=> ?_) AllReadyH.nil
    have ys:=Ir.out.cell 7;have yf:=Ir.out.frozen 7
    go_simp
    have HST:Hid (HR R (w27.setCell ⟨R.og,7,none⟩ (.slice A4 (es.length+1) c4)) (MB m fs ds (es++ [⟨s,(u:Int)⟩])) all q3):=AA (HH.out.step (DS.Y5 (m:=MB m fs ds es) V7.out NT.out Sm.out.kp Sm.out.rd (lo:=w26.heap.size) (hi:=w26.heap.size) (x:=⟨s,(u:Int)⟩) (OY.2 ⟨rfl,(show s.size≤140737488351232 by have:=HS2.out;omega),(by unfold Rd.ER;dsimp only;omega)⟩) (by have:=Sm.out.kp.size;exact this) (Nat.le_refl _) H2.out H3.out H4.out))
    refine hK.out _ _ ⟨HST.out.box.cell 0,AL.cell HST.out.rd 0,(Ir.out.set 7 _).cell 5⟩ (fun Iq=> ?_)
    clear hK K ys yf
    refine wpAnyH_done (by kernel_rfl) ?_ _
    refine BG.normal ?_
    have Dz:Hid (xH R m fs ds all p0 b0 (k+1) _):=AA ⟨es++ [⟨s,(u:Int)⟩],q3,HST.out,by rw [List.length_append,Wu.out];rfl,by rw [DK,←List.append_assoc];exact HA.out.trans (HA1.out.trans ha),Si (m:=MB m fs ds es) HE.out HNZ.out.1 HNZ.out.2 ⟨by show(0:Int)≤u;omega,by show(u:Int)<fs.length;omega⟩⟩
    clear hu ha
    go_wp2_with fail
    apply HK.out
    ·exact hlt
    ·exact Dz.out
   ·go_simp
    have OO:Hid (Ao R wr (Qd.alloc (.cells #[.string s,.int .i64 (u:Int)] 61)) all q3):=AA (Sl.out.alloc _)
    have HRW:Hid (Row (Qd.alloc (.cells #[.string s,.int .i64 (u:Int)] 61)) (Qd.heap.size+1) (some ⟨Qd.heap.size,0,none⟩) [.string s,.int .i64 (u:Int)]):=AA (Ak Qd [.string s,.int .i64 (u:Int)] 61)
    refine hK.out _ _ ⟨Ao.gr HH.out OO.out,OO.out.r0,(HO.out.keep OO.out.kp ME.out).cell 5⟩ (fun gH=> ?_)
    clear hK K
    generalize hwn:Qd.alloc (.cells #[.string s,.int .i64 (u:Int)] 61)=w28 at*
    clear hwn
    refine wpAnyH_ready (rs:= [12]) (by kernel_rfl) (by simp) ?_
    refine AllReadyH.cons rfl (fun K hK=> ?_) AllReadyH.nil
    have gl:=(HO.out.keep OO.out.kp ME.out).q 7 rfl
    go_simp
    refine hK.out _ _ ⟨Ao.gr HH.out OO.out,OO.out.r0,(HO.out.keep OO.out.kp ME.out).cell 5⟩ (fun gI=> ?_)
    clear hK K gl
    refine wpAnyH_ready (rs:= [27]) (by kernel_rfl) (by simp) ?_
    refine AllReadyH.cons rfl (fun K hK=> ?_) AllReadyH.nil
    refine Au rfl (.tmp 100) (.tmp 114) 27 rfl R.B 61 i0 _ 2 24 underlying27 hi0 hz hs' hby rfl (by omega) _ es.length BJ rfl (BD NT.out.own OO.out.kp Vi.out) (Qd.heap.size+1) _ 1 1 [.string s,.int .i64 (u:Int)] rfl rfl HRW.out (by intro u hu;simp at hu;rcases hu with rfl | rfl<;>rfl) (by unfold maxLen;omega) (by omega) (by have:=OO.out.kp.size;omega) ?_
    intro A4 c4 w30 h2 h3 h4
    have EZ:=Ao.cB HH.out OO.out UC.out h3
    have LC:=EZ.2.2 _ HO.out
    have Ir:=AA LC;have fq:=AA EZ;have H2:=AA h2;have H3:=AA h3;have H4:=AA h4
    refine hK.out _ _ ⟨EZ.1.cell 0,AL.cell EZ.2.1 0,LC.cell 5⟩ (fun Ay=> ?_)
    clear hK K h2 h3 h4 EZ LC
    refine AB (i:=28) (v:= ?_) rfl (by kernel_rfl) (fun _ _ _ h=>h) (by intro w hSw;(try dsimp only at hSw);go_simp;try with_reducible rfl) Ay ?_
    refine AB (i:=29) (v:= ?_) rfl (by kernel_rfl) (fun _ _ _ h=>h) (by intro w hSw;(try dsimp only at hSw);go_simp;try with_reducible rfl) Ay ?_
    refine wpAnyH_ready (rs:= [30]) (by kernel_rfl) (by simp) ?_
    refine AllReadyH.cons rfl (fun K hK=> ?_) AllReadyH.nil
    have ys:=Ir.out.cell 7;have yf:=Ir.out.frozen 7
    go_simp
    have HST:Hid (HR R (w30.setCell ⟨R.og,7,none⟩ (.slice A4 (es.length+1) c4)) (MB m fs ds (es++ [⟨s,(u:Int)⟩])) all q3):=AA (HH.out.step (DS.Y5 (m:=MB m fs ds es) V7.out NT.out OO.out.kp OO.out.rd (lo:=w28.heap.size) (hi:=w28.heap.size) (x:=⟨s,(u:Int)⟩) (OY.2 ⟨rfl,(show s.size≤140737488351232 by have:=HS2.out;omega),(by unfold Rd.ER;dsimp only;omega)⟩) (by have:=OO.out.kp.size;exact this) (Nat.le_refl _) H2.out H3.out H4.out))
    refine hK.out _ _ ⟨HST.out.box.cell 0,AL.cell HST.out.rd 0,(Ir.out.set 7 _).cell 5⟩ (fun Iq=> ?_)
    clear hK K ys yf
    refine wpAnyH_done (by kernel_rfl) ?_ _
    refine BG.normal ?_
    have Dz:Hid (xH R m fs ds all p0 b0 (k+1) _):=AA ⟨es++ [⟨s,(u:Int)⟩],q3,HST.out,by rw [List.length_append,Wu.out];rfl,by rw [DK,←List.append_assoc];exact HA.out.trans (HA1.out.trans ha),Si (m:=MB m fs ds es) HE.out HNZ.out.1 HNZ.out.2 ⟨by show(0:Int)≤u;omega,by show(u:Int)<fs.length;omega⟩⟩
    clear hu ha
    go_wp2_with fail
    apply HK.out
    ·exact hlt
    ·exact Dz.out
 ·obtain rfl:k=M:=by omega
  have Sj:=HP
  clear HK
  go_wp2_with fail
  apply HX.out
  exact Sj.out
end Go.Proofs.YtejbcledkhioeaaGreatDoor
