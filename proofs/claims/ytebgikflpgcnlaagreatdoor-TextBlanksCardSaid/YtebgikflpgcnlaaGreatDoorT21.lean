/- Part 21 of the proof: PrtF PrtG -/
import Derived.Test.YtebgikflpgcnlaaGreatDoorT19
namespace Go.Proofs.YtebgikflpgcnlaaGreatDoor
set_option linter.unusedVariables false
set_option linter.unusedSimpArgs false
set_option maxRecDepth 100000
set_option maxHeartbeats 4000000
open Go.RowKit Tryz
def codeF (z:InsV):List UInt8:=lineT [[32,32]++insT z]
set_option maxRecDepth 1000000 in
theorem prt_code_round {w w2:World} {hi hj:Nat} {m:ModV} {A1 A2 A3 A6 A7 A8:Option Addr} {c1 c2 c3 c6 c7 c8:Nat} (C:Hid (PCtx w w2 hi hj m A1 c1 A2 c2 A3 c3 A6 c6 A7 c7 A8 c8)) {x:FnV} {Ac:Option Addr} {cc:Nat} (Hcode:Hid ((rIns.sl false).R w 0 hi [.slice Ac x.code.length cc] x.code)) (hlabs: ∀y∈x.code,y.l.length≤2147483647) (hcl:x.code.length≤2147483647) (P:List UInt8) (HLEX:(P++x.code.flatMap codeF).length≤1048576) {k:Nat} {wr:World} (hk:k≤x.code.length) (HP:Hid (PR w2 wr (P++(x.code.take k).flatMap codeF)))
 (s0 s2 s3 s4 s7 s8 s9 s10 s11 s12 s13 s14 s15 s16 s17 s18 s20 s21 s22 s23 s24 s25 s26 s27 s28 s29 s30 s31 s32 s33 s34 s35 s36 s37 s38 s39 s40 s41 s42 s43 s44 s45 s46 s47 s48 s49 s50 s51 s52 s53 s54 s55 s56 s57 s58 s59 s60 s61 s62 s63 s64 s65 s66 s67 s68 s69 s70 s71 s72 s73 s74 s75 s76 s77 s78 s79 s80 s81 s82 s83 s84 s85 s86 s87 s88 s89 s90 s91 s92 s93 s94 s95 s96 s97 s98 s99 s100 s101 s102 s103 s104 s105 s106 s107 s108 s109 s110 s111 s112 s125 s126 s127 s128 s129 s130 s131 s132 s133 s134 s135 s136 s137 s138 s139 s140 s141 s142 s143 s144 s145 s146 s147 s148 s149 s150 s151 s152 s153 s154 s155 s156 s157 s158 s159 s160 s161 s162 s163 s164 s165 s166 s167 s168 s169 s170 s171 s172 s173 s174 s175 u19 u116 u117 u118 u119 u120 u121 u122 u123 u124:Value) (K:Act→World→Prop) (Q:Exit→Act→World→Prop) (HK:Hid (∀(u19 u116 u117 u118 u119 u120 u121 u122 u123 u124:Value) (wx:World),k<x.code.length→PR w2 wx (P++(x.code.take (k+1)).flatMap codeF)→K ⟨(List.toArray (s0::(.pointer (some ⟨w.heap.size,0,none⟩))::s2::s3::s4::(.pointer (some ⟨w2.heap.size,0,none⟩))::(.func (.func 28) #[] #[.pointer (some ⟨w2.heap.size,0,none⟩)])::s7::s8::s9::s10::s11::s12::s13::s14::s15::s16::s17::s18::u19::s20::s21::s22::s23::s24::s25::s26::s27::s28::s29::s30::s31::s32::s33::s34::s35::s36::s37::s38::s39::s40::s41::s42::s43::s44::s45::s46::s47::s48::s49::s50::s51::s52::s53::s54::s55::s56::s57::s58::s59::s60::s61::s62::s63::s64::s65::s66::s67::s68::s69::s70::s71::s72::s73::s74::s75::s76::s77::s78::s79::s80::s81::s82::s83::s84::s85::s86::s87::s88::s89::s90::s91::s92::s93::s94::s95::s96::s97::s98::s99::s100::s101::s102::s103::s104::s105::s106::s107::s108::s109::s110::s111::s112::(.slice Ac x.code.length cc)::(.int .i64 x.code.length)::(.int .i64 ((k:Int)+1))::u116::u117::u118::u119::u120::u121::u122::u123::u124::s125::s126::s127::s128::s129::s130::s131::s132::s133::s134::s135::s136::s137::s138::s139::s140::s141::s142::s143::s144::s145::s146::s147::s148::s149::s150::s151::s152::s153::s154::s155::s156::s157::s158::s159::s160::s161::s162::s163::s164::s165::s166::s167::s168::s169::s170::s171::s172::s173::s174::s175:: [])),[]⟩ wx)) (HX:Hid (∀(u19 u116 u117 u118 u119 u120 u121 u122 u123 u124:Value) (wx:World),PR w2 wx (P++x.code.flatMap codeF)→Q (.exit 8) ⟨(List.toArray (s0::(.pointer (some ⟨w.heap.size,0,none⟩))::s2::s3::s4::(.pointer (some ⟨w2.heap.size,0,none⟩))::(.func (.func 28) #[] #[.pointer (some ⟨w2.heap.size,0,none⟩)])::s7::s8::s9::s10::s11::s12::s13::s14::s15::s16::s17::s18::u19::s20::s21::s22::s23::s24::s25::s26::s27::s28::s29::s30::s31::s32::s33::s34::s35::s36::s37::s38::s39::s40::s41::s42::s43::s44::s45::s46::s47::s48::s49::s50::s51::s52::s53::s54::s55::s56::s57::s58::s59::s60::s61::s62::s63::s64::s65::s66::s67::s68::s69::s70::s71::s72::s73::s74::s75::s76::s77::s78::s79::s80::s81::s82::s83::s84::s85::s86::s87::s88::s89::s90::s91::s92::s93::s94::s95::s96::s97::s98::s99::s100::s101::s102::s103::s104::s105::s106::s107::s108::s109::s110::s111::s112::(.slice Ac x.code.length cc)::(.int .i64 x.code.length)::(.int .i64 x.code.length)::u116::u117::u118::u119::u120::u121::u122::u123::u124::s125::s126::s127::s128::s129::s130::s131::s132::s133::s134::s135::s136::s137::s138::s139::s140::s141::s142::s143::s144::s145::s146::s147::s148::s149::s150::s151::s152::s153::s154::s155::s156::s157::s158::s159::s160::s161::s162::s163::s164::s165::s166::s167::s168::s169::s170::s171::s172::s173::s174::s175:: [])),[]⟩ wx)):
 Code.wp prog (prtLoop2 3) (Exit.then K Q) ⟨(List.toArray (s0::(.pointer (some ⟨w.heap.size,0,none⟩))::s2::s3::s4::(.pointer (some ⟨w2.heap.size,0,none⟩))::(.func (.func 28) #[] #[.pointer (some ⟨w2.heap.size,0,none⟩)])::s7::s8::s9::s10::s11::s12::s13::s14::s15::s16::s17::s18::u19::s20::s21::s22::s23::s24::s25::s26::s27::s28::s29::s30::s31::s32::s33::s34::s35::s36::s37::s38::s39::s40::s41::s42::s43::s44::s45::s46::s47::s48::s49::s50::s51::s52::s53::s54::s55::s56::s57::s58::s59::s60::s61::s62::s63::s64::s65::s66::s67::s68::s69::s70::s71::s72::s73::s74::s75::s76::s77::s78::s79::s80::s81::s82::s83::s84::s85::s86::s87::s88::s89::s90::s91::s92::s93::s94::s95::s96::s97::s98::s99::s100::s101::s102::s103::s104::s105::s106::s107::s108::s109::s110::s111::s112::(.slice Ac x.code.length cc)::(.int .i64 x.code.length)::(.int .i64 k)::u116::u117::u118::u119::u120::u121::u122::u123::u124::s125::s126::s127::s128::s129::s130::s131::s132::s133::s134::s135::s136::s137::s138::s139::s140::s141::s142::s143::s144::s145::s146::s147::s148::s149::s150::s151::s152::s153::s154::s155::s156::s157::s158::s159::s160::s161::s162::s163::s164::s165::s166::s167::s168::s169::s170::s171::s172::s173::s174::s175:: [])),[]⟩ wr:=by
 conv=>arg 2;whnf
 have hk0:(0:Int)≤k:=by omega
 have hhi:=C.out.hhi
 have hhj:=C.out.hhj
 have hsw:w.heap.size<w2.heap.size:=C.out.lt
 by_cases hlt:k<x.code.length
 ·obtain⟨z,hz⟩: ∃z,x.code[k]?=some z:=⟨_,List.getElem?_eq_getElem hlt⟩
  have hlti:decide ((k:Int)<x.code.length)=true:=decide_eq_true (by omega)
  have HBW:=hideIt (C.out.bel.trans (HP.out.bel.mono C.out.bel.size))
  have hsz:w2.heap.size≤wr.heap.size:=HP.out.bel.size
  obtain⟨bk,ok,A_l,c_l,rfl,_,hbh,hc0,hc1,hc2,hb63,hlab⟩:=rIns_at (Rd.below Hcode.out HBW.out hhi) hz
  have HN1:=hideIt (flat_step P codeF hz)
  have HL1:=hideIt (flat_step_le P codeF hz)
  have hll:=hlabs z (List.mem_of_getElem? hz)
  have hop:z.op.toNat<256:=z.op.toNat_lt
  have HI:=hideIt (fun(W:World) (hW:Below wr.heap.size wr W)=>txt_instruction z A_l c_l hi hj W (Rd.below hlab hW (Nat.le_trans hhi HBW.out.size)) (Nat.le_trans (Nat.le_trans hhi HBW.out.size) hW.size) hb63 (C.out.env.to ((HBW.out.trans (hW.mono HBW.out.size)).mono hhj)) (Nat.le_trans (Nat.le_trans hhj HBW.out.size) hW.size) hop (by omega))
  clear hz HX hlab hb63 hll hop
  go_wp2_with fail
  refine(HI.out _ ((Below.refl _ _).alloc (Nat.le_refl _) _)).mono ?_
  rintro e w5 ⟨hb5,rfl⟩
  have hB5:Below wr.heap.size wr w5:=((Below.refl _ _).alloc (Nat.le_refl _) _).trans (hb5.mono (by simp))
  have HB5:=hideIt hB5
  have hs5:wr.heap.size≤w5.heap.size:=HB5.out.size
  clear hb5 HI hB5
  go_wp2_with fail
  refine(prt_row [bOf ([32,32]++insT z)] [[32,32]++insT z] rfl 1 rfl _ w5 (by simp) (HP.out.bld.below HB5.out) (by omega) (Nat.le_trans HL1.out HLEX) (by decide)).mono ?_
  rintro e w6 ⟨rfl,hA,hB,hK⟩
  have HP6:=hideIt (PR.mk (HP.out.bel.trans ((HB5.out.mono hsz).trans hB)) (HN1.out▸hA))
  clear hA hB hK
  go_wp2_with fail
  apply HK.out
  ·exact hlt
  ·exact HP6.out
 ·obtain rfl:k=x.code.length:=by omega
  have hlti:decide ((x.code.length:Int)<x.code.length)=false:=decide_eq_false (by omega)
  have HPX:Hid (PR w2 wr (P++x.code.flatMap codeF)):=hideIt (by have:=HP.out;rw [List.take_length] at this;exact this)
  clear HP HK
  go_wp2_with fail
  apply HX.out
  exact HPX.out
set_option maxRecDepth 1000000 in
theorem prt_code {w w2:World} {hi hj:Nat} {m:ModV} {A1 A2 A3 A6 A7 A8:Option Addr} {c1 c2 c3 c6 c7 c8:Nat} (C:Hid (PCtx w w2 hi hj m A1 c1 A2 c2 A3 c3 A6 c6 A7 c7 A8 c8)) {x:FnV} {Ac:Option Addr} {cc:Nat} (Hcode:Hid ((rIns.sl false).R w 0 hi [.slice Ac x.code.length cc] x.code)) (hlabs: ∀y∈x.code,y.l.length≤2147483647) (hcl:x.code.length≤2147483647) (P:List UInt8) (HLEX:(P++x.code.flatMap codeF).length≤1048576) {wr:World} (HP:Hid (PR w2 wr P))
 (s0 s2 s3 s4 s7 s8 s9 s10 s11 s12 s13 s14 s15 s16 s17 s18 s20 s21 s22 s23 s24 s25 s26 s27 s28 s29 s30 s31 s32 s33 s34 s35 s36 s37 s38 s39 s40 s41 s42 s43 s44 s45 s46 s47 s48 s49 s50 s51 s52 s53 s54 s55 s56 s57 s58 s59 s60 s61 s62 s63 s64 s65 s66 s67 s68 s69 s70 s71 s72 s73 s74 s75 s76 s77 s78 s79 s80 s81 s82 s83 s84 s85 s86 s87 s88 s89 s90 s91 s92 s93 s94 s95 s96 s97 s98 s99 s100 s101 s102 s103 s104 s105 s106 s107 s108 s109 s110 s111 s112 s125 s126 s127 s128 s129 s130 s131 s132 s133 s134 s135 s136 s137 s138 s139 s140 s141 s142 s143 s144 s145 s146 s147 s148 s149 s150 s151 s152 s153 s154 s155 s156 s157 s158 s159 s160 s161 s162 s163 s164 s165 s166 s167 s168 s169 s170 s171 s172 s173 s174 s175 u19 u116 u117 u118 u119 u120 u121 u122 u123 u124:Value) (Q0:Exit→Act→World→Prop) (HX:Hid (∀(u19 u116 u117 u118 u119 u120 u121 u122 u123 u124:Value) (wx:World),PR w2 wx (P++x.code.flatMap codeF)→Q0 (.exit 8) ⟨(List.toArray (s0::(.pointer (some ⟨w.heap.size,0,none⟩))::s2::s3::s4::(.pointer (some ⟨w2.heap.size,0,none⟩))::(.func (.func 28) #[] #[.pointer (some ⟨w2.heap.size,0,none⟩)])::s7::s8::s9::s10::s11::s12::s13::s14::s15::s16::s17::s18::u19::s20::s21::s22::s23::s24::s25::s26::s27::s28::s29::s30::s31::s32::s33::s34::s35::s36::s37::s38::s39::s40::s41::s42::s43::s44::s45::s46::s47::s48::s49::s50::s51::s52::s53::s54::s55::s56::s57::s58::s59::s60::s61::s62::s63::s64::s65::s66::s67::s68::s69::s70::s71::s72::s73::s74::s75::s76::s77::s78::s79::s80::s81::s82::s83::s84::s85::s86::s87::s88::s89::s90::s91::s92::s93::s94::s95::s96::s97::s98::s99::s100::s101::s102::s103::s104::s105::s106::s107::s108::s109::s110::s111::s112::(.slice Ac x.code.length cc)::(.int .i64 x.code.length)::(.int .i64 x.code.length)::u116::u117::u118::u119::u120::u121::u122::u123::u124::s125::s126::s127::s128::s129::s130::s131::s132::s133::s134::s135::s136::s137::s138::s139::s140::s141::s142::s143::s144::s145::s146::s147::s148::s149::s150::s151::s152::s153::s154::s155::s156::s157::s158::s159::s160::s161::s162::s163::s164::s165::s166::s167::s168::s169::s170::s171::s172::s173::s174::s175:: [])),[]⟩ wx)):
 Code.wp prog (Code.loop (prtLoop2 3)) Q0 ⟨(List.toArray (s0::(.pointer (some ⟨w.heap.size,0,none⟩))::s2::s3::s4::(.pointer (some ⟨w2.heap.size,0,none⟩))::(.func (.func 28) #[] #[.pointer (some ⟨w2.heap.size,0,none⟩)])::s7::s8::s9::s10::s11::s12::s13::s14::s15::s16::s17::s18::u19::s20::s21::s22::s23::s24::s25::s26::s27::s28::s29::s30::s31::s32::s33::s34::s35::s36::s37::s38::s39::s40::s41::s42::s43::s44::s45::s46::s47::s48::s49::s50::s51::s52::s53::s54::s55::s56::s57::s58::s59::s60::s61::s62::s63::s64::s65::s66::s67::s68::s69::s70::s71::s72::s73::s74::s75::s76::s77::s78::s79::s80::s81::s82::s83::s84::s85::s86::s87::s88::s89::s90::s91::s92::s93::s94::s95::s96::s97::s98::s99::s100::s101::s102::s103::s104::s105::s106::s107::s108::s109::s110::s111::s112::(.slice Ac x.code.length cc)::(.int .i64 x.code.length)::(.int .i64 0)::u116::u117::u118::u119::u120::u121::u122::u123::u124::s125::s126::s127::s128::s129::s130::s131::s132::s133::s134::s135::s136::s137::s138::s139::s140::s141::s142::s143::s144::s145::s146::s147::s148::s149::s150::s151::s152::s153::s154::s155::s156::s157::s158::s159::s160::s161::s162::s163::s164::s165::s166::s167::s168::s169::s170::s171::s172::s173::s174::s175:: [])),[]⟩ wr:=by
 refine wp_loop (fun a wx=> ∃(u19 u116 u117 u118 u119 u120 u121 u122 u123 u124:Value) (k:Nat),k≤x.code.length∧(PR w2 wx (P++(x.code.take k).flatMap codeF))∧a=⟨(List.toArray (s0::(.pointer (some ⟨w.heap.size,0,none⟩))::s2::s3::s4::(.pointer (some ⟨w2.heap.size,0,none⟩))::(.func (.func 28) #[] #[.pointer (some ⟨w2.heap.size,0,none⟩)])::s7::s8::s9::s10::s11::s12::s13::s14::s15::s16::s17::s18::u19::s20::s21::s22::s23::s24::s25::s26::s27::s28::s29::s30::s31::s32::s33::s34::s35::s36::s37::s38::s39::s40::s41::s42::s43::s44::s45::s46::s47::s48::s49::s50::s51::s52::s53::s54::s55::s56::s57::s58::s59::s60::s61::s62::s63::s64::s65::s66::s67::s68::s69::s70::s71::s72::s73::s74::s75::s76::s77::s78::s79::s80::s81::s82::s83::s84::s85::s86::s87::s88::s89::s90::s91::s92::s93::s94::s95::s96::s97::s98::s99::s100::s101::s102::s103::s104::s105::s106::s107::s108::s109::s110::s111::s112::(.slice Ac x.code.length cc)::(.int .i64 x.code.length)::(.int .i64 k)::u116::u117::u118::u119::u120::u121::u122::u123::u124::s125::s126::s127::s128::s129::s130::s131::s132::s133::s134::s135::s136::s137::s138::s139::s140::s141::s142::s143::s144::s145::s146::s147::s148::s149::s150::s151::s152::s153::s154::s155::s156::s157::s158::s159::s160::s161::s162::s163::s164::s165::s166::s167::s168::s169::s170::s171::s172::s173::s174::s175:: [])),[]⟩) (fun a _=>x.code.length-(intOf (a.tmps.getD 115 undef)).toNat) ?_ ?_
 ·exact⟨u19,u116,u117,u118,u119,u120,u121,u122,u123,u124,0,Nat.zero_le _,by first | exact HP.out | (rw [List.take_zero,List.flatMap_nil,List.append_nil];exact HP.out),rfl⟩
 ·intro a wx hI
  obtain⟨u19,hI⟩:=hI
  obtain⟨u116,hI⟩:=hI
  obtain⟨u117,hI⟩:=hI
  obtain⟨u118,hI⟩:=hI
  obtain⟨u119,hI⟩:=hI
  obtain⟨u120,hI⟩:=hI
  obtain⟨u121,hI⟩:=hI
  obtain⟨u122,hI⟩:=hI
  obtain⟨u123,hI⟩:=hI
  obtain⟨u124,hI⟩:=hI
  obtain⟨k,hk,hp,rfl⟩:=hI
  refine prt_code_round C Hcode hlabs hcl P HLEX hk (hideIt hp) _ _ _ _ _ _ _ _ _ _ _ _ _ _ _ _ _ _ _ _ _ _ _ _ _ _ _ _ _ _ _ _ _ _ _ _ _ _ _ _ _ _ _ _ _ _ _ _ _ _ _ _ _ _ _ _ _ _ _ _ _ _ _ _ _ _ _ _ _ _ _ _ _ _ _ _ _ _ _ _ _ _ _ _ _ _ _ _ _ _ _ _ _ _ _ _ _ _ _ _ _ _ _ _ _ _ _ _ _ _ _ _ _ _ _ _ _ _ _ _ _ _ _ _ _ _ _ _ _ _ _ _ _ _ _ _ _ _ _ _ _ _ _ _ _ _ _ _ _ _ _ _ _ _ _ _ _ _ _ _ _ _ _ _ _ _ _ _ _ _ _ _ (hideIt ?_) HX
  intro u19 u116 u117 u118 u119 u120 u121 u122 u123 u124 wy hlt hp2
  refine⟨⟨u19,u116,u117,u118,u119,u120,u121,u122,u123,u124,k+1,hlt,hp2,rfl⟩,?_⟩
  show x.code.length-(intOf (.int .i64 ((k+1:Nat):Int))).toNat<x.code.length-(intOf (.int .i64 (k:Int))).toNat
  simp [intOf]
  omega
set_option maxRecDepth 1000000 in
theorem prt_fns_round {w w2:World} {hi hj:Nat} {m:ModV} {A1 A2 A3 A6 A7 A8:Option Addr} {c1 c2 c3 c6 c7 c8:Nat} (C:Hid (PCtx w w2 hi hj m A1 c1 A2 c2 A3 c3 A6 c6 A7 c7 A8 c8)) {k:Nat} {wr:World} (hk:k≤m.fns.length) (HP:Hid (PR w2 wr (pv4 m++(m.fns.take k).flatMap fnT)))
 (s0 s2 s3 s4 s7 s8 s9 s10 s11 s12 s13 s14 s15 s16 s18 s20 s21 s22 s23 s24 s25 s26 s27 s28 s29 s30 s31 s32 s33 s34 s35 s36 s37 s38 s39 s40 s41 s42 s43 s44 s45 s46 s47 s48 s49 s50 s51 s52 s53 s54 s55 s56 s57 s58 s59 s60 s61 s62 s63 s64 s65 s66 s67 s68 s69 s70 s71 s72 s73 s74 s75 s76 s77 s78 s79 s80 s81 s82 s83 s84 s85 s86 s87 s88 s89 s90 s91 s92 s93 s94 s95 s96 s126 s127 s128 s129 s130 s131 s132 s133 s134 s135 s136 s137 s138 s139 s140 s141 s142 s143 s144 s145 s146 s147 s148 s149 s150 s151 s152 s153 s154 s155 s156 s157 s158 s159 s160 s161 s162 s163 s164 s165 s166 s167 s168 s169 s170 s171 s172 s173 s174 s175 u17 u19 u100 u101 u102 u103 u104 u105 u106 u107 u108 u109 u110 u111 u112 u113 u114 u115 u116 u117 u118 u119 u120 u121 u122 u123 u124 u125:Value) (K:Act→World→Prop) (Q:Exit→Act→World→Prop) (HK:Hid (∀(u17 u19 u100 u101 u102 u103 u104 u105 u106 u107 u108 u109 u110 u111 u112 u113 u114 u115 u116 u117 u118 u119 u120 u121 u122 u123 u124 u125:Value) (wx:World),k<m.fns.length→PR w2 wx (pv4 m++(m.fns.take (k+1)).flatMap fnT)→K ⟨(List.toArray (s0::(.pointer (some ⟨w.heap.size,0,none⟩))::s2::s3::s4::(.pointer (some ⟨w2.heap.size,0,none⟩))::(.func (.func 28) #[] #[.pointer (some ⟨w2.heap.size,0,none⟩)])::s7::s8::s9::s10::s11::s12::s13::s14::s15::s16::u17::s18::u19::s20::s21::s22::s23::s24::s25::s26::s27::s28::s29::s30::s31::s32::s33::s34::s35::s36::s37::s38::s39::s40::s41::s42::s43::s44::s45::s46::s47::s48::s49::s50::s51::s52::s53::s54::s55::s56::s57::s58::s59::s60::s61::s62::s63::s64::s65::s66::s67::s68::s69::s70::s71::s72::s73::s74::s75::s76::s77::s78::s79::s80::s81::s82::s83::s84::s85::s86::s87::s88::s89::s90::s91::s92::s93::s94::s95::s96::(.slice A6 m.fns.length c6)::(.int .i64 m.fns.length)::(.int .i64 ((k:Int)+1))::u100::u101::u102::u103::u104::u105::u106::u107::u108::u109::u110::u111::u112::u113::u114::u115::u116::u117::u118::u119::u120::u121::u122::u123::u124::u125::s126::s127::s128::s129::s130::s131::s132::s133::s134::s135::s136::s137::s138::s139::s140::s141::s142::s143::s144::s145::s146::s147::s148::s149::s150::s151::s152::s153::s154::s155::s156::s157::s158::s159::s160::s161::s162::s163::s164::s165::s166::s167::s168::s169::s170::s171::s172::s173::s174::s175:: [])),[]⟩ wx)) (HX:Hid (∀(u17 u19 u100 u101 u102 u103 u104 u105 u106 u107 u108 u109 u110 u111 u112 u113 u114 u115 u116 u117 u118 u119 u120 u121 u122 u123 u124 u125:Value) (wx:World),PR w2 wx (pv5 m)→Q (.exit 6) ⟨(List.toArray (s0::(.pointer (some ⟨w.heap.size,0,none⟩))::s2::s3::s4::(.pointer (some ⟨w2.heap.size,0,none⟩))::(.func (.func 28) #[] #[.pointer (some ⟨w2.heap.size,0,none⟩)])::s7::s8::s9::s10::s11::s12::s13::s14::s15::s16::u17::s18::u19::s20::s21::s22::s23::s24::s25::s26::s27::s28::s29::s30::s31::s32::s33::s34::s35::s36::s37::s38::s39::s40::s41::s42::s43::s44::s45::s46::s47::s48::s49::s50::s51::s52::s53::s54::s55::s56::s57::s58::s59::s60::s61::s62::s63::s64::s65::s66::s67::s68::s69::s70::s71::s72::s73::s74::s75::s76::s77::s78::s79::s80::s81::s82::s83::s84::s85::s86::s87::s88::s89::s90::s91::s92::s93::s94::s95::s96::(.slice A6 m.fns.length c6)::(.int .i64 m.fns.length)::(.int .i64 m.fns.length)::u100::u101::u102::u103::u104::u105::u106::u107::u108::u109::u110::u111::u112::u113::u114::u115::u116::u117::u118::u119::u120::u121::u122::u123::u124::u125::s126::s127::s128::s129::s130::s131::s132::s133::s134::s135::s136::s137::s138::s139::s140::s141::s142::s143::s144::s145::s146::s147::s148::s149::s150::s151::s152::s153::s154::s155::s156::s157::s158::s159::s160::s161::s162::s163::s164::s165::s166::s167::s168::s169::s170::s171::s172::s173::s174::s175:: [])),[]⟩ wx)):
 Code.wp prog (prtLoop 3) (Exit.then K Q) ⟨(List.toArray (s0::(.pointer (some ⟨w.heap.size,0,none⟩))::s2::s3::s4::(.pointer (some ⟨w2.heap.size,0,none⟩))::(.func (.func 28) #[] #[.pointer (some ⟨w2.heap.size,0,none⟩)])::s7::s8::s9::s10::s11::s12::s13::s14::s15::s16::u17::s18::u19::s20::s21::s22::s23::s24::s25::s26::s27::s28::s29::s30::s31::s32::s33::s34::s35::s36::s37::s38::s39::s40::s41::s42::s43::s44::s45::s46::s47::s48::s49::s50::s51::s52::s53::s54::s55::s56::s57::s58::s59::s60::s61::s62::s63::s64::s65::s66::s67::s68::s69::s70::s71::s72::s73::s74::s75::s76::s77::s78::s79::s80::s81::s82::s83::s84::s85::s86::s87::s88::s89::s90::s91::s92::s93::s94::s95::s96::(.slice A6 m.fns.length c6)::(.int .i64 m.fns.length)::(.int .i64 k)::u100::u101::u102::u103::u104::u105::u106::u107::u108::u109::u110::u111::u112::u113::u114::u115::u116::u117::u118::u119::u120::u121::u122::u123::u124::u125::s126::s127::s128::s129::s130::s131::s132::s133::s134::s135::s136::s137::s138::s139::s140::s141::s142::s143::s144::s145::s146::s147::s148::s149::s150::s151::s152::s153::s154::s155::s156::s157::s158::s159::s160::s161::s162::s163::s164::s165::s166::s167::s168::s169::s170::s171::s172::s173::s174::s175:: [])),[]⟩ wr:=by
 conv=>arg 2;whnf
 have HBW:=hideIt (C.out.bel.trans (HP.out.bel.mono C.out.bel.size))
 have hsz:w2.heap.size≤wr.heap.size:=HP.out.bel.size
 have hsw:w.heap.size<w2.heap.size:=C.out.lt
 have hszb:w2.heap.size<wr.heap.size:=by obtain⟨_,_,hb⟩:=HP.out.bld;exact hb.blk.lt
 have hhi:=C.out.hhi
 have hhj:=C.out.hhj
 have hk0:(0:Int)≤k:=by omega
 by_cases hlt:k<m.fns.length
 ·obtain⟨x,hx⟩: ∃x,m.fns[k]?=some x:=⟨_,List.getElem?_eq_getElem hlt⟩
  have hlti:decide ((k:Int)<m.fns.length)=true:=decide_eq_true (by omega)
  have hfew:m.fns.length≤2147483647:=by have:=C.out.few;unfold szMod at this;omega
  obtain⟨bk,ok,A_code,c_code,rfl,_,hbh,hc0,hc1,hc2,hb63,hsok,hcode⟩:=rFn_at C.out.h6 hx
  have hc0:=(HBW.out.cell (p:=⟨bk,ok+k*3,none⟩) (show bk<w.heap.size by omega)).trans hc0
  have hc1:=(HBW.out.cell (p:=⟨bk,ok+k*3+1,none⟩) (show bk<w.heap.size by omega)).trans hc1
  have hc2:=(HBW.out.cell (p:=⟨bk,ok+k*3+2,none⟩) (show bk<w.heap.size by omega)).trans hc2
  have HN1:=hideIt (flat_step (pv4 m) fnT hx)
  have HL1:=hideIt (flat_step_le (pv4 m) fnT hx)
  have HLEX:(pv4 m++m.fns.flatMap fnT).length≤1048576:=by have:=pv_le m C.out.le;first | exact this.2.1 | exact this.2.2.1 | exact this.2.2.2.1 | exact this.2.2.2.2.1 | exact this.2.2.2.2.2.1 | exact this.2.2.2.2.2.2.1 | exact this.2.2.2.2.2.2.2
  have HMX:=hideIt (List.mem_of_getElem? hx)
  clear hx
  have hfl:=fn_few HMX.out C.out.few
  have HCD:=hideIt hcode
  have HFN:Hid (fnT x=lineT [funcT,Lib.itoa x.t,sideT x.loc]++x.code.flatMap codeF):=hideIt rfl
  clear HX
  go_upto_region 30 with fail
  generalize hw3:World.alloc _ _=w3
  have hb3:Below wr.heap.size wr w3:=by rw [←hw3];exact(Below.refl _ _).alloc (Nat.le_refl _) _
  have hm3:Blk w3 wr.heap.size 56 [.int .i64 x.t,.string x.loc,.slice A_code x.code.length c_code]:=by rw [←hw3];exact Blk.new wr _ _
  have hs3:wr.heap.size<w3.heap.size:=hm3.lt
  have a0:=hm3.q 0 rfl;have a1:=hm3.q 1 rfl;have a2:=hm3.q 2 rfl
  have b0:=hm3.q 0 rfl;have b1:=hm3.q 1 rfl;have b2:=hm3.q 2 rfl
  have HM3:=hideIt hm3;have HB3:=hideIt hb3
  have HEV:Hid (∀W,Below wr.heap.size wr W→EnvAt hj W):=hideIt (fun W hW=>C.out.env.to ((HBW.out.trans (hW.mono (Nat.le_of_lt (Nat.lt_of_lt_of_le hsw hsz)))).mono hhj))
  clear hw3 hc0 hc1 hc2 hb3 hm3
  go_region_held3 (fun w'=>w'.cell? ⟨wr.heap.size,0,none⟩=some (.int .i64 x.t)∧w'.cell? ⟨wr.heap.size,1,none⟩=some (.string x.loc)∧w'.cell? ⟨wr.heap.size,2,none⟩=some (.slice A_code x.code.length c_code))
   (first | exact⟨a0,a1,a2⟩ | exact⟨b0,b1,b2⟩ | exact⟨d0,d1,d2⟩ | exact⟨d0a _,d1a _,d2a _⟩ | exact⟨f0,f1,f2⟩)
   (first
    | (go_at_call 32;refine(txt_num x.t hb63 w3.drew (HEV.out _ (HB3.out.drew)) (by simp;omega)).mono ?_;rintro e wa ⟨hba,rfl⟩;have hSa:=below_of_drew hba;have hSza:w3.heap.size≤wa.heap.size:=hSa.size;have hma:=HM3.out.below hSa hs3;have d0:=hma.q 0 rfl;have d1:=hma.q 1 rfl;have d2:=hma.q 2 rfl;have d0a: ∀o,(wa.alloc o).cell? ⟨wr.heap.size,0,none⟩=some (.int .i64 x.t):=fun o=>(hma.alloc o).cell 0;have d1a: ∀o,(wa.alloc o).cell? ⟨wr.heap.size,1,none⟩=some (.string x.loc):=fun o=>(hma.alloc o).cell 1;have d2a: ∀o,(wa.alloc o).cell? ⟨wr.heap.size,2,none⟩=some (.slice A_code x.code.length c_code):=fun o=>(hma.alloc o).cell 2;have HBa:=hideIt (HB3.out.trans (hSa.mono (Nat.le_of_lt hs3)));have HMa:=hideIt hma;clear hba hSa hma)
    | (go_at_call 35;refine(txt_said x.loc _).mono ?_;rintro e wq ⟨rfl,rfl⟩)
    | (go_at_call 28;refine(prt_row [funcW,bOf (Lib.itoa x.t),sideS x.loc] [funcT,Lib.itoa x.t,sideT x.loc] (by rw [side_bOf];rfl) 3 rfl _ wa (by simp) (HP.out.bld.below HBa.out) (by omega) (by have h1:=HL1.out;rw [HFN.out] at h1;simp only [List.length_append] at h1⊢;simp only [List.length_append] at HLEX;omega) (by decide)).mono ?_;rintro e w6 ⟨rfl,hA,hB,hK⟩;have HP6:=hideIt (PR.mk (HP.out.bel.trans ((HBa.out.mono hsz).trans hB)) hA);have hm6:=hK.blk HMa.out (by omega) (by decide);have f0:=hm6.q 0 rfl;have f1:=hm6.q 1 rfl;have f2:=hm6.q 2 rfl;clear hA hB hK hm6))
  go_wp2_with fail
  refine prt_code C (x:=x) HCD hfl.2 hfl.1 _ ?_ HP6 _ _ _ _ _ _ _ _ _ _ _ _ _ _ _ _ _ _ _ _ _ _ _ _ _ _ _ _ _ _ _ _ _ _ _ _ _ _ _ _ _ _ _ _ _ _ _ _ _ _ _ _ _ _ _ _ _ _ _ _ _ _ _ _ _ _ _ _ _ _ _ _ _ _ _ _ _ _ _ _ _ _ _ _ _ _ _ _ _ _ _ _ _ _ _ _ _ _ _ _ _ _ _ _ _ _ _ _ _ _ _ _ _ _ _ _ _ _ _ _ _ _ _ _ _ _ _ _ _ _ _ _ _ _ _ _ _ _ _ _ _ _ _ _ _ _ _ _ _ _ _ _ _ _ _ _ _ _ _ _ _ _ _ _ _ _ _ _ _ _ _ (hideIt ?_)
  ·have h1:=Nat.le_trans HL1.out HLEX
   rw [HFN.out,←List.append_assoc] at h1
   exact h1
  intro v0 v1 v2 v3 v4 v5 v6 v7 v8 v9 wx hpx
  have HPX:Hid (PR w2 wx (pv4 m++(m.fns.take (k+1)).flatMap fnT)):=hideIt (by rw [←HN1.out,HFN.out,←List.append_assoc];exact hpx)
  clear hpx
  go_wp2_with fail
  apply HK.out
  ·exact hlt
  ·exact HPX.out
 ·obtain rfl:k=m.fns.length:=by omega
  have hlti:decide ((m.fns.length:Int)<m.fns.length)=false:=decide_eq_false (by omega)
  have HPX:Hid (PR w2 wr (pv5 m)):=hideIt (by have:=HP.out;rw [List.take_length] at this;exact this)
  clear HP HK
  go_wp2_with fail
  apply HX.out
  exact HPX.out
set_option maxRecDepth 1000000 in
theorem prt_fns {w w2:World} {hi hj:Nat} {m:ModV} {A1 A2 A3 A6 A7 A8:Option Addr} {c1 c2 c3 c6 c7 c8:Nat} (C:Hid (PCtx w w2 hi hj m A1 c1 A2 c2 A3 c3 A6 c6 A7 c7 A8 c8)) {wr:World} (HP:Hid (PR w2 wr (pv4 m)))
 (s0 s2 s3 s4 s7 s8 s9 s10 s11 s12 s13 s14 s15 s16 s18 s20 s21 s22 s23 s24 s25 s26 s27 s28 s29 s30 s31 s32 s33 s34 s35 s36 s37 s38 s39 s40 s41 s42 s43 s44 s45 s46 s47 s48 s49 s50 s51 s52 s53 s54 s55 s56 s57 s58 s59 s60 s61 s62 s63 s64 s65 s66 s67 s68 s69 s70 s71 s72 s73 s74 s75 s76 s77 s78 s79 s80 s81 s82 s83 s84 s85 s86 s87 s88 s89 s90 s91 s92 s93 s94 s95 s96 s126 s127 s128 s129 s130 s131 s132 s133 s134 s135 s136 s137 s138 s139 s140 s141 s142 s143 s144 s145 s146 s147 s148 s149 s150 s151 s152 s153 s154 s155 s156 s157 s158 s159 s160 s161 s162 s163 s164 s165 s166 s167 s168 s169 s170 s171 s172 s173 s174 s175 u17 u19 u100 u101 u102 u103 u104 u105 u106 u107 u108 u109 u110 u111 u112 u113 u114 u115 u116 u117 u118 u119 u120 u121 u122 u123 u124 u125:Value) (Q0:Exit→Act→World→Prop) (HX:Hid (∀(u17 u19 u100 u101 u102 u103 u104 u105 u106 u107 u108 u109 u110 u111 u112 u113 u114 u115 u116 u117 u118 u119 u120 u121 u122 u123 u124 u125:Value) (wx:World),PR w2 wx (pv5 m)→Q0 (.exit 6) ⟨(List.toArray (s0::(.pointer (some ⟨w.heap.size,0,none⟩))::s2::s3::s4::(.pointer (some ⟨w2.heap.size,0,none⟩))::(.func (.func 28) #[] #[.pointer (some ⟨w2.heap.size,0,none⟩)])::s7::s8::s9::s10::s11::s12::s13::s14::s15::s16::u17::s18::u19::s20::s21::s22::s23::s24::s25::s26::s27::s28::s29::s30::s31::s32::s33::s34::s35::s36::s37::s38::s39::s40::s41::s42::s43::s44::s45::s46::s47::s48::s49::s50::s51::s52::s53::s54::s55::s56::s57::s58::s59::s60::s61::s62::s63::s64::s65::s66::s67::s68::s69::s70::s71::s72::s73::s74::s75::s76::s77::s78::s79::s80::s81::s82::s83::s84::s85::s86::s87::s88::s89::s90::s91::s92::s93::s94::s95::s96::(.slice A6 m.fns.length c6)::(.int .i64 m.fns.length)::(.int .i64 m.fns.length)::u100::u101::u102::u103::u104::u105::u106::u107::u108::u109::u110::u111::u112::u113::u114::u115::u116::u117::u118::u119::u120::u121::u122::u123::u124::u125::s126::s127::s128::s129::s130::s131::s132::s133::s134::s135::s136::s137::s138::s139::s140::s141::s142::s143::s144::s145::s146::s147::s148::s149::s150::s151::s152::s153::s154::s155::s156::s157::s158::s159::s160::s161::s162::s163::s164::s165::s166::s167::s168::s169::s170::s171::s172::s173::s174::s175:: [])),[]⟩ wx)):
 Code.wp prog (Code.loop (prtLoop 3)) Q0 ⟨(List.toArray (s0::(.pointer (some ⟨w.heap.size,0,none⟩))::s2::s3::s4::(.pointer (some ⟨w2.heap.size,0,none⟩))::(.func (.func 28) #[] #[.pointer (some ⟨w2.heap.size,0,none⟩)])::s7::s8::s9::s10::s11::s12::s13::s14::s15::s16::u17::s18::u19::s20::s21::s22::s23::s24::s25::s26::s27::s28::s29::s30::s31::s32::s33::s34::s35::s36::s37::s38::s39::s40::s41::s42::s43::s44::s45::s46::s47::s48::s49::s50::s51::s52::s53::s54::s55::s56::s57::s58::s59::s60::s61::s62::s63::s64::s65::s66::s67::s68::s69::s70::s71::s72::s73::s74::s75::s76::s77::s78::s79::s80::s81::s82::s83::s84::s85::s86::s87::s88::s89::s90::s91::s92::s93::s94::s95::s96::(.slice A6 m.fns.length c6)::(.int .i64 m.fns.length)::(.int .i64 0)::u100::u101::u102::u103::u104::u105::u106::u107::u108::u109::u110::u111::u112::u113::u114::u115::u116::u117::u118::u119::u120::u121::u122::u123::u124::u125::s126::s127::s128::s129::s130::s131::s132::s133::s134::s135::s136::s137::s138::s139::s140::s141::s142::s143::s144::s145::s146::s147::s148::s149::s150::s151::s152::s153::s154::s155::s156::s157::s158::s159::s160::s161::s162::s163::s164::s165::s166::s167::s168::s169::s170::s171::s172::s173::s174::s175:: [])),[]⟩ wr:=by
 refine wp_loop (fun a wx=> ∃(u17 u19 u100 u101 u102 u103 u104 u105 u106 u107 u108 u109 u110 u111 u112 u113 u114 u115 u116 u117 u118 u119 u120 u121 u122 u123 u124 u125:Value) (k:Nat),k≤m.fns.length∧PR w2 wx (pv4 m++(m.fns.take k).flatMap fnT)∧a=⟨(List.toArray (s0::(.pointer (some ⟨w.heap.size,0,none⟩))::s2::s3::s4::(.pointer (some ⟨w2.heap.size,0,none⟩))::(.func (.func 28) #[] #[.pointer (some ⟨w2.heap.size,0,none⟩)])::s7::s8::s9::s10::s11::s12::s13::s14::s15::s16::u17::s18::u19::s20::s21::s22::s23::s24::s25::s26::s27::s28::s29::s30::s31::s32::s33::s34::s35::s36::s37::s38::s39::s40::s41::s42::s43::s44::s45::s46::s47::s48::s49::s50::s51::s52::s53::s54::s55::s56::s57::s58::s59::s60::s61::s62::s63::s64::s65::s66::s67::s68::s69::s70::s71::s72::s73::s74::s75::s76::s77::s78::s79::s80::s81::s82::s83::s84::s85::s86::s87::s88::s89::s90::s91::s92::s93::s94::s95::s96::(.slice A6 m.fns.length c6)::(.int .i64 m.fns.length)::(.int .i64 k)::u100::u101::u102::u103::u104::u105::u106::u107::u108::u109::u110::u111::u112::u113::u114::u115::u116::u117::u118::u119::u120::u121::u122::u123::u124::u125::s126::s127::s128::s129::s130::s131::s132::s133::s134::s135::s136::s137::s138::s139::s140::s141::s142::s143::s144::s145::s146::s147::s148::s149::s150::s151::s152::s153::s154::s155::s156::s157::s158::s159::s160::s161::s162::s163::s164::s165::s166::s167::s168::s169::s170::s171::s172::s173::s174::s175:: [])),[]⟩) (fun a _=>m.fns.length-(intOf (a.tmps.getD 99 undef)).toNat) ?_ ?_
 ·exact⟨u17,u19,u100,u101,u102,u103,u104,u105,u106,u107,u108,u109,u110,u111,u112,u113,u114,u115,u116,u117,u118,u119,u120,u121,u122,u123,u124,u125,0,Nat.zero_le _,by rw [List.take_zero,List.flatMap_nil,List.append_nil];exact HP.out,rfl⟩
 ·intro a wx hI
  obtain⟨u17,hI⟩:=hI
  obtain⟨u19,hI⟩:=hI
  obtain⟨u100,hI⟩:=hI
  obtain⟨u101,hI⟩:=hI
  obtain⟨u102,hI⟩:=hI
  obtain⟨u103,hI⟩:=hI
  obtain⟨u104,hI⟩:=hI
  obtain⟨u105,hI⟩:=hI
  obtain⟨u106,hI⟩:=hI
  obtain⟨u107,hI⟩:=hI
  obtain⟨u108,hI⟩:=hI
  obtain⟨u109,hI⟩:=hI
  obtain⟨u110,hI⟩:=hI
  obtain⟨u111,hI⟩:=hI
  obtain⟨u112,hI⟩:=hI
  obtain⟨u113,hI⟩:=hI
  obtain⟨u114,hI⟩:=hI
  obtain⟨u115,hI⟩:=hI
  obtain⟨u116,hI⟩:=hI
  obtain⟨u117,hI⟩:=hI
  obtain⟨u118,hI⟩:=hI
  obtain⟨u119,hI⟩:=hI
  obtain⟨u120,hI⟩:=hI
  obtain⟨u121,hI⟩:=hI
  obtain⟨u122,hI⟩:=hI
  obtain⟨u123,hI⟩:=hI
  obtain⟨u124,hI⟩:=hI
  obtain⟨u125,hI⟩:=hI
  obtain⟨k,hk,hp,rfl⟩:=hI
  refine prt_fns_round C hk (hideIt hp) _ _ _ _ _ _ _ _ _ _ _ _ _ _ _ _ _ _ _ _ _ _ _ _ _ _ _ _ _ _ _ _ _ _ _ _ _ _ _ _ _ _ _ _ _ _ _ _ _ _ _ _ _ _ _ _ _ _ _ _ _ _ _ _ _ _ _ _ _ _ _ _ _ _ _ _ _ _ _ _ _ _ _ _ _ _ _ _ _ _ _ _ _ _ _ _ _ _ _ _ _ _ _ _ _ _ _ _ _ _ _ _ _ _ _ _ _ _ _ _ _ _ _ _ _ _ _ _ _ _ _ _ _ _ _ _ _ _ _ _ _ _ _ _ _ _ _ _ _ _ _ _ _ _ _ _ _ _ _ _ _ _ _ _ _ _ _ _ _ _ _ _ (hideIt ?_) HX
  intro u17 u19 u100 u101 u102 u103 u104 u105 u106 u107 u108 u109 u110 u111 u112 u113 u114 u115 u116 u117 u118 u119 u120 u121 u122 u123 u124 u125 wy hlt hp2
  refine⟨⟨u17,u19,u100,u101,u102,u103,u104,u105,u106,u107,u108,u109,u110,u111,u112,u113,u114,u115,u116,u117,u118,u119,u120,u121,u122,u123,u124,u125,k+1,hlt,hp2,rfl⟩,?_⟩
  show m.fns.length-(intOf (.int .i64 ((k+1:Nat):Int))).toNat<m.fns.length-(intOf (.int .i64 (k:Int))).toNat
  simp [intOf]
  omega
end Go.Proofs.YtebgikflpgcnlaaGreatDoor
