/- Part 20 of the proof: PrtC PrtH -/
import Derived.Test.YtebgikflpgcnlaaGreatDoorT19
namespace Go.Proofs.YtebgikflpgcnlaaGreatDoor
set_option linter.unusedVariables false
set_option linter.unusedSimpArgs false
set_option maxRecDepth 100000
set_option maxHeartbeats 4000000
open Go.RowKit Tryz
set_option maxRecDepth 1000000 in
theorem prt_types_round {w w2:World} {hi hj:Nat} {m:ModV} {A1 A2 A3 A6 A7 A8:Option Addr} {c1 c2 c3 c6 c7 c8:Nat} (C:Hid (PCtx w w2 hi hj m A1 c1 A2 c2 A3 c3 A6 c6 A7 c7 A8 c8)) {k:Nat} {wr:World} (hk:k≤m.types.length) (HP:Hid (PR w2 wr (pv0 m++(m.types.take k).flatMap typF)))
 (s0 s2 s3 s4 s7 s11 s12 s13 s14 s15 s16 s17 s18 s19 s20 s21 s22 s23 s24 s25 s26 s27 s28 s29 s30 s31 s32 s33 s34 s35 s36 s53 s54 s55 s56 s57 s58 s59 s60 s61 s62 s63 s64 s65 s66 s67 s68 s69 s70 s71 s72 s73 s74 s75 s76 s77 s78 s79 s80 s81 s82 s83 s84 s85 s86 s87 s88 s89 s90 s91 s92 s93 s94 s95 s96 s97 s98 s99 s100 s101 s102 s103 s104 s105 s106 s107 s108 s109 s110 s111 s112 s113 s114 s115 s116 s117 s118 s119 s120 s121 s122 s123 s124 s125 s126 s127 s128 s129 s130 s131 s132 s133 s134 s135 s136 s137 s138 s139 s140 s141 s142 s143 s144 s145 s146 s147 s148 s149 s150 s151 s152 s153 s154 s155 s156 s157 s158 s159 s160 s161 s162 s163 s164 s165 s166 s167 s168 s169 s170 s171 s172 s173 s174 s175 u8 u9 u10 u40 u41 u42 u43 u44 u45 u46 u47 u48 u49 u50 u51 u52:Value) (K:Act→World→Prop) (Q:Exit→Act→World→Prop) (HK:Hid (∀(u8 u9 u10 u40 u41 u42 u43 u44 u45 u46 u47 u48 u49 u50 u51 u52:Value) (wx:World),k<m.types.length→PR w2 wx (pv0 m++(m.types.take (k+1)).flatMap typF)→K ⟨(List.toArray (s0::(.pointer (some ⟨w.heap.size,0,none⟩))::s2::s3::s4::(.pointer (some ⟨w2.heap.size,0,none⟩))::(.func (.func 28) #[] #[.pointer (some ⟨w2.heap.size,0,none⟩)])::s7::u8::u9::u10::s11::s12::s13::s14::s15::s16::s17::s18::s19::s20::s21::s22::s23::s24::s25::s26::s27::s28::s29::s30::s31::s32::s33::s34::s35::s36::(.slice A1 m.types.length c1)::(.int .i64 m.types.length)::(.int .i64 ((k:Int)+1))::u40::u41::u42::u43::u44::u45::u46::u47::u48::u49::u50::u51::u52::s53::s54::s55::s56::s57::s58::s59::s60::s61::s62::s63::s64::s65::s66::s67::s68::s69::s70::s71::s72::s73::s74::s75::s76::s77::s78::s79::s80::s81::s82::s83::s84::s85::s86::s87::s88::s89::s90::s91::s92::s93::s94::s95::s96::s97::s98::s99::s100::s101::s102::s103::s104::s105::s106::s107::s108::s109::s110::s111::s112::s113::s114::s115::s116::s117::s118::s119::s120::s121::s122::s123::s124::s125::s126::s127::s128::s129::s130::s131::s132::s133::s134::s135::s136::s137::s138::s139::s140::s141::s142::s143::s144::s145::s146::s147::s148::s149::s150::s151::s152::s153::s154::s155::s156::s157::s158::s159::s160::s161::s162::s163::s164::s165::s166::s167::s168::s169::s170::s171::s172::s173::s174::s175:: [])),[]⟩ wx)) (HX:Hid (∀(u8 u9 u10 u40 u41 u42 u43 u44 u45 u46 u47 u48 u49 u50 u51 u52:Value) (wx:World),PR w2 wx (pv1 m)→Q (.exit 0) ⟨(List.toArray (s0::(.pointer (some ⟨w.heap.size,0,none⟩))::s2::s3::s4::(.pointer (some ⟨w2.heap.size,0,none⟩))::(.func (.func 28) #[] #[.pointer (some ⟨w2.heap.size,0,none⟩)])::s7::u8::u9::u10::s11::s12::s13::s14::s15::s16::s17::s18::s19::s20::s21::s22::s23::s24::s25::s26::s27::s28::s29::s30::s31::s32::s33::s34::s35::s36::(.slice A1 m.types.length c1)::(.int .i64 m.types.length)::(.int .i64 m.types.length)::u40::u41::u42::u43::u44::u45::u46::u47::u48::u49::u50::u51::u52::s53::s54::s55::s56::s57::s58::s59::s60::s61::s62::s63::s64::s65::s66::s67::s68::s69::s70::s71::s72::s73::s74::s75::s76::s77::s78::s79::s80::s81::s82::s83::s84::s85::s86::s87::s88::s89::s90::s91::s92::s93::s94::s95::s96::s97::s98::s99::s100::s101::s102::s103::s104::s105::s106::s107::s108::s109::s110::s111::s112::s113::s114::s115::s116::s117::s118::s119::s120::s121::s122::s123::s124::s125::s126::s127::s128::s129::s130::s131::s132::s133::s134::s135::s136::s137::s138::s139::s140::s141::s142::s143::s144::s145::s146::s147::s148::s149::s150::s151::s152::s153::s154::s155::s156::s157::s158::s159::s160::s161::s162::s163::s164::s165::s166::s167::s168::s169::s170::s171::s172::s173::s174::s175:: [])),[]⟩ wx)):
 Code.wp prog (prtLoop 0) (Exit.then K Q) ⟨(List.toArray (s0::(.pointer (some ⟨w.heap.size,0,none⟩))::s2::s3::s4::(.pointer (some ⟨w2.heap.size,0,none⟩))::(.func (.func 28) #[] #[.pointer (some ⟨w2.heap.size,0,none⟩)])::s7::u8::u9::u10::s11::s12::s13::s14::s15::s16::s17::s18::s19::s20::s21::s22::s23::s24::s25::s26::s27::s28::s29::s30::s31::s32::s33::s34::s35::s36::(.slice A1 m.types.length c1)::(.int .i64 m.types.length)::(.int .i64 k)::u40::u41::u42::u43::u44::u45::u46::u47::u48::u49::u50::u51::u52::s53::s54::s55::s56::s57::s58::s59::s60::s61::s62::s63::s64::s65::s66::s67::s68::s69::s70::s71::s72::s73::s74::s75::s76::s77::s78::s79::s80::s81::s82::s83::s84::s85::s86::s87::s88::s89::s90::s91::s92::s93::s94::s95::s96::s97::s98::s99::s100::s101::s102::s103::s104::s105::s106::s107::s108::s109::s110::s111::s112::s113::s114::s115::s116::s117::s118::s119::s120::s121::s122::s123::s124::s125::s126::s127::s128::s129::s130::s131::s132::s133::s134::s135::s136::s137::s138::s139::s140::s141::s142::s143::s144::s145::s146::s147::s148::s149::s150::s151::s152::s153::s154::s155::s156::s157::s158::s159::s160::s161::s162::s163::s164::s165::s166::s167::s168::s169::s170::s171::s172::s173::s174::s175:: [])),[]⟩ wr:=by
 conv=>arg 2;whnf
 have HBW:=hideIt (C.out.bel.trans (HP.out.bel.mono C.out.bel.size))
 have hsz:w2.heap.size≤wr.heap.size:=HP.out.bel.size
 have hsw:w.heap.size<w2.heap.size:=C.out.lt
 have hszb:w2.heap.size<wr.heap.size:=by obtain⟨_,_,hb⟩:=HP.out.bld;exact hb.blk.lt
 have hhi:=C.out.hhi
 have hhj:=C.out.hhj
 have hk0:(0:Int)≤k:=by omega
 by_cases hlt:k<m.types.length
 ·obtain⟨x,hx⟩: ∃x,m.types[k]?=some x:=⟨_,List.getElem?_eq_getElem hlt⟩
  have hlti:decide ((k:Int)<m.types.length)=true:=decide_eq_true (by omega)
  have hfew:m.types.length≤2147483647:=by have:=C.out.few;unfold szMod at this;omega
  obtain⟨bk,ok,rfl,_,hbh,hc0,hc1,ho0,ho1⟩:=rSig_at (Rd.below C.out.h1 HBW.out hhi) hx
  have HN1:=hideIt (flat_step (pv0 m) typF hx)
  have HL1:=hideIt (flat_step_le (pv0 m) typF hx)
  have HLEX:(pv0 m++m.types.flatMap typF).length≤1048576:=by have:=pv_le m C.out.le;first | exact this.2.1 | exact this.2.2.1 | exact this.2.2.2.1 | exact this.2.2.2.2.1 | exact this.2.2.2.2.2.1 | exact this.2.2.2.2.2.2.1 | exact this.2.2.2.2.2.2.2
  have HMX:=hideIt (List.mem_of_getElem? hx)
  clear hx
  have HW:=hideIt (word_sig (C.out.fine.types x HMX.out).1)
  clear HX
  go_wp2_with fail
  refine(types_Word x.p x.r ho0 ho1 _).mono ?_
  rintro e w5 ⟨hb5,rfl⟩
  have hb5:Below wr.heap.size wr w5:=((Below.refl _ _).alloc (Nat.le_refl _) _).trans (hb5.mono (by simp))
  have hs5:wr.heap.size≤w5.heap.size:=hb5.size
  rw [HW.out]
  go_wp2_with fail
  refine(prt_row [typeW,bOf (sigT x)] [typeT,sigT x] (by rw [List.map_cons,List.map_cons,List.map_nil];simp [bOf];rfl) 2 rfl _ w5 (by simp) (HP.out.bld.below hb5) (by omega) (Nat.le_trans HL1.out HLEX) (by decide)).mono ?_
  rintro e w6 ⟨rfl,hA,hB,hK⟩
  have HP6:=hideIt (PR.mk (HP.out.bel.trans ((hb5.mono hsz).trans hB)) (HN1.out▸hA))
  clear hA hB hK
  go_wp2_with fail
  apply HK.out
  ·exact hlt
  ·exact HP6.out
 ·obtain rfl:k=m.types.length:=by omega
  have hlti:decide ((m.types.length:Int)<m.types.length)=false:=decide_eq_false (by omega)
  have HPX:Hid (PR w2 wr (pv1 m)):=hideIt (by have:=HP.out;rw [List.take_length] at this;exact this)
  clear HP HK
  go_wp2_with fail
  apply HX.out
  exact HPX.out
set_option maxRecDepth 1000000 in
theorem prt_types {w w2:World} {hi hj:Nat} {m:ModV} {A1 A2 A3 A6 A7 A8:Option Addr} {c1 c2 c3 c6 c7 c8:Nat} (C:Hid (PCtx w w2 hi hj m A1 c1 A2 c2 A3 c3 A6 c6 A7 c7 A8 c8)) {wr:World} (HP:Hid (PR w2 wr (pv0 m)))
 (s0 s2 s3 s4 s7 s11 s12 s13 s14 s15 s16 s17 s18 s19 s20 s21 s22 s23 s24 s25 s26 s27 s28 s29 s30 s31 s32 s33 s34 s35 s36 s53 s54 s55 s56 s57 s58 s59 s60 s61 s62 s63 s64 s65 s66 s67 s68 s69 s70 s71 s72 s73 s74 s75 s76 s77 s78 s79 s80 s81 s82 s83 s84 s85 s86 s87 s88 s89 s90 s91 s92 s93 s94 s95 s96 s97 s98 s99 s100 s101 s102 s103 s104 s105 s106 s107 s108 s109 s110 s111 s112 s113 s114 s115 s116 s117 s118 s119 s120 s121 s122 s123 s124 s125 s126 s127 s128 s129 s130 s131 s132 s133 s134 s135 s136 s137 s138 s139 s140 s141 s142 s143 s144 s145 s146 s147 s148 s149 s150 s151 s152 s153 s154 s155 s156 s157 s158 s159 s160 s161 s162 s163 s164 s165 s166 s167 s168 s169 s170 s171 s172 s173 s174 s175 u8 u9 u10 u40 u41 u42 u43 u44 u45 u46 u47 u48 u49 u50 u51 u52:Value) (Q0:Exit→Act→World→Prop) (HX:Hid (∀(u8 u9 u10 u40 u41 u42 u43 u44 u45 u46 u47 u48 u49 u50 u51 u52:Value) (wx:World),PR w2 wx (pv1 m)→Q0 (.exit 0) ⟨(List.toArray (s0::(.pointer (some ⟨w.heap.size,0,none⟩))::s2::s3::s4::(.pointer (some ⟨w2.heap.size,0,none⟩))::(.func (.func 28) #[] #[.pointer (some ⟨w2.heap.size,0,none⟩)])::s7::u8::u9::u10::s11::s12::s13::s14::s15::s16::s17::s18::s19::s20::s21::s22::s23::s24::s25::s26::s27::s28::s29::s30::s31::s32::s33::s34::s35::s36::(.slice A1 m.types.length c1)::(.int .i64 m.types.length)::(.int .i64 m.types.length)::u40::u41::u42::u43::u44::u45::u46::u47::u48::u49::u50::u51::u52::s53::s54::s55::s56::s57::s58::s59::s60::s61::s62::s63::s64::s65::s66::s67::s68::s69::s70::s71::s72::s73::s74::s75::s76::s77::s78::s79::s80::s81::s82::s83::s84::s85::s86::s87::s88::s89::s90::s91::s92::s93::s94::s95::s96::s97::s98::s99::s100::s101::s102::s103::s104::s105::s106::s107::s108::s109::s110::s111::s112::s113::s114::s115::s116::s117::s118::s119::s120::s121::s122::s123::s124::s125::s126::s127::s128::s129::s130::s131::s132::s133::s134::s135::s136::s137::s138::s139::s140::s141::s142::s143::s144::s145::s146::s147::s148::s149::s150::s151::s152::s153::s154::s155::s156::s157::s158::s159::s160::s161::s162::s163::s164::s165::s166::s167::s168::s169::s170::s171::s172::s173::s174::s175:: [])),[]⟩ wx)):
 Code.wp prog (Code.loop (prtLoop 0)) Q0 ⟨(List.toArray (s0::(.pointer (some ⟨w.heap.size,0,none⟩))::s2::s3::s4::(.pointer (some ⟨w2.heap.size,0,none⟩))::(.func (.func 28) #[] #[.pointer (some ⟨w2.heap.size,0,none⟩)])::s7::u8::u9::u10::s11::s12::s13::s14::s15::s16::s17::s18::s19::s20::s21::s22::s23::s24::s25::s26::s27::s28::s29::s30::s31::s32::s33::s34::s35::s36::(.slice A1 m.types.length c1)::(.int .i64 m.types.length)::(.int .i64 0)::u40::u41::u42::u43::u44::u45::u46::u47::u48::u49::u50::u51::u52::s53::s54::s55::s56::s57::s58::s59::s60::s61::s62::s63::s64::s65::s66::s67::s68::s69::s70::s71::s72::s73::s74::s75::s76::s77::s78::s79::s80::s81::s82::s83::s84::s85::s86::s87::s88::s89::s90::s91::s92::s93::s94::s95::s96::s97::s98::s99::s100::s101::s102::s103::s104::s105::s106::s107::s108::s109::s110::s111::s112::s113::s114::s115::s116::s117::s118::s119::s120::s121::s122::s123::s124::s125::s126::s127::s128::s129::s130::s131::s132::s133::s134::s135::s136::s137::s138::s139::s140::s141::s142::s143::s144::s145::s146::s147::s148::s149::s150::s151::s152::s153::s154::s155::s156::s157::s158::s159::s160::s161::s162::s163::s164::s165::s166::s167::s168::s169::s170::s171::s172::s173::s174::s175:: [])),[]⟩ wr:=by
 refine wp_loop (fun a wx=> ∃(u8 u9 u10 u40 u41 u42 u43 u44 u45 u46 u47 u48 u49 u50 u51 u52:Value) (k:Nat),k≤m.types.length∧PR w2 wx (pv0 m++(m.types.take k).flatMap typF)∧a=⟨(List.toArray (s0::(.pointer (some ⟨w.heap.size,0,none⟩))::s2::s3::s4::(.pointer (some ⟨w2.heap.size,0,none⟩))::(.func (.func 28) #[] #[.pointer (some ⟨w2.heap.size,0,none⟩)])::s7::u8::u9::u10::s11::s12::s13::s14::s15::s16::s17::s18::s19::s20::s21::s22::s23::s24::s25::s26::s27::s28::s29::s30::s31::s32::s33::s34::s35::s36::(.slice A1 m.types.length c1)::(.int .i64 m.types.length)::(.int .i64 k)::u40::u41::u42::u43::u44::u45::u46::u47::u48::u49::u50::u51::u52::s53::s54::s55::s56::s57::s58::s59::s60::s61::s62::s63::s64::s65::s66::s67::s68::s69::s70::s71::s72::s73::s74::s75::s76::s77::s78::s79::s80::s81::s82::s83::s84::s85::s86::s87::s88::s89::s90::s91::s92::s93::s94::s95::s96::s97::s98::s99::s100::s101::s102::s103::s104::s105::s106::s107::s108::s109::s110::s111::s112::s113::s114::s115::s116::s117::s118::s119::s120::s121::s122::s123::s124::s125::s126::s127::s128::s129::s130::s131::s132::s133::s134::s135::s136::s137::s138::s139::s140::s141::s142::s143::s144::s145::s146::s147::s148::s149::s150::s151::s152::s153::s154::s155::s156::s157::s158::s159::s160::s161::s162::s163::s164::s165::s166::s167::s168::s169::s170::s171::s172::s173::s174::s175:: [])),[]⟩) (fun a _=>m.types.length-(intOf (a.tmps.getD 39 undef)).toNat) ?_ ?_
 ·exact⟨u8,u9,u10,u40,u41,u42,u43,u44,u45,u46,u47,u48,u49,u50,u51,u52,0,Nat.zero_le _,by rw [List.take_zero,List.flatMap_nil,List.append_nil];exact HP.out,rfl⟩
 ·intro a wx hI
  obtain⟨u8,hI⟩:=hI
  obtain⟨u9,hI⟩:=hI
  obtain⟨u10,hI⟩:=hI
  obtain⟨u40,hI⟩:=hI
  obtain⟨u41,hI⟩:=hI
  obtain⟨u42,hI⟩:=hI
  obtain⟨u43,hI⟩:=hI
  obtain⟨u44,hI⟩:=hI
  obtain⟨u45,hI⟩:=hI
  obtain⟨u46,hI⟩:=hI
  obtain⟨u47,hI⟩:=hI
  obtain⟨u48,hI⟩:=hI
  obtain⟨u49,hI⟩:=hI
  obtain⟨u50,hI⟩:=hI
  obtain⟨u51,hI⟩:=hI
  obtain⟨u52,hI⟩:=hI
  obtain⟨k,hk,hp,rfl⟩:=hI
  refine prt_types_round C hk (hideIt hp) _ _ _ _ _ _ _ _ _ _ _ _ _ _ _ _ _ _ _ _ _ _ _ _ _ _ _ _ _ _ _ _ _ _ _ _ _ _ _ _ _ _ _ _ _ _ _ _ _ _ _ _ _ _ _ _ _ _ _ _ _ _ _ _ _ _ _ _ _ _ _ _ _ _ _ _ _ _ _ _ _ _ _ _ _ _ _ _ _ _ _ _ _ _ _ _ _ _ _ _ _ _ _ _ _ _ _ _ _ _ _ _ _ _ _ _ _ _ _ _ _ _ _ _ _ _ _ _ _ _ _ _ _ _ _ _ _ _ _ _ _ _ _ _ _ _ _ _ _ _ _ _ _ _ _ _ _ _ _ _ _ _ _ _ _ _ _ _ _ _ _ _ (hideIt ?_) HX
  intro u8 u9 u10 u40 u41 u42 u43 u44 u45 u46 u47 u48 u49 u50 u51 u52 wy hlt hp2
  refine⟨⟨u8,u9,u10,u40,u41,u42,u43,u44,u45,u46,u47,u48,u49,u50,u51,u52,k+1,hlt,hp2,rfl⟩,?_⟩
  show m.types.length-(intOf (.int .i64 ((k+1:Nat):Int))).toNat<m.types.length-(intOf (.int .i64 (k:Int))).toNat
  simp [intOf]
  omega
set_option maxRecDepth 1000000 in
theorem prt_exps_round {w w2:World} {hi hj:Nat} {m:ModV} {A1 A2 A3 A6 A7 A8:Option Addr} {c1 c2 c3 c6 c7 c8:Nat} (C:Hid (PCtx w w2 hi hj m A1 c1 A2 c2 A3 c3 A6 c6 A7 c7 A8 c8)) {k:Nat} {wr:World} (hk:k≤m.exps.length) (HP:Hid (PR w2 wr (pv6 m++(m.exps.take k).flatMap expT)))
 (s0 s2 s3 s4 s7 s8 s9 s10 s11 s12 s13 s14 s15 s16 s17 s18 s19 s20 s21 s22 s23 s24 s25 s27 s28 s29 s30 s31 s32 s33 s34 s35 s36 s37 s38 s39 s40 s41 s42 s43 s44 s45 s46 s47 s48 s49 s50 s51 s52 s53 s54 s55 s56 s57 s58 s59 s60 s61 s62 s63 s64 s65 s66 s67 s68 s69 s70 s71 s72 s73 s74 s75 s76 s77 s78 s79 s80 s81 s82 s83 s84 s85 s86 s87 s88 s89 s90 s91 s92 s93 s94 s95 s96 s97 s98 s99 s100 s101 s102 s103 s104 s105 s106 s107 s108 s109 s110 s111 s112 s113 s114 s115 s116 s117 s118 s119 s120 s121 s122 s123 s124 s125 s126 s127 s128 s129 s130 s131 s132 s133 s134 s135 s136 s137 s138 s139 s140 s141 s142 s143 s144 s145 s146 s147 s148 s149 s150 s151 s152 s153 s154 s155 s156 s157 s158 s159 s175 u26 u163 u164 u165 u166 u167 u168 u169 u170 u171 u172 u173 u174:Value) (K:Act→World→Prop) (Q:Exit→Act→World→Prop) (HK:Hid (∀(u26 u163 u164 u165 u166 u167 u168 u169 u170 u171 u172 u173 u174:Value) (wx:World),k<m.exps.length→PR w2 wx (pv6 m++(m.exps.take (k+1)).flatMap expT)→K ⟨(List.toArray (s0::(.pointer (some ⟨w.heap.size,0,none⟩))::s2::s3::s4::(.pointer (some ⟨w2.heap.size,0,none⟩))::(.func (.func 28) #[] #[.pointer (some ⟨w2.heap.size,0,none⟩)])::s7::s8::s9::s10::s11::s12::s13::s14::s15::s16::s17::s18::s19::s20::s21::s22::s23::s24::s25::u26::s27::s28::s29::s30::s31::s32::s33::s34::s35::s36::s37::s38::s39::s40::s41::s42::s43::s44::s45::s46::s47::s48::s49::s50::s51::s52::s53::s54::s55::s56::s57::s58::s59::s60::s61::s62::s63::s64::s65::s66::s67::s68::s69::s70::s71::s72::s73::s74::s75::s76::s77::s78::s79::s80::s81::s82::s83::s84::s85::s86::s87::s88::s89::s90::s91::s92::s93::s94::s95::s96::s97::s98::s99::s100::s101::s102::s103::s104::s105::s106::s107::s108::s109::s110::s111::s112::s113::s114::s115::s116::s117::s118::s119::s120::s121::s122::s123::s124::s125::s126::s127::s128::s129::s130::s131::s132::s133::s134::s135::s136::s137::s138::s139::s140::s141::s142::s143::s144::s145::s146::s147::s148::s149::s150::s151::s152::s153::s154::s155::s156::s157::s158::s159::(.slice A8 m.exps.length c8)::(.int .i64 m.exps.length)::(.int .i64 ((k:Int)+1))::u163::u164::u165::u166::u167::u168::u169::u170::u171::u172::u173::u174::s175:: [])),[]⟩ wx)) (HX:Hid (∀(u26 u163 u164 u165 u166 u167 u168 u169 u170 u171 u172 u173 u174:Value) (wx:World),PR w2 wx (pv7 m)→Q (.exit 14) ⟨(List.toArray (s0::(.pointer (some ⟨w.heap.size,0,none⟩))::s2::s3::s4::(.pointer (some ⟨w2.heap.size,0,none⟩))::(.func (.func 28) #[] #[.pointer (some ⟨w2.heap.size,0,none⟩)])::s7::s8::s9::s10::s11::s12::s13::s14::s15::s16::s17::s18::s19::s20::s21::s22::s23::s24::s25::u26::s27::s28::s29::s30::s31::s32::s33::s34::s35::s36::s37::s38::s39::s40::s41::s42::s43::s44::s45::s46::s47::s48::s49::s50::s51::s52::s53::s54::s55::s56::s57::s58::s59::s60::s61::s62::s63::s64::s65::s66::s67::s68::s69::s70::s71::s72::s73::s74::s75::s76::s77::s78::s79::s80::s81::s82::s83::s84::s85::s86::s87::s88::s89::s90::s91::s92::s93::s94::s95::s96::s97::s98::s99::s100::s101::s102::s103::s104::s105::s106::s107::s108::s109::s110::s111::s112::s113::s114::s115::s116::s117::s118::s119::s120::s121::s122::s123::s124::s125::s126::s127::s128::s129::s130::s131::s132::s133::s134::s135::s136::s137::s138::s139::s140::s141::s142::s143::s144::s145::s146::s147::s148::s149::s150::s151::s152::s153::s154::s155::s156::s157::s158::s159::(.slice A8 m.exps.length c8)::(.int .i64 m.exps.length)::(.int .i64 m.exps.length)::u163::u164::u165::u166::u167::u168::u169::u170::u171::u172::u173::u174::s175:: [])),[]⟩ wx)):
 Code.wp prog (prtLoop 5) (Exit.then K Q) ⟨(List.toArray (s0::(.pointer (some ⟨w.heap.size,0,none⟩))::s2::s3::s4::(.pointer (some ⟨w2.heap.size,0,none⟩))::(.func (.func 28) #[] #[.pointer (some ⟨w2.heap.size,0,none⟩)])::s7::s8::s9::s10::s11::s12::s13::s14::s15::s16::s17::s18::s19::s20::s21::s22::s23::s24::s25::u26::s27::s28::s29::s30::s31::s32::s33::s34::s35::s36::s37::s38::s39::s40::s41::s42::s43::s44::s45::s46::s47::s48::s49::s50::s51::s52::s53::s54::s55::s56::s57::s58::s59::s60::s61::s62::s63::s64::s65::s66::s67::s68::s69::s70::s71::s72::s73::s74::s75::s76::s77::s78::s79::s80::s81::s82::s83::s84::s85::s86::s87::s88::s89::s90::s91::s92::s93::s94::s95::s96::s97::s98::s99::s100::s101::s102::s103::s104::s105::s106::s107::s108::s109::s110::s111::s112::s113::s114::s115::s116::s117::s118::s119::s120::s121::s122::s123::s124::s125::s126::s127::s128::s129::s130::s131::s132::s133::s134::s135::s136::s137::s138::s139::s140::s141::s142::s143::s144::s145::s146::s147::s148::s149::s150::s151::s152::s153::s154::s155::s156::s157::s158::s159::(.slice A8 m.exps.length c8)::(.int .i64 m.exps.length)::(.int .i64 k)::u163::u164::u165::u166::u167::u168::u169::u170::u171::u172::u173::u174::s175:: [])),[]⟩ wr:=by
 conv=>arg 2;whnf
 have HBW:=hideIt (C.out.bel.trans (HP.out.bel.mono C.out.bel.size))
 have hsz:w2.heap.size≤wr.heap.size:=HP.out.bel.size
 have hsw:w.heap.size<w2.heap.size:=C.out.lt
 have hszb:w2.heap.size<wr.heap.size:=by obtain⟨_,_,hb⟩:=HP.out.bld;exact hb.blk.lt
 have hhi:=C.out.hhi
 have hhj:=C.out.hhj
 have hk0:(0:Int)≤k:=by omega
 by_cases hlt:k<m.exps.length
 ·obtain⟨x,hx⟩: ∃x,m.exps[k]?=some x:=⟨_,List.getElem?_eq_getElem hlt⟩
  have hlti:decide ((k:Int)<m.exps.length)=true:=decide_eq_true (by omega)
  have hfew:m.exps.length≤2147483647:=by have:=C.out.few;unfold szMod at this;omega
  obtain⟨bk,ok,rfl,_,hbh,hc0,hc1,ho0,hb63⟩:=rExp_at (Rd.below C.out.h8 HBW.out hhi) hx
  have HN1:=hideIt (flat_step (pv6 m) expT hx)
  have HL1:=hideIt (flat_step_le (pv6 m) expT hx)
  have HLEX:(pv6 m++m.exps.flatMap expT).length≤1048576:=by have:=pv_le m C.out.le;first | exact this.2.1 | exact this.2.2.1 | exact this.2.2.2.1 | exact this.2.2.2.2.1 | exact this.2.2.2.2.2.1 | exact this.2.2.2.2.2.2.1 | exact this.2.2.2.2.2.2.2
  have HMX:=hideIt (List.mem_of_getElem? hx)
  clear hx
  clear HX
  go_upto_region 51 with fail
  generalize hw3:World.alloc _ _=w3
  have hb3:Below wr.heap.size wr w3:=by rw [←hw3];exact(Below.refl _ _).alloc (Nat.le_refl _) _
  have hm3:Blk w3 wr.heap.size 61 [.string x.n,.int .i64 x.f]:=by rw [←hw3];exact Blk.new wr _ _
  have hs3:wr.heap.size<w3.heap.size:=hm3.lt
  have hm3d:Blk w3.drew wr.heap.size 61 [.string x.n,.int .i64 x.f]:=hm3
  have a0:=hm3.q 0 rfl
  have a1:=hm3.q 1 rfl
  have b0:=hm3.q 0 rfl
  have b1:=hm3.q 1 rfl
  have HM3:=hideIt hm3;have HB3:=hideIt hb3
  have HED:=hideIt (C.out.env.to (((HBW.out.trans (hb3.mono (Nat.le_of_lt (Nat.lt_of_lt_of_le hsw hsz)))).drew).mono hhj))
  clear hw3 hc0 hc1 hb3 hm3 hm3d
  go_region_held3 (fun w'=>w'.cell? ⟨wr.heap.size,0,none⟩=some (.string x.n)∧w'.cell? ⟨wr.heap.size,1,none⟩=some (.int .i64 x.f))
   (first | exact⟨a0,a1⟩ | exact⟨b0,b1⟩ | exact⟨d0,d1⟩ | exact⟨d0a _,d1a _⟩ | exact⟨f0,f1⟩)
   (first
    | (go_at_call 32;refine(txt_num x.f hb63 w3.drew HED.out (by simp;omega)).mono ?_;rintro e w5 ⟨hb5,rfl⟩;have hS:=below_of_drew hb5;have hS5:w3.heap.size≤w5.heap.size:=hS.size;have hm5:=HM3.out.below hS hs3;have d0:=hm5.q 0 rfl;have d1:=hm5.q 1 rfl;have HB5:=hideIt (HB3.out.trans (hS.mono (Nat.le_of_lt hs3)));have d0a: ∀o,(w5.alloc o).cell? ⟨wr.heap.size,0,none⟩=some (.string x.n):=fun o=>(hm5.alloc o).cell 0;have d1a: ∀o,(w5.alloc o).cell? ⟨wr.heap.size,1,none⟩=some (.int .i64 x.f):=fun o=>(hm5.alloc o).cell 1;have HM5:=hideIt hm5;clear hb5 hS hm5)
    | (go_at_call 28;refine(prt_row [exportW,x.n,bOf (Lib.itoa x.f)] [exportT,x.n.data.toList,Lib.itoa x.f] (by rw [List.map_cons,List.map_cons,List.map_cons,List.map_nil];simp [bOf];rfl) 3 rfl _ w5 (by simp) (HP.out.bld.below HB5.out) (by omega) (Nat.le_trans HL1.out HLEX) (by decide)).mono ?_;rintro e w6 ⟨rfl,hA,hB,hK⟩;have HP6:=hideIt (PR.mk (HP.out.bel.trans ((HB5.out.mono hsz).trans hB)) (HN1.out▸hA));have hm6:=hK.blk HM5.out (by omega) (by decide);have f0:=hm6.q 0 rfl;have f1:=hm6.q 1 rfl;clear hA hB hK hm6))
  go_wp2_with fail
  apply HK.out
  ·exact hlt
  ·exact HP6.out
 ·obtain rfl:k=m.exps.length:=by omega
  have hlti:decide ((m.exps.length:Int)<m.exps.length)=false:=decide_eq_false (by omega)
  have HPX:Hid (PR w2 wr (pv7 m)):=hideIt (by have:=HP.out;rw [List.take_length] at this;exact this)
  clear HP HK
  go_wp2_with fail
  apply HX.out
  exact HPX.out
set_option maxRecDepth 1000000 in
theorem prt_exps {w w2:World} {hi hj:Nat} {m:ModV} {A1 A2 A3 A6 A7 A8:Option Addr} {c1 c2 c3 c6 c7 c8:Nat} (C:Hid (PCtx w w2 hi hj m A1 c1 A2 c2 A3 c3 A6 c6 A7 c7 A8 c8)) {wr:World} (HP:Hid (PR w2 wr (pv6 m)))
 (s0 s2 s3 s4 s7 s8 s9 s10 s11 s12 s13 s14 s15 s16 s17 s18 s19 s20 s21 s22 s23 s24 s25 s27 s28 s29 s30 s31 s32 s33 s34 s35 s36 s37 s38 s39 s40 s41 s42 s43 s44 s45 s46 s47 s48 s49 s50 s51 s52 s53 s54 s55 s56 s57 s58 s59 s60 s61 s62 s63 s64 s65 s66 s67 s68 s69 s70 s71 s72 s73 s74 s75 s76 s77 s78 s79 s80 s81 s82 s83 s84 s85 s86 s87 s88 s89 s90 s91 s92 s93 s94 s95 s96 s97 s98 s99 s100 s101 s102 s103 s104 s105 s106 s107 s108 s109 s110 s111 s112 s113 s114 s115 s116 s117 s118 s119 s120 s121 s122 s123 s124 s125 s126 s127 s128 s129 s130 s131 s132 s133 s134 s135 s136 s137 s138 s139 s140 s141 s142 s143 s144 s145 s146 s147 s148 s149 s150 s151 s152 s153 s154 s155 s156 s157 s158 s159 s175 u26 u163 u164 u165 u166 u167 u168 u169 u170 u171 u172 u173 u174:Value) (Q0:Exit→Act→World→Prop) (HX:Hid (∀(u26 u163 u164 u165 u166 u167 u168 u169 u170 u171 u172 u173 u174:Value) (wx:World),PR w2 wx (pv7 m)→Q0 (.exit 14) ⟨(List.toArray (s0::(.pointer (some ⟨w.heap.size,0,none⟩))::s2::s3::s4::(.pointer (some ⟨w2.heap.size,0,none⟩))::(.func (.func 28) #[] #[.pointer (some ⟨w2.heap.size,0,none⟩)])::s7::s8::s9::s10::s11::s12::s13::s14::s15::s16::s17::s18::s19::s20::s21::s22::s23::s24::s25::u26::s27::s28::s29::s30::s31::s32::s33::s34::s35::s36::s37::s38::s39::s40::s41::s42::s43::s44::s45::s46::s47::s48::s49::s50::s51::s52::s53::s54::s55::s56::s57::s58::s59::s60::s61::s62::s63::s64::s65::s66::s67::s68::s69::s70::s71::s72::s73::s74::s75::s76::s77::s78::s79::s80::s81::s82::s83::s84::s85::s86::s87::s88::s89::s90::s91::s92::s93::s94::s95::s96::s97::s98::s99::s100::s101::s102::s103::s104::s105::s106::s107::s108::s109::s110::s111::s112::s113::s114::s115::s116::s117::s118::s119::s120::s121::s122::s123::s124::s125::s126::s127::s128::s129::s130::s131::s132::s133::s134::s135::s136::s137::s138::s139::s140::s141::s142::s143::s144::s145::s146::s147::s148::s149::s150::s151::s152::s153::s154::s155::s156::s157::s158::s159::(.slice A8 m.exps.length c8)::(.int .i64 m.exps.length)::(.int .i64 m.exps.length)::u163::u164::u165::u166::u167::u168::u169::u170::u171::u172::u173::u174::s175:: [])),[]⟩ wx)):
 Code.wp prog (Code.loop (prtLoop 5)) Q0 ⟨(List.toArray (s0::(.pointer (some ⟨w.heap.size,0,none⟩))::s2::s3::s4::(.pointer (some ⟨w2.heap.size,0,none⟩))::(.func (.func 28) #[] #[.pointer (some ⟨w2.heap.size,0,none⟩)])::s7::s8::s9::s10::s11::s12::s13::s14::s15::s16::s17::s18::s19::s20::s21::s22::s23::s24::s25::u26::s27::s28::s29::s30::s31::s32::s33::s34::s35::s36::s37::s38::s39::s40::s41::s42::s43::s44::s45::s46::s47::s48::s49::s50::s51::s52::s53::s54::s55::s56::s57::s58::s59::s60::s61::s62::s63::s64::s65::s66::s67::s68::s69::s70::s71::s72::s73::s74::s75::s76::s77::s78::s79::s80::s81::s82::s83::s84::s85::s86::s87::s88::s89::s90::s91::s92::s93::s94::s95::s96::s97::s98::s99::s100::s101::s102::s103::s104::s105::s106::s107::s108::s109::s110::s111::s112::s113::s114::s115::s116::s117::s118::s119::s120::s121::s122::s123::s124::s125::s126::s127::s128::s129::s130::s131::s132::s133::s134::s135::s136::s137::s138::s139::s140::s141::s142::s143::s144::s145::s146::s147::s148::s149::s150::s151::s152::s153::s154::s155::s156::s157::s158::s159::(.slice A8 m.exps.length c8)::(.int .i64 m.exps.length)::(.int .i64 0)::u163::u164::u165::u166::u167::u168::u169::u170::u171::u172::u173::u174::s175:: [])),[]⟩ wr:=by
 refine wp_loop (fun a wx=> ∃(u26 u163 u164 u165 u166 u167 u168 u169 u170 u171 u172 u173 u174:Value) (k:Nat),k≤m.exps.length∧PR w2 wx (pv6 m++(m.exps.take k).flatMap expT)∧a=⟨(List.toArray (s0::(.pointer (some ⟨w.heap.size,0,none⟩))::s2::s3::s4::(.pointer (some ⟨w2.heap.size,0,none⟩))::(.func (.func 28) #[] #[.pointer (some ⟨w2.heap.size,0,none⟩)])::s7::s8::s9::s10::s11::s12::s13::s14::s15::s16::s17::s18::s19::s20::s21::s22::s23::s24::s25::u26::s27::s28::s29::s30::s31::s32::s33::s34::s35::s36::s37::s38::s39::s40::s41::s42::s43::s44::s45::s46::s47::s48::s49::s50::s51::s52::s53::s54::s55::s56::s57::s58::s59::s60::s61::s62::s63::s64::s65::s66::s67::s68::s69::s70::s71::s72::s73::s74::s75::s76::s77::s78::s79::s80::s81::s82::s83::s84::s85::s86::s87::s88::s89::s90::s91::s92::s93::s94::s95::s96::s97::s98::s99::s100::s101::s102::s103::s104::s105::s106::s107::s108::s109::s110::s111::s112::s113::s114::s115::s116::s117::s118::s119::s120::s121::s122::s123::s124::s125::s126::s127::s128::s129::s130::s131::s132::s133::s134::s135::s136::s137::s138::s139::s140::s141::s142::s143::s144::s145::s146::s147::s148::s149::s150::s151::s152::s153::s154::s155::s156::s157::s158::s159::(.slice A8 m.exps.length c8)::(.int .i64 m.exps.length)::(.int .i64 k)::u163::u164::u165::u166::u167::u168::u169::u170::u171::u172::u173::u174::s175:: [])),[]⟩) (fun a _=>m.exps.length-(intOf (a.tmps.getD 162 undef)).toNat) ?_ ?_
 ·exact⟨u26,u163,u164,u165,u166,u167,u168,u169,u170,u171,u172,u173,u174,0,Nat.zero_le _,by rw [List.take_zero,List.flatMap_nil,List.append_nil];exact HP.out,rfl⟩
 ·intro a wx hI
  obtain⟨u26,hI⟩:=hI
  obtain⟨u163,hI⟩:=hI
  obtain⟨u164,hI⟩:=hI
  obtain⟨u165,hI⟩:=hI
  obtain⟨u166,hI⟩:=hI
  obtain⟨u167,hI⟩:=hI
  obtain⟨u168,hI⟩:=hI
  obtain⟨u169,hI⟩:=hI
  obtain⟨u170,hI⟩:=hI
  obtain⟨u171,hI⟩:=hI
  obtain⟨u172,hI⟩:=hI
  obtain⟨u173,hI⟩:=hI
  obtain⟨u174,hI⟩:=hI
  obtain⟨k,hk,hp,rfl⟩:=hI
  refine prt_exps_round C hk (hideIt hp) _ _ _ _ _ _ _ _ _ _ _ _ _ _ _ _ _ _ _ _ _ _ _ _ _ _ _ _ _ _ _ _ _ _ _ _ _ _ _ _ _ _ _ _ _ _ _ _ _ _ _ _ _ _ _ _ _ _ _ _ _ _ _ _ _ _ _ _ _ _ _ _ _ _ _ _ _ _ _ _ _ _ _ _ _ _ _ _ _ _ _ _ _ _ _ _ _ _ _ _ _ _ _ _ _ _ _ _ _ _ _ _ _ _ _ _ _ _ _ _ _ _ _ _ _ _ _ _ _ _ _ _ _ _ _ _ _ _ _ _ _ _ _ _ _ _ _ _ _ _ _ _ _ _ _ _ _ _ _ _ _ _ _ _ _ _ _ _ _ _ _ _ (hideIt ?_) HX
  intro u26 u163 u164 u165 u166 u167 u168 u169 u170 u171 u172 u173 u174 wy hlt hp2
  refine⟨⟨u26,u163,u164,u165,u166,u167,u168,u169,u170,u171,u172,u173,u174,k+1,hlt,hp2,rfl⟩,?_⟩
  show m.exps.length-(intOf (.int .i64 ((k+1:Nat):Int))).toNat<m.exps.length-(intOf (.int .i64 (k:Int))).toNat
  simp [intOf]
  omega
end Go.Proofs.YtebgikflpgcnlaaGreatDoor
