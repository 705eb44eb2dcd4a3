/- Part 23 of the proof: PrtD PrtK -/
import Derived.Test.YtebgikflpgcnlaaGreatDoorT20
import Derived.Test.YtebgikflpgcnlaaGreatDoorT21
import Derived.Test.YtebgikflpgcnlaaGreatDoorT22
namespace Go.Proofs.YtebgikflpgcnlaaGreatDoor
set_option linter.unusedVariables false
set_option linter.unusedSimpArgs false
set_option maxRecDepth 100000
set_option maxHeartbeats 4000000
open Go.RowKit Tryz
set_option maxRecDepth 1000000 in
theorem prt_hosts_round {w w2:World} {hi hj:Nat} {m:ModV} {A1 A2 A3 A6 A7 A8:Option Addr} {c1 c2 c3 c6 c7 c8:Nat} (C:Hid (PCtx w w2 hi hj m A1 c1 A2 c2 A3 c3 A6 c6 A7 c7 A8 c8)) {k:Nat} {wr:World} (hk:k≤m.hosts.length) (HP:Hid (PR w2 wr (pv1 m++(m.hosts.take k).flatMap hostF)))
 (s0 s2 s3 s4 s7 s8 s9 s10 s11 s13 s14 s15 s16 s17 s18 s19 s20 s21 s22 s23 s24 s25 s26 s27 s28 s29 s30 s31 s32 s33 s34 s35 s36 s37 s38 s39 s40 s41 s42 s43 s44 s45 s46 s47 s48 s49 s50 s51 s52 s53 s66 s67 s68 s69 s70 s71 s72 s73 s74 s75 s76 s77 s78 s79 s80 s81 s82 s83 s84 s85 s86 s87 s88 s89 s90 s91 s92 s93 s94 s95 s96 s97 s98 s99 s100 s101 s102 s103 s104 s105 s106 s107 s108 s109 s110 s111 s112 s113 s114 s115 s116 s117 s118 s119 s120 s121 s122 s123 s124 s125 s126 s127 s128 s129 s130 s131 s132 s133 s134 s135 s136 s137 s138 s139 s140 s141 s142 s143 s144 s145 s146 s147 s148 s149 s150 s151 s152 s153 s154 s155 s156 s157 s158 s159 s160 s161 s162 s163 s164 s165 s166 s167 s168 s169 s170 s171 s172 s173 s174 s175 u12 u57 u58 u59 u60 u61 u62 u63 u64 u65:Value) (K:Act→World→Prop) (Q:Exit→Act→World→Prop) (HK:Hid (∀(u12 u57 u58 u59 u60 u61 u62 u63 u64 u65:Value) (wx:World),k<m.hosts.length→PR w2 wx (pv1 m++(m.hosts.take (k+1)).flatMap hostF)→K ⟨(List.toArray (s0::(.pointer (some ⟨w.heap.size,0,none⟩))::s2::s3::s4::(.pointer (some ⟨w2.heap.size,0,none⟩))::(.func (.func 28) #[] #[.pointer (some ⟨w2.heap.size,0,none⟩)])::s7::s8::s9::s10::s11::u12::s13::s14::s15::s16::s17::s18::s19::s20::s21::s22::s23::s24::s25::s26::s27::s28::s29::s30::s31::s32::s33::s34::s35::s36::s37::s38::s39::s40::s41::s42::s43::s44::s45::s46::s47::s48::s49::s50::s51::s52::s53::(.slice A2 m.hosts.length c2)::(.int .i64 m.hosts.length)::(.int .i64 ((k:Int)+1))::u57::u58::u59::u60::u61::u62::u63::u64::u65::s66::s67::s68::s69::s70::s71::s72::s73::s74::s75::s76::s77::s78::s79::s80::s81::s82::s83::s84::s85::s86::s87::s88::s89::s90::s91::s92::s93::s94::s95::s96::s97::s98::s99::s100::s101::s102::s103::s104::s105::s106::s107::s108::s109::s110::s111::s112::s113::s114::s115::s116::s117::s118::s119::s120::s121::s122::s123::s124::s125::s126::s127::s128::s129::s130::s131::s132::s133::s134::s135::s136::s137::s138::s139::s140::s141::s142::s143::s144::s145::s146::s147::s148::s149::s150::s151::s152::s153::s154::s155::s156::s157::s158::s159::s160::s161::s162::s163::s164::s165::s166::s167::s168::s169::s170::s171::s172::s173::s174::s175:: [])),[]⟩ wx)) (HX:Hid (∀(u12 u57 u58 u59 u60 u61 u62 u63 u64 u65:Value) (wx:World),PR w2 wx (pv2 m)→Q (.exit 2) ⟨(List.toArray (s0::(.pointer (some ⟨w.heap.size,0,none⟩))::s2::s3::s4::(.pointer (some ⟨w2.heap.size,0,none⟩))::(.func (.func 28) #[] #[.pointer (some ⟨w2.heap.size,0,none⟩)])::s7::s8::s9::s10::s11::u12::s13::s14::s15::s16::s17::s18::s19::s20::s21::s22::s23::s24::s25::s26::s27::s28::s29::s30::s31::s32::s33::s34::s35::s36::s37::s38::s39::s40::s41::s42::s43::s44::s45::s46::s47::s48::s49::s50::s51::s52::s53::(.slice A2 m.hosts.length c2)::(.int .i64 m.hosts.length)::(.int .i64 m.hosts.length)::u57::u58::u59::u60::u61::u62::u63::u64::u65::s66::s67::s68::s69::s70::s71::s72::s73::s74::s75::s76::s77::s78::s79::s80::s81::s82::s83::s84::s85::s86::s87::s88::s89::s90::s91::s92::s93::s94::s95::s96::s97::s98::s99::s100::s101::s102::s103::s104::s105::s106::s107::s108::s109::s110::s111::s112::s113::s114::s115::s116::s117::s118::s119::s120::s121::s122::s123::s124::s125::s126::s127::s128::s129::s130::s131::s132::s133::s134::s135::s136::s137::s138::s139::s140::s141::s142::s143::s144::s145::s146::s147::s148::s149::s150::s151::s152::s153::s154::s155::s156::s157::s158::s159::s160::s161::s162::s163::s164::s165::s166::s167::s168::s169::s170::s171::s172::s173::s174::s175:: [])),[]⟩ wx)):
 Code.wp prog (prtLoop 1) (Exit.then K Q) ⟨(List.toArray (s0::(.pointer (some ⟨w.heap.size,0,none⟩))::s2::s3::s4::(.pointer (some ⟨w2.heap.size,0,none⟩))::(.func (.func 28) #[] #[.pointer (some ⟨w2.heap.size,0,none⟩)])::s7::s8::s9::s10::s11::u12::s13::s14::s15::s16::s17::s18::s19::s20::s21::s22::s23::s24::s25::s26::s27::s28::s29::s30::s31::s32::s33::s34::s35::s36::s37::s38::s39::s40::s41::s42::s43::s44::s45::s46::s47::s48::s49::s50::s51::s52::s53::(.slice A2 m.hosts.length c2)::(.int .i64 m.hosts.length)::(.int .i64 k)::u57::u58::u59::u60::u61::u62::u63::u64::u65::s66::s67::s68::s69::s70::s71::s72::s73::s74::s75::s76::s77::s78::s79::s80::s81::s82::s83::s84::s85::s86::s87::s88::s89::s90::s91::s92::s93::s94::s95::s96::s97::s98::s99::s100::s101::s102::s103::s104::s105::s106::s107::s108::s109::s110::s111::s112::s113::s114::s115::s116::s117::s118::s119::s120::s121::s122::s123::s124::s125::s126::s127::s128::s129::s130::s131::s132::s133::s134::s135::s136::s137::s138::s139::s140::s141::s142::s143::s144::s145::s146::s147::s148::s149::s150::s151::s152::s153::s154::s155::s156::s157::s158::s159::s160::s161::s162::s163::s164::s165::s166::s167::s168::s169::s170::s171::s172::s173::s174::s175:: [])),[]⟩ wr:=by
 conv=>arg 2;whnf
 have HBW:=hideIt (C.out.bel.trans (HP.out.bel.mono C.out.bel.size))
 have hsz:w2.heap.size≤wr.heap.size:=HP.out.bel.size
 have hsw:w.heap.size<w2.heap.size:=C.out.lt
 have hszb:w2.heap.size<wr.heap.size:=by obtain⟨_,_,hb⟩:=HP.out.bld;exact hb.blk.lt
 have hhi:=C.out.hhi
 have hhj:=C.out.hhj
 have hk0:(0:Int)≤k:=by omega
 by_cases hlt:k<m.hosts.length
 ·obtain⟨x,hx⟩: ∃x,m.hosts[k]?=some x:=⟨_,List.getElem?_eq_getElem hlt⟩
  have hlti:decide ((k:Int)<m.hosts.length)=true:=decide_eq_true (by omega)
  have hfew:m.hosts.length≤2147483647:=by have:=C.out.few;unfold szMod at this;omega
  obtain⟨bk,ok,rfl,_,hbh,hc0,hb63⟩:=ints_at (Rd.below C.out.h2 HBW.out hhi) hx
  have HN1:=hideIt (flat_step (pv1 m) hostF hx)
  have HL1:=hideIt (flat_step_le (pv1 m) hostF hx)
  have HLEX:(pv1 m++m.hosts.flatMap hostF).length≤1048576:=by have:=pv_le m C.out.le;first | exact this.2.1 | exact this.2.2.1 | exact this.2.2.2.1 | exact this.2.2.2.2.1 | exact this.2.2.2.2.2.1 | exact this.2.2.2.2.2.2.1 | exact this.2.2.2.2.2.2.2
  have HMX:=hideIt (List.mem_of_getElem? hx)
  clear hx
  have hs0:wr.heap.size≤wr.heap.size:=Nat.le_refl _
  have HC:=hideIt (txt_num x hb63 wr (C.out.env.to (HBW.out.mono hhj)) (by omega))
  clear HX
  go_wp2_with fail
  refine HC.out.mono ?_
  rintro e w5 ⟨hb5,rfl⟩
  have hs5:wr.heap.size≤w5.heap.size:=hb5.size
  clear HC
  go_wp2_with fail
  refine(prt_row [externW,bOf (Lib.itoa x)] [externT,Lib.itoa x] (by rw [List.map_cons,List.map_cons,List.map_nil];simp [bOf];rfl) 2 rfl _ w5 (by simp) (HP.out.bld.below hb5) (by omega) (Nat.le_trans HL1.out HLEX) (by decide)).mono ?_
  rintro e w6 ⟨rfl,hA,hB,hK⟩
  have HP6:=hideIt (PR.mk (HP.out.bel.trans ((hb5.mono hsz).trans hB)) (HN1.out▸hA))
  clear hA hB hK
  go_wp2_with fail
  apply HK.out
  ·exact hlt
  ·exact HP6.out
 ·obtain rfl:k=m.hosts.length:=by omega
  have hlti:decide ((m.hosts.length:Int)<m.hosts.length)=false:=decide_eq_false (by omega)
  have HPX:Hid (PR w2 wr (pv2 m)):=hideIt (by have:=HP.out;rw [List.take_length] at this;exact this)
  clear HP HK
  go_wp2_with fail
  apply HX.out
  exact HPX.out
set_option maxRecDepth 1000000 in
theorem prt_hosts {w w2:World} {hi hj:Nat} {m:ModV} {A1 A2 A3 A6 A7 A8:Option Addr} {c1 c2 c3 c6 c7 c8:Nat} (C:Hid (PCtx w w2 hi hj m A1 c1 A2 c2 A3 c3 A6 c6 A7 c7 A8 c8)) {wr:World} (HP:Hid (PR w2 wr (pv1 m)))
 (s0 s2 s3 s4 s7 s8 s9 s10 s11 s13 s14 s15 s16 s17 s18 s19 s20 s21 s22 s23 s24 s25 s26 s27 s28 s29 s30 s31 s32 s33 s34 s35 s36 s37 s38 s39 s40 s41 s42 s43 s44 s45 s46 s47 s48 s49 s50 s51 s52 s53 s66 s67 s68 s69 s70 s71 s72 s73 s74 s75 s76 s77 s78 s79 s80 s81 s82 s83 s84 s85 s86 s87 s88 s89 s90 s91 s92 s93 s94 s95 s96 s97 s98 s99 s100 s101 s102 s103 s104 s105 s106 s107 s108 s109 s110 s111 s112 s113 s114 s115 s116 s117 s118 s119 s120 s121 s122 s123 s124 s125 s126 s127 s128 s129 s130 s131 s132 s133 s134 s135 s136 s137 s138 s139 s140 s141 s142 s143 s144 s145 s146 s147 s148 s149 s150 s151 s152 s153 s154 s155 s156 s157 s158 s159 s160 s161 s162 s163 s164 s165 s166 s167 s168 s169 s170 s171 s172 s173 s174 s175 u12 u57 u58 u59 u60 u61 u62 u63 u64 u65:Value) (Q0:Exit→Act→World→Prop) (HX:Hid (∀(u12 u57 u58 u59 u60 u61 u62 u63 u64 u65:Value) (wx:World),PR w2 wx (pv2 m)→Q0 (.exit 2) ⟨(List.toArray (s0::(.pointer (some ⟨w.heap.size,0,none⟩))::s2::s3::s4::(.pointer (some ⟨w2.heap.size,0,none⟩))::(.func (.func 28) #[] #[.pointer (some ⟨w2.heap.size,0,none⟩)])::s7::s8::s9::s10::s11::u12::s13::s14::s15::s16::s17::s18::s19::s20::s21::s22::s23::s24::s25::s26::s27::s28::s29::s30::s31::s32::s33::s34::s35::s36::s37::s38::s39::s40::s41::s42::s43::s44::s45::s46::s47::s48::s49::s50::s51::s52::s53::(.slice A2 m.hosts.length c2)::(.int .i64 m.hosts.length)::(.int .i64 m.hosts.length)::u57::u58::u59::u60::u61::u62::u63::u64::u65::s66::s67::s68::s69::s70::s71::s72::s73::s74::s75::s76::s77::s78::s79::s80::s81::s82::s83::s84::s85::s86::s87::s88::s89::s90::s91::s92::s93::s94::s95::s96::s97::s98::s99::s100::s101::s102::s103::s104::s105::s106::s107::s108::s109::s110::s111::s112::s113::s114::s115::s116::s117::s118::s119::s120::s121::s122::s123::s124::s125::s126::s127::s128::s129::s130::s131::s132::s133::s134::s135::s136::s137::s138::s139::s140::s141::s142::s143::s144::s145::s146::s147::s148::s149::s150::s151::s152::s153::s154::s155::s156::s157::s158::s159::s160::s161::s162::s163::s164::s165::s166::s167::s168::s169::s170::s171::s172::s173::s174::s175:: [])),[]⟩ wx)):
 Code.wp prog (Code.loop (prtLoop 1)) Q0 ⟨(List.toArray (s0::(.pointer (some ⟨w.heap.size,0,none⟩))::s2::s3::s4::(.pointer (some ⟨w2.heap.size,0,none⟩))::(.func (.func 28) #[] #[.pointer (some ⟨w2.heap.size,0,none⟩)])::s7::s8::s9::s10::s11::u12::s13::s14::s15::s16::s17::s18::s19::s20::s21::s22::s23::s24::s25::s26::s27::s28::s29::s30::s31::s32::s33::s34::s35::s36::s37::s38::s39::s40::s41::s42::s43::s44::s45::s46::s47::s48::s49::s50::s51::s52::s53::(.slice A2 m.hosts.length c2)::(.int .i64 m.hosts.length)::(.int .i64 0)::u57::u58::u59::u60::u61::u62::u63::u64::u65::s66::s67::s68::s69::s70::s71::s72::s73::s74::s75::s76::s77::s78::s79::s80::s81::s82::s83::s84::s85::s86::s87::s88::s89::s90::s91::s92::s93::s94::s95::s96::s97::s98::s99::s100::s101::s102::s103::s104::s105::s106::s107::s108::s109::s110::s111::s112::s113::s114::s115::s116::s117::s118::s119::s120::s121::s122::s123::s124::s125::s126::s127::s128::s129::s130::s131::s132::s133::s134::s135::s136::s137::s138::s139::s140::s141::s142::s143::s144::s145::s146::s147::s148::s149::s150::s151::s152::s153::s154::s155::s156::s157::s158::s159::s160::s161::s162::s163::s164::s165::s166::s167::s168::s169::s170::s171::s172::s173::s174::s175:: [])),[]⟩ wr:=by
 refine wp_loop (fun a wx=> ∃(u12 u57 u58 u59 u60 u61 u62 u63 u64 u65:Value) (k:Nat),k≤m.hosts.length∧PR w2 wx (pv1 m++(m.hosts.take k).flatMap hostF)∧a=⟨(List.toArray (s0::(.pointer (some ⟨w.heap.size,0,none⟩))::s2::s3::s4::(.pointer (some ⟨w2.heap.size,0,none⟩))::(.func (.func 28) #[] #[.pointer (some ⟨w2.heap.size,0,none⟩)])::s7::s8::s9::s10::s11::u12::s13::s14::s15::s16::s17::s18::s19::s20::s21::s22::s23::s24::s25::s26::s27::s28::s29::s30::s31::s32::s33::s34::s35::s36::s37::s38::s39::s40::s41::s42::s43::s44::s45::s46::s47::s48::s49::s50::s51::s52::s53::(.slice A2 m.hosts.length c2)::(.int .i64 m.hosts.length)::(.int .i64 k)::u57::u58::u59::u60::u61::u62::u63::u64::u65::s66::s67::s68::s69::s70::s71::s72::s73::s74::s75::s76::s77::s78::s79::s80::s81::s82::s83::s84::s85::s86::s87::s88::s89::s90::s91::s92::s93::s94::s95::s96::s97::s98::s99::s100::s101::s102::s103::s104::s105::s106::s107::s108::s109::s110::s111::s112::s113::s114::s115::s116::s117::s118::s119::s120::s121::s122::s123::s124::s125::s126::s127::s128::s129::s130::s131::s132::s133::s134::s135::s136::s137::s138::s139::s140::s141::s142::s143::s144::s145::s146::s147::s148::s149::s150::s151::s152::s153::s154::s155::s156::s157::s158::s159::s160::s161::s162::s163::s164::s165::s166::s167::s168::s169::s170::s171::s172::s173::s174::s175:: [])),[]⟩) (fun a _=>m.hosts.length-(intOf (a.tmps.getD 56 undef)).toNat) ?_ ?_
 ·exact⟨u12,u57,u58,u59,u60,u61,u62,u63,u64,u65,0,Nat.zero_le _,by rw [List.take_zero,List.flatMap_nil,List.append_nil];exact HP.out,rfl⟩
 ·intro a wx hI
  obtain⟨u12,hI⟩:=hI
  obtain⟨u57,hI⟩:=hI
  obtain⟨u58,hI⟩:=hI
  obtain⟨u59,hI⟩:=hI
  obtain⟨u60,hI⟩:=hI
  obtain⟨u61,hI⟩:=hI
  obtain⟨u62,hI⟩:=hI
  obtain⟨u63,hI⟩:=hI
  obtain⟨u64,hI⟩:=hI
  obtain⟨u65,hI⟩:=hI
  obtain⟨k,hk,hp,rfl⟩:=hI
  refine prt_hosts_round C hk (hideIt hp) _ _ _ _ _ _ _ _ _ _ _ _ _ _ _ _ _ _ _ _ _ _ _ _ _ _ _ _ _ _ _ _ _ _ _ _ _ _ _ _ _ _ _ _ _ _ _ _ _ _ _ _ _ _ _ _ _ _ _ _ _ _ _ _ _ _ _ _ _ _ _ _ _ _ _ _ _ _ _ _ _ _ _ _ _ _ _ _ _ _ _ _ _ _ _ _ _ _ _ _ _ _ _ _ _ _ _ _ _ _ _ _ _ _ _ _ _ _ _ _ _ _ _ _ _ _ _ _ _ _ _ _ _ _ _ _ _ _ _ _ _ _ _ _ _ _ _ _ _ _ _ _ _ _ _ _ _ _ _ _ _ _ _ _ _ _ _ _ _ _ _ _ (hideIt ?_) HX
  intro u12 u57 u58 u59 u60 u61 u62 u63 u64 u65 wy hlt hp2
  refine⟨⟨u12,u57,u58,u59,u60,u61,u62,u63,u64,u65,k+1,hlt,hp2,rfl⟩,?_⟩
  show m.hosts.length-(intOf (.int .i64 ((k+1:Nat):Int))).toNat<m.hosts.length-(intOf (.int .i64 (k:Int))).toNat
  simp [intOf]
  omega
theorem bld_isF {B b:Nat} {w:World} {l:List UInt8} (h:BldAt B b w l):Lib.IsBuilderF 71 5 B b (Lib.byteCells l) w:=by
 obtain⟨p,v,h⟩:=h
 refine Lib.IsBuilderF.of ?_
 have h2:Lib.BuilderAt 71 5 B b p (Lib.byteCells l) w:=⟨h.low,v,h.blk,by rw [byteCells_bv,List.length_map];exact h.own,h.ne⟩
 rcases h.ptr with rfl | rfl
 ·exact .inl h2
 ·exact .inr h2
def PrtPost (w:World) (m:ModV) (e:Ending) (w':World):Prop:=Below w.heap.size w w'∧e= .returned (.tuple #[.string (if modE m=0 then bOf (printT m) else none_),.int .i64 (modE m)])
theorem txt_Print (cs:List Value) (hi hj:Nat) (m:ModV) (w:World) (h:rMod.R w 0 hi cs m) (hhi:hi≤w.heap.size) (hle:szMod m≤2147483647) (hE:EnvAt hj w) (hhj:hj≤w.heap.size):
 Calls prog 10 #[.agg cs.toArray] w (PrtPost w m):=by
 have hnum:=modNum_of h
 obtain⟨v1,v2,v3,v6,v7,v8,rfl,h1,h2,h3,h4,h5,h6,h7,h8⟩:=rMod_iff.1 h
 obtain⟨A1,c1,rfl⟩:=sl_form h1
 obtain⟨A2,c2,rfl⟩:=sl_form h2
 obtain⟨A3,c3,rfl⟩:=sl_form h3
 obtain⟨A6,c6,rfl⟩:=sl_form h6
 obtain⟨A7,c7,rfl⟩:=sl_form h7
 obtain⟨A8,c8,rfl⟩:=sl_form h8
 have HH:=hideIt h;have HE:=hideIt hE;have HN:=hideIt hnum
 have H1:=hideIt h1;have H2:=hideIt h2;have H3:=hideIt h3;have H6:=hideIt h6;have H7:=hideIt h7;have H8:=hideIt h8
 clear h hE hnum h1 h2 h3 h4 h5 h6 h7 h8
 go_enter func10,ntmps10
 go_wp2_with fail
 generalize hw1:World.alloc _ _=w1
 have hb1:Below w.heap.size w w1:=by rw [←hw1];exact(Below.refl _ _).alloc (Nat.le_refl _) _
 have hm1:Blk w1 w.heap.size 29 [.slice A1 m.types.length c1,.slice A2 m.hosts.length c2,.slice A3 m.globs.length c3,.int .i64 m.first,.int .i64 m.most,.slice A6 m.fns.length c6,.slice A7 m.dat.length c7,.slice A8 m.exps.length c8]:=by rw [←hw1];exact Blk.new w _ _
 clear hw1
 refine(mod_Check [.slice A1 m.types.length c1,.slice A2 m.hosts.length c2,.slice A3 m.globs.length c3,.int .i64 m.first,.int .i64 m.most,.slice A6 m.fns.length c6,.slice A7 m.dat.length c7,.slice A8 m.exps.length c8] w.heap.size m w1 (rMod.more (Nat.le_refl _) hhi (rMod.below HH.out hb1 hhi)) hb1.size hle HN.out (fun w' hb=>HE.out.asc w' ((hb1.mono hhj).trans (hb.mono hhj)))).mono ?_
 rintro e w2 ⟨hb2,rfl⟩
 have HM2:=hideIt (hm1.below hb2 hm1.lt)
 have HB2:=hideIt (hb1.trans (hb2.mono hb1.size))
 clear hb1 hm1 hb2
 by_cases hz:modE m=0
 case' neg=>
  have hz0:(modE m !=0)=true:=bne_iff_ne.2 hz
  have HZ:Hid (PrtPost w m (.returned (.tuple #[.string ⟨#[]⟩,.int .i64 (modE m)])) w2):=hideIt ⟨HB2.out,by rw [if_neg hz];rfl⟩
  clear hz
  go_wp2_with fail
  go_ret2
  exact HZ.out
 have HF:=hideIt (fine_of hz HN.out)
 have HLEN:=hideIt (print_len hz HN.out)
 have hz0:(modE m !=0)=false:=by rw [hz];rfl
 have HZ:=hideIt hz
 have HT:Hid (∀W,PR w2 W (printT m)→PrtPost w m (.returned (.tuple #[.string (bOf (printT m)),.int .i64 0])) W):=hideIt (fun W hW=>⟨HB2.out.trans (hW.bel.mono HB2.out.size),by rw [hz,if_pos rfl]⟩)
 clear hz
 go_wp2_with fail
 have C:Hid (PCtx w w2 hi hj m A1 c1 A2 c2 A3 c3 A6 c6 A7 c7 A8 c8):=hideIt ⟨hhi,hhj,HB2.out,HM2.out.lt,HE.out,HF.out,HLEN.out,hle,HM2.out,H1.out,H2.out,H3.out,H6.out,H7.out,H8.out⟩
 have HLE:=hideIt (pv_le m HLEN.out)
 have hbn:=(Below.refl w2.heap.size w2).alloc (Nat.le_refl _) (.cells #[.pointer none,.slice none 0 0] 71)
 refine(prt_row [flagonW] [flagonT] rfl 1 rfl _ (w2.alloc (.cells #[.pointer none,.slice none 0 0] 71)) (by simp) (BldAt.new w2) (by simp) HLE.out.1 (by decide)).mono ?_
 rintro e w4 ⟨rfl,hA,hB,hK⟩
 have P4:Hid (PR w2 w4 (pv0 m)):=hideIt ⟨hbn.trans hB,hA⟩
 have hm4:=C.out.blk.below P4.out.bel C.out.lt
 have e4:=hm4.q 0 rfl
 clear hA hB hK hbn hm4
 go_wp2_with fail
 refine prt_types C P4 _ _ _ _ _ _ _ _ _ _ _ _ _ _ _ _ _ _ _ _ _ _ _ _ _ _ _ _ _ _ _ _ _ _ _ _ _ _ _ _ _ _ _ _ _ _ _ _ _ _ _ _ _ _ _ _ _ _ _ _ _ _ _ _ _ _ _ _ _ _ _ _ _ _ _ _ _ _ _ _ _ _ _ _ _ _ _ _ _ _ _ _ _ _ _ _ _ _ _ _ _ _ _ _ _ _ _ _ _ _ _ _ _ _ _ _ _ _ _ _ _ _ _ _ _ _ _ _ _ _ _ _ _ _ _ _ _ _ _ _ _ _ _ _ _ _ _ _ _ _ _ _ _ _ _ _ _ _ _ _ _ _ _ _ _ _ _ _ _ _ _ (hideIt ?_)
 intro v0_0 v0_1 v0_2 v0_3 v0_4 v0_5 v0_6 v0_7 v0_8 v0_9 v0_10 v0_11 v0_12 v0_13 v0_14 v0_15 w5 hp5
 have P5:=hideIt hp5
 have hm5:=C.out.blk.below hp5.bel C.out.lt
 have e5:=hm5.q 1 rfl
 clear hp5 hm5 e4
 go_wp2_with fail
 refine prt_hosts C P5 _ _ _ _ _ _ _ _ _ _ _ _ _ _ _ _ _ _ _ _ _ _ _ _ _ _ _ _ _ _ _ _ _ _ _ _ _ _ _ _ _ _ _ _ _ _ _ _ _ _ _ _ _ _ _ _ _ _ _ _ _ _ _ _ _ _ _ _ _ _ _ _ _ _ _ _ _ _ _ _ _ _ _ _ _ _ _ _ _ _ _ _ _ _ _ _ _ _ _ _ _ _ _ _ _ _ _ _ _ _ _ _ _ _ _ _ _ _ _ _ _ _ _ _ _ _ _ _ _ _ _ _ _ _ _ _ _ _ _ _ _ _ _ _ _ _ _ _ _ _ _ _ _ _ _ _ _ _ _ _ _ _ _ _ _ _ _ _ _ _ _ (hideIt ?_)
 intro v1_0 v1_1 v1_2 v1_3 v1_4 v1_5 v1_6 v1_7 v1_8 v1_9 w6 hp6
 have P6:=hideIt hp6
 have hm6:=C.out.blk.below hp6.bel C.out.lt
 have e6:=hm6.q 2 rfl
 clear hp6 hm6 e5
 go_wp2_with fail
 refine prt_globs C P6 _ _ _ _ _ _ _ _ _ _ _ _ _ _ _ _ _ _ _ _ _ _ _ _ _ _ _ _ _ _ _ _ _ _ _ _ _ _ _ _ _ _ _ _ _ _ _ _ _ _ _ _ _ _ _ _ _ _ _ _ _ _ _ _ _ _ _ _ _ _ _ _ _ _ _ _ _ _ _ _ _ _ _ _ _ _ _ _ _ _ _ _ _ _ _ _ _ _ _ _ _ _ _ _ _ _ _ _ _ _ _ _ _ _ _ _ _ _ _ _ _ _ _ _ _ _ _ _ _ _ _ _ _ _ _ _ _ _ _ _ _ _ _ _ _ _ _ _ _ _ _ _ _ _ _ _ _ _ _ _ _ _ _ _ _ _ _ _ _ _ _ (hideIt ?_)
 intro v2_0 v2_1 v2_2 v2_3 v2_4 v2_5 v2_6 v2_7 v2_8 v2_9 v2_10 v2_11 v2_12 v2_13 v2_14 v2_15 v2_16 v2_17 v2_18 w7 hp7
 have P7:=hideIt hp7
 have hm7:=C.out.blk.below hp7.bel C.out.lt
 have a0:=hm7.q 3 rfl;have a1:=hm7.q 4 rfl
 have b0:=hm7.q 3 rfl;have b1:=hm7.q 4 rfl
 have HM7:=hideIt hm7
 have hl7:w.heap.size<w7.heap.size:=hm7.lt
 have hl2:w2.heap.size≤w7.heap.size:=hp7.bel.size
 have HEV:Hid (∀W,Below w7.heap.size w7 W→EnvAt hj W):=hideIt (fun W hW=>C.out.env.to ((C.out.bel.trans ((P7.out.bel.trans (hW.mono hl2)).mono C.out.bel.size)).mono hhj))
 have hfi:=HF.out.first
 have hmo:=HF.out.most
 clear hp7 hm7 e6
 go_upto_region 26 with fail
 go_region_held3 (fun w'=>w'.cell? ⟨w.heap.size,3,none⟩=some (.int .i64 m.first)∧w'.cell? ⟨w.heap.size,4,none⟩=some (.int .i64 m.most))
  (first | exact⟨a0,a1⟩ | exact⟨b0,b1⟩ | exact⟨d0,d1⟩ | exact⟨g0,g1⟩ | exact⟨g0a _,g1a _⟩ | exact⟨f0,f1⟩)
  (first
   | (go_at_call 32;refine(txt_num m.first hfi w7.drew (HEV.out _ ((Below.refl _ _).drew)) (by simp;omega)).mono ?_;rintro e wa ⟨hba,rfl⟩;have hSa:=below_of_drew hba;have hSza:w7.heap.size≤wa.heap.size:=hSa.size;have hma:=HM7.out.below hSa hl7;have d0:=hma.q 3 rfl;have d1:=hma.q 4 rfl;have HBa:=hideIt hSa;have HMa:=hideIt hma;clear hba hSa hma)
   | (go_at_call 32;refine(txt_num m.most hmo wa (HEV.out _ HBa.out) (by omega)).mono ?_;rintro e wb ⟨hbb,rfl⟩;have hSzb:wa.heap.size≤wb.heap.size:=hbb.size;have hmb:=HMa.out.below hbb (by omega);have g0:=hmb.q 3 rfl;have g1:=hmb.q 4 rfl;have g0a: ∀o,(wb.alloc o).cell? ⟨w.heap.size,3,none⟩=some (.int .i64 m.first):=fun o=>(hmb.alloc o).cell 3;have g1a: ∀o,(wb.alloc o).cell? ⟨w.heap.size,4,none⟩=some (.int .i64 m.most):=fun o=>(hmb.alloc o).cell 4;have HBb:=hideIt (HBa.out.trans (hbb.mono hSza));have HMb:=hideIt hmb;clear hbb hmb)
   | (go_at_call 28;refine(prt_row [memoryW,bOf (Lib.itoa m.first),bOf (Lib.itoa m.most)] [memoryT,Lib.itoa m.first,Lib.itoa m.most] rfl 3 rfl _ wb (by simp) (P7.out.bld.below HBb.out) (by omega) HLE.out.2.2.2.2.1 (by decide)).mono ?_;rintro e w8 ⟨rfl,hA,hB,hK⟩;have P8:Hid (PR w2 w8 (pv4 m)):=hideIt ⟨P7.out.bel.trans ((HBb.out.mono hl2).trans hB),hA⟩;have hm8:=C.out.blk.below P8.out.bel C.out.lt;have f0:=hm8.q 3 rfl;have f1:=hm8.q 4 rfl;have HM8:=hideIt hm8;clear hA hB hK hm8))
 have e8:=HM8.out.q 5 rfl
 clear a0 a1 b0 b1 d0 d1 g0 g1 g0a g1a f0 f1
 go_wp2_with fail
 refine prt_fns C P8 _ _ _ _ _ _ _ _ _ _ _ _ _ _ _ _ _ _ _ _ _ _ _ _ _ _ _ _ _ _ _ _ _ _ _ _ _ _ _ _ _ _ _ _ _ _ _ _ _ _ _ _ _ _ _ _ _ _ _ _ _ _ _ _ _ _ _ _ _ _ _ _ _ _ _ _ _ _ _ _ _ _ _ _ _ _ _ _ _ _ _ _ _ _ _ _ _ _ _ _ _ _ _ _ _ _ _ _ _ _ _ _ _ _ _ _ _ _ _ _ _ _ _ _ _ _ _ _ _ _ _ _ _ _ _ _ _ _ _ _ _ _ _ _ _ _ _ _ _ _ _ _ _ _ _ _ _ _ _ _ _ _ _ _ _ _ _ _ _ _ _ (hideIt ?_)
 intro v3_0 v3_1 v3_2 v3_3 v3_4 v3_5 v3_6 v3_7 v3_8 v3_9 v3_10 v3_11 v3_12 v3_13 v3_14 v3_15 v3_16 v3_17 v3_18 v3_19 v3_20 v3_21 v3_22 v3_23 v3_24 v3_25 v3_26 v3_27 w9 hp9
 have P9:=hideIt hp9
 have hm9:=C.out.blk.below hp9.bel C.out.lt
 have e9:=hm9.q 6 rfl
 clear hp9 hm9 e8
 go_wp2_with fail
 refine prt_dats C P9 _ _ _ _ _ _ _ _ _ _ _ _ _ _ _ _ _ _ _ _ _ _ _ _ _ _ _ _ _ _ _ _ _ _ _ _ _ _ _ _ _ _ _ _ _ _ _ _ _ _ _ _ _ _ _ _ _ _ _ _ _ _ _ _ _ _ _ _ _ _ _ _ _ _ _ _ _ _ _ _ _ _ _ _ _ _ _ _ _ _ _ _ _ _ _ _ _ _ _ _ _ _ _ _ _ _ _ _ _ _ _ _ _ _ _ _ _ _ _ _ _ _ _ _ _ _ _ _ _ _ _ _ _ _ _ _ _ _ _ _ _ _ _ _ _ _ _ _ _ _ _ _ _ _ _ _ _ _ _ _ _ _ _ _ _ _ _ _ _ _ _ (hideIt ?_)
 intro v4_0 v4_1 v4_2 v4_3 v4_4 v4_5 v4_6 v4_7 v4_8 v4_9 v4_10 v4_11 v4_12 v4_13 v4_14 v4_15 v4_16 v4_17 v4_18 v4_19 v4_20 v4_21 v4_22 v4_23 v4_24 v4_25 v4_26 v4_27 v4_28 v4_29 v4_30 v4_31 w10 hp10
 have P10:=hideIt hp10
 have hm10:=C.out.blk.below hp10.bel C.out.lt
 have e10:=hm10.q 7 rfl
 clear hp10 hm10 e9
 go_wp2_with fail
 refine prt_exps C P10 _ _ _ _ _ _ _ _ _ _ _ _ _ _ _ _ _ _ _ _ _ _ _ _ _ _ _ _ _ _ _ _ _ _ _ _ _ _ _ _ _ _ _ _ _ _ _ _ _ _ _ _ _ _ _ _ _ _ _ _ _ _ _ _ _ _ _ _ _ _ _ _ _ _ _ _ _ _ _ _ _ _ _ _ _ _ _ _ _ _ _ _ _ _ _ _ _ _ _ _ _ _ _ _ _ _ _ _ _ _ _ _ _ _ _ _ _ _ _ _ _ _ _ _ _ _ _ _ _ _ _ _ _ _ _ _ _ _ _ _ _ _ _ _ _ _ _ _ _ _ _ _ _ _ _ _ _ _ _ _ _ _ _ _ _ _ _ _ _ _ _ (hideIt ?_)
 intro v5_0 v5_1 v5_2 v5_3 v5_4 v5_5 v5_6 v5_7 v5_8 v5_9 v5_10 v5_11 v5_12 w11 hp11
 have P11:=hideIt hp11
 have hm11:=C.out.blk.below hp11.bel C.out.lt
 clear hp11 hm11 e10
 have hbs:=bld_isF P11.out.bld
 have HST:=hideIt (Builder_String_any_k w2.heap.size w2.heap.size (pv7 m) w11 hbs P11.out.bel.size)
 clear hbs
 go_wp2_with fail
 refine HST.out.mono ?_
 rintro e w12 ⟨rfl,_,hb12,_⟩
 have HFIN:Hid (PrtPost w m (.returned (.tuple #[.string ⟨(pv7 m).toArray⟩,.int .i64 0])) w12):=hideIt ⟨HB2.out.trans ((P11.out.bel.trans hb12).mono HB2.out.size),by rw [HZ.out,if_pos rfl,←pv_all];rfl⟩
 clear HST hb12
 go_wp2_with fail
 go_ret2
 exact HFIN.out
end Go.Proofs.YtebgikflpgcnlaaGreatDoor
