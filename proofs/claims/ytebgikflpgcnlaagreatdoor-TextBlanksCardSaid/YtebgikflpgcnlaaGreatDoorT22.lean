/- Part 22 of the proof: PrtI PrtJ -/
import Derived.Test.YtebgikflpgcnlaaGreatDoorT19
namespace Go.Proofs.YtebgikflpgcnlaaGreatDoor
set_option linter.unusedVariables false
set_option linter.unusedSimpArgs false
set_option maxRecDepth 100000
set_option maxHeartbeats 4000000
open Go.RowKit Tryz
theorem below_grown {w0 W w4:World} {o:Option Nat} (h:Below w0.heap.size w0 W) (hg:W.grownBy w4 o) (ho: ∀q,o=some q→w0.heap.size≤q):Below w0.heap.size w0 w4:=
 ⟨hg.os.trans h.os,hg.tape.trans h.tape,hg.output.trans h.output,Nat.le_trans h.size hg.size,fun q hq=>(hg.block q (Nat.lt_of_lt_of_le hq h.size) (fun e=>by have:=ho q e.symm;omega)).trans (h.block q hq)⟩
theorem row_cells_drew (w:World) (xs:List Value) (t:TypeId):Row (w.alloc (.cells xs.toArray t)).drew (w.heap.size+1) (some ⟨w.heap.size,0,none⟩) xs:=row_cells w xs t
theorem hex_at (i:Int) (n:Nat) (hi:i.toNat=n) (hn:n<16) (h:i.toNat<(ByteArray.mk #[48,49,50,51,52,53,54,55,56,57,97,98,99,100,101,102]).size):(ByteArray.mk #[48,49,50,51,52,53,54,55,56,57,97,98,99,100,101,102])[i.toNat]'h=hexD n:=by
 subst hi
 have h2: ∀j:Fin 16,(ByteArray.mk #[48,49,50,51,52,53,54,55,56,57,97,98,99,100,101,102])[j.val]'(by have:=j.isLt;exact this)=hexD j.val:=by decide+kernel
 exact h2 ⟨i.toNat,hn⟩
theorem and15 (c:Nat) (h:c<256):bits .and .u8 (c:Int) 15=(c:Int)%16:=by
 have h2: ∀c:Fin 256,bits .and .u8 (c.val:Int) 15=(c.val:Int)%16:=by decide+kernel
 exact h2 ⟨c,h⟩
theorem bytes_at {W:World} {lo hi:Nat} {A:Option Addr} {n c:Nat} {xs:List UInt8} (h:(Rd.u8.sl false).R W lo hi [.slice A n c] xs) {k:Nat} {t:UInt8} (hk:xs[k]?=some t): ∃b o,A=some ⟨b,o,none⟩∧lo≤b∧b<hi∧W.cell? ⟨b,o+k,none⟩=some (.int .u8 (t.toNat:Int)):=by
 obtain⟨b,o,e,h1,h2,cs,hc,hr⟩:=sl_at h hk
 obtain⟨rfl,_⟩:=hr
 refine⟨b,o,e,h1,h2,?_⟩
 have:=hc 0 _ rfl
 rwa [show o+k*Rd.u8.z+0=o+k from by show o+k*1+0=_;omega] at this
set_option maxRecDepth 1000000 in
theorem prt_hex_round {w w2:World} {hi hj:Nat} {m:ModV} {A1 A2 A3 A6 A7 A8:Option Addr} {c1 c2 c3 c6 c7 c8:Nat} (C:Hid (PCtx w w2 hi hj m A1 c1 A2 c2 A3 c3 A6 c6 A7 c7 A8 c8)) {x:DatV} {Ab:Option Addr} {cb:Nat} (Hb:Hid ((Rd.u8.sl false).R w 0 hi [.slice Ab x.b.length cb] x.b)) (hbl:x.b.length≤2147483647) (ws:World) (Hws:Hid (Below w.heap.size w ws)) {k:Nat} {wr:World} (v22:Value) (hk:k≤x.b.length) (HP:Hid (Below ws.heap.size ws wr∧wr.ownsRow ws.heap.size 5 1 v22 (2*k) ((hexT (x.b.take k)).map bv)))
 (s0 s2 s3 s4 s7 s8 s9 s10 s11 s12 s13 s14 s15 s16 s17 s18 s19 s20 s21 s23 s25 s26 s27 s28 s29 s30 s31 s32 s33 s34 s35 s36 s37 s38 s39 s40 s41 s42 s43 s44 s45 s46 s47 s48 s49 s50 s51 s52 s53 s54 s55 s56 s57 s58 s59 s60 s61 s62 s63 s64 s65 s66 s67 s68 s69 s70 s71 s72 s73 s74 s75 s76 s77 s78 s79 s80 s81 s82 s83 s84 s85 s86 s87 s88 s89 s90 s91 s92 s93 s94 s95 s96 s97 s98 s99 s100 s101 s102 s103 s104 s105 s106 s107 s108 s109 s110 s111 s112 s113 s114 s115 s116 s117 s118 s119 s120 s121 s122 s123 s124 s125 s126 s127 s128 s129 s130 s131 s132 s133 s150 s151 s152 s153 s154 s155 s156 s157 s158 s159 s160 s161 s162 s163 s164 s165 s166 s167 s168 s169 s170 s171 s172 s173 s174 s175 u24 u137 u138 u139 u140 u141 u142 u143 u144 u145 u146 u147 u148 u149:Value) (K:Act→World→Prop) (Q:Exit→Act→World→Prop) (HK:Hid (∀(v22 u24 u137 u138 u139 u140 u141 u142 u143 u144 u145 u146 u147 u148 u149:Value) (wx:World),k<x.b.length→Below ws.heap.size ws wx∧wx.ownsRow ws.heap.size 5 1 v22 (2*(k+1)) ((hexT (x.b.take (k+1))).map bv)→K ⟨(List.toArray (s0::(.pointer (some ⟨w.heap.size,0,none⟩))::s2::s3::s4::(.pointer (some ⟨w2.heap.size,0,none⟩))::(.func (.func 28) #[] #[.pointer (some ⟨w2.heap.size,0,none⟩)])::s7::s8::s9::s10::s11::s12::s13::s14::s15::s16::s17::s18::s19::s20::s21::v22::s23::u24::s25::s26::s27::s28::s29::s30::s31::s32::s33::s34::s35::s36::s37::s38::s39::s40::s41::s42::s43::s44::s45::s46::s47::s48::s49::s50::s51::s52::s53::s54::s55::s56::s57::s58::s59::s60::s61::s62::s63::s64::s65::s66::s67::s68::s69::s70::s71::s72::s73::s74::s75::s76::s77::s78::s79::s80::s81::s82::s83::s84::s85::s86::s87::s88::s89::s90::s91::s92::s93::s94::s95::s96::s97::s98::s99::s100::s101::s102::s103::s104::s105::s106::s107::s108::s109::s110::s111::s112::s113::s114::s115::s116::s117::s118::s119::s120::s121::s122::s123::s124::s125::s126::s127::s128::s129::s130::s131::s132::s133::(.slice Ab x.b.length cb)::(.int .i64 x.b.length)::(.int .i64 ((k:Int)+1))::u137::u138::u139::u140::u141::u142::u143::u144::u145::u146::u147::u148::u149::s150::s151::s152::s153::s154::s155::s156::s157::s158::s159::s160::s161::s162::s163::s164::s165::s166::s167::s168::s169::s170::s171::s172::s173::s174::s175:: [])),[]⟩ wx)) (HX:Hid (∀(v22 u24 u137 u138 u139 u140 u141 u142 u143 u144 u145 u146 u147 u148 u149:Value) (wx:World),Below ws.heap.size ws wx∧wx.ownsRow ws.heap.size 5 1 v22 (2*x.b.length) ((hexT x.b).map bv)→Q (.exit 12) ⟨(List.toArray (s0::(.pointer (some ⟨w.heap.size,0,none⟩))::s2::s3::s4::(.pointer (some ⟨w2.heap.size,0,none⟩))::(.func (.func 28) #[] #[.pointer (some ⟨w2.heap.size,0,none⟩)])::s7::s8::s9::s10::s11::s12::s13::s14::s15::s16::s17::s18::s19::s20::s21::v22::s23::u24::s25::s26::s27::s28::s29::s30::s31::s32::s33::s34::s35::s36::s37::s38::s39::s40::s41::s42::s43::s44::s45::s46::s47::s48::s49::s50::s51::s52::s53::s54::s55::s56::s57::s58::s59::s60::s61::s62::s63::s64::s65::s66::s67::s68::s69::s70::s71::s72::s73::s74::s75::s76::s77::s78::s79::s80::s81::s82::s83::s84::s85::s86::s87::s88::s89::s90::s91::s92::s93::s94::s95::s96::s97::s98::s99::s100::s101::s102::s103::s104::s105::s106::s107::s108::s109::s110::s111::s112::s113::s114::s115::s116::s117::s118::s119::s120::s121::s122::s123::s124::s125::s126::s127::s128::s129::s130::s131::s132::s133::(.slice Ab x.b.length cb)::(.int .i64 x.b.length)::(.int .i64 x.b.length)::u137::u138::u139::u140::u141::u142::u143::u144::u145::u146::u147::u148::u149::s150::s151::s152::s153::s154::s155::s156::s157::s158::s159::s160::s161::s162::s163::s164::s165::s166::s167::s168::s169::s170::s171::s172::s173::s174::s175:: [])),[]⟩ wx)):
 Code.wp prog (prtLoop2 4) (Exit.then K Q) ⟨(List.toArray (s0::(.pointer (some ⟨w.heap.size,0,none⟩))::s2::s3::s4::(.pointer (some ⟨w2.heap.size,0,none⟩))::(.func (.func 28) #[] #[.pointer (some ⟨w2.heap.size,0,none⟩)])::s7::s8::s9::s10::s11::s12::s13::s14::s15::s16::s17::s18::s19::s20::s21::v22::s23::u24::s25::s26::s27::s28::s29::s30::s31::s32::s33::s34::s35::s36::s37::s38::s39::s40::s41::s42::s43::s44::s45::s46::s47::s48::s49::s50::s51::s52::s53::s54::s55::s56::s57::s58::s59::s60::s61::s62::s63::s64::s65::s66::s67::s68::s69::s70::s71::s72::s73::s74::s75::s76::s77::s78::s79::s80::s81::s82::s83::s84::s85::s86::s87::s88::s89::s90::s91::s92::s93::s94::s95::s96::s97::s98::s99::s100::s101::s102::s103::s104::s105::s106::s107::s108::s109::s110::s111::s112::s113::s114::s115::s116::s117::s118::s119::s120::s121::s122::s123::s124::s125::s126::s127::s128::s129::s130::s131::s132::s133::(.slice Ab x.b.length cb)::(.int .i64 x.b.length)::(.int .i64 k)::u137::u138::u139::u140::u141::u142::u143::u144::u145::u146::u147::u148::u149::s150::s151::s152::s153::s154::s155::s156::s157::s158::s159::s160::s161::s162::s163::s164::s165::s166::s167::s168::s169::s170::s171::s172::s173::s174::s175:: [])),[]⟩ wr:=by
 conv=>arg 2;whnf
 have hk0:(0:Int)≤k:=by omega
 have hhi:=C.out.hhi
 have hhj:=C.out.hhj
 have hsw:w.heap.size<w2.heap.size:=C.out.lt
 by_cases hlt:k<x.b.length
 ·obtain⟨z,hz⟩: ∃z,x.b[k]?=some z:=⟨_,List.getElem?_eq_getElem hlt⟩
  have hlti:decide ((k:Int)<x.b.length)=true:=decide_eq_true (by omega)
  have HBW:=hideIt (Hws.out.trans (HP.out.1.mono Hws.out.size))
  obtain⟨bk,ok,rfl,_,hbh,hc0⟩:=bytes_at (Rd.below Hb.out HBW.out hhi) hz
  have hzz:z.toNat<256:=z.toNat_lt
  have q1:(0:Int)≤(z.toNat:Int)/16:=by omega
  have q2:(z.toNat:Int)/16<16:=by omega
  have q3:bits .and .u8 (z.toNat:Int) 15=(z.toNat:Int)%16:=and15 _ hzz
  have q4:(0:Int)≤(z.toNat:Int)%16:=by omega
  have q5:(z.toNat:Int)%16<16:=by omega
  obtain⟨i0,hi0,hz0,hs0,hby0⟩:=info_parts info_u8
  have HO:=hideIt HP.out.2
  have hszw:=HP.out.1.size
  obtain⟨A22,c22,rfl⟩:=own_formz HO.out
  clear HX
  go_upto_region 44 with fail
  refine wp_region_noPanic ?_
  go_region_law? (refine step_appz rfl (.tmp 140) (.tmp 147) 41 rfl ws.heap.size 5 i0 _ 1 1 underlying41 hi0 hz0 hs0 hby0 rfl (by omega) _ (2*k) _ rfl (HO.out.alloc _) (wr.heap.size+1) _ 2 2 _ rfl (by rfl) (row_cells_drew _ _ _) (by intro u hu;simp at hu;rcases hu with rfl | rfl<;>rfl) (by unfold maxLen;omega) (by omega) (by simp;omega) ?_;intro A4 c4 w4 h2 h3 h4;have H2:=hideIt h2;have H3:=hideIt h3;clear h2 h3 h4)
  all_goals
   refine NoPanic.normal ?_
   have h2:=H2.out
   rw [hex_at _ (z.toNat/16) (by omega) (by omega),hex_at _ (z.toNat%16) (by omega) (by omega)] at h2
   have hHN:(hexT (x.b.take k)).map bv++ [Value.int .u8 ((hexD (z.toNat/16)).toNat:Int),Value.int .u8 ((hexD (z.toNat%16)).toNat:Int)]=(hexT (x.b.take (k+1))).map bv:=by
    have:=flat_next (f:=fun c:UInt8=> [hexD (c.toNat/16),hexD (c.toNat%16)]) hz
    unfold hexT
    rw [this,List.map_append]
    rfl
   rw [hHN] at h2
   have hB4:Below ws.heap.size ws w4:=below_grown ((HP.out.1.alloc hszw _).drew) H3.out (fun q e=>(HO.out.lt q e).1)
   have HF4:Hid (Below ws.heap.size ws w4∧w4.ownsRow ws.heap.size 5 1 (.slice A4 (2*k+2) c4) (2*(k+1)) ((hexT (x.b.take (k+1))).map bv)):=hideIt ⟨hB4,h2⟩
   clear h2 hHN hB4 H2 H3
   go_wp2_with fail
   apply HK.out
   ·exact hlt
   ·exact HF4.out
 ·obtain rfl:k=x.b.length:=by omega
  have hlti:decide ((x.b.length:Int)<x.b.length)=false:=decide_eq_false (by omega)
  have HPX:Hid (Below ws.heap.size ws wr∧wr.ownsRow ws.heap.size 5 1 v22 (2*x.b.length) ((hexT x.b).map bv)):=hideIt (by have:=HP.out;rw [List.take_length] at this;exact this)
  clear HP HK
  go_wp2_with fail
  apply HX.out
  exact HPX.out
set_option maxRecDepth 1000000 in
theorem prt_hex {w w2:World} {hi hj:Nat} {m:ModV} {A1 A2 A3 A6 A7 A8:Option Addr} {c1 c2 c3 c6 c7 c8:Nat} (C:Hid (PCtx w w2 hi hj m A1 c1 A2 c2 A3 c3 A6 c6 A7 c7 A8 c8)) {x:DatV} {Ab:Option Addr} {cb:Nat} (Hb:Hid ((Rd.u8.sl false).R w 0 hi [.slice Ab x.b.length cb] x.b)) (hbl:x.b.length≤2147483647) (ws:World) (Hws:Hid (Below w.heap.size w ws)) {wr:World} (v22:Value) (HP:Hid (Below ws.heap.size ws wr∧wr.ownsRow ws.heap.size 5 1 v22 (2*0) ((hexT (x.b.take 0)).map bv)))
 (s0 s2 s3 s4 s7 s8 s9 s10 s11 s12 s13 s14 s15 s16 s17 s18 s19 s20 s21 s23 s25 s26 s27 s28 s29 s30 s31 s32 s33 s34 s35 s36 s37 s38 s39 s40 s41 s42 s43 s44 s45 s46 s47 s48 s49 s50 s51 s52 s53 s54 s55 s56 s57 s58 s59 s60 s61 s62 s63 s64 s65 s66 s67 s68 s69 s70 s71 s72 s73 s74 s75 s76 s77 s78 s79 s80 s81 s82 s83 s84 s85 s86 s87 s88 s89 s90 s91 s92 s93 s94 s95 s96 s97 s98 s99 s100 s101 s102 s103 s104 s105 s106 s107 s108 s109 s110 s111 s112 s113 s114 s115 s116 s117 s118 s119 s120 s121 s122 s123 s124 s125 s126 s127 s128 s129 s130 s131 s132 s133 s150 s151 s152 s153 s154 s155 s156 s157 s158 s159 s160 s161 s162 s163 s164 s165 s166 s167 s168 s169 s170 s171 s172 s173 s174 s175 u24 u137 u138 u139 u140 u141 u142 u143 u144 u145 u146 u147 u148 u149:Value) (Q0:Exit→Act→World→Prop) (HX:Hid (∀(v22 u24 u137 u138 u139 u140 u141 u142 u143 u144 u145 u146 u147 u148 u149:Value) (wx:World),Below ws.heap.size ws wx∧wx.ownsRow ws.heap.size 5 1 v22 (2*x.b.length) ((hexT x.b).map bv)→Q0 (.exit 12) ⟨(List.toArray (s0::(.pointer (some ⟨w.heap.size,0,none⟩))::s2::s3::s4::(.pointer (some ⟨w2.heap.size,0,none⟩))::(.func (.func 28) #[] #[.pointer (some ⟨w2.heap.size,0,none⟩)])::s7::s8::s9::s10::s11::s12::s13::s14::s15::s16::s17::s18::s19::s20::s21::v22::s23::u24::s25::s26::s27::s28::s29::s30::s31::s32::s33::s34::s35::s36::s37::s38::s39::s40::s41::s42::s43::s44::s45::s46::s47::s48::s49::s50::s51::s52::s53::s54::s55::s56::s57::s58::s59::s60::s61::s62::s63::s64::s65::s66::s67::s68::s69::s70::s71::s72::s73::s74::s75::s76::s77::s78::s79::s80::s81::s82::s83::s84::s85::s86::s87::s88::s89::s90::s91::s92::s93::s94::s95::s96::s97::s98::s99::s100::s101::s102::s103::s104::s105::s106::s107::s108::s109::s110::s111::s112::s113::s114::s115::s116::s117::s118::s119::s120::s121::s122::s123::s124::s125::s126::s127::s128::s129::s130::s131::s132::s133::(.slice Ab x.b.length cb)::(.int .i64 x.b.length)::(.int .i64 x.b.length)::u137::u138::u139::u140::u141::u142::u143::u144::u145::u146::u147::u148::u149::s150::s151::s152::s153::s154::s155::s156::s157::s158::s159::s160::s161::s162::s163::s164::s165::s166::s167::s168::s169::s170::s171::s172::s173::s174::s175:: [])),[]⟩ wx)):
 Code.wp prog (Code.loop (prtLoop2 4)) Q0 ⟨(List.toArray (s0::(.pointer (some ⟨w.heap.size,0,none⟩))::s2::s3::s4::(.pointer (some ⟨w2.heap.size,0,none⟩))::(.func (.func 28) #[] #[.pointer (some ⟨w2.heap.size,0,none⟩)])::s7::s8::s9::s10::s11::s12::s13::s14::s15::s16::s17::s18::s19::s20::s21::v22::s23::u24::s25::s26::s27::s28::s29::s30::s31::s32::s33::s34::s35::s36::s37::s38::s39::s40::s41::s42::s43::s44::s45::s46::s47::s48::s49::s50::s51::s52::s53::s54::s55::s56::s57::s58::s59::s60::s61::s62::s63::s64::s65::s66::s67::s68::s69::s70::s71::s72::s73::s74::s75::s76::s77::s78::s79::s80::s81::s82::s83::s84::s85::s86::s87::s88::s89::s90::s91::s92::s93::s94::s95::s96::s97::s98::s99::s100::s101::s102::s103::s104::s105::s106::s107::s108::s109::s110::s111::s112::s113::s114::s115::s116::s117::s118::s119::s120::s121::s122::s123::s124::s125::s126::s127::s128::s129::s130::s131::s132::s133::(.slice Ab x.b.length cb)::(.int .i64 x.b.length)::(.int .i64 0)::u137::u138::u139::u140::u141::u142::u143::u144::u145::u146::u147::u148::u149::s150::s151::s152::s153::s154::s155::s156::s157::s158::s159::s160::s161::s162::s163::s164::s165::s166::s167::s168::s169::s170::s171::s172::s173::s174::s175:: [])),[]⟩ wr:=by
 refine wp_loop (fun a wx=> ∃(v22 u24 u137 u138 u139 u140 u141 u142 u143 u144 u145 u146 u147 u148 u149:Value) (k:Nat),k≤x.b.length∧(Below ws.heap.size ws wx∧wx.ownsRow ws.heap.size 5 1 v22 (2*k) ((hexT (x.b.take k)).map bv))∧a=⟨(List.toArray (s0::(.pointer (some ⟨w.heap.size,0,none⟩))::s2::s3::s4::(.pointer (some ⟨w2.heap.size,0,none⟩))::(.func (.func 28) #[] #[.pointer (some ⟨w2.heap.size,0,none⟩)])::s7::s8::s9::s10::s11::s12::s13::s14::s15::s16::s17::s18::s19::s20::s21::v22::s23::u24::s25::s26::s27::s28::s29::s30::s31::s32::s33::s34::s35::s36::s37::s38::s39::s40::s41::s42::s43::s44::s45::s46::s47::s48::s49::s50::s51::s52::s53::s54::s55::s56::s57::s58::s59::s60::s61::s62::s63::s64::s65::s66::s67::s68::s69::s70::s71::s72::s73::s74::s75::s76::s77::s78::s79::s80::s81::s82::s83::s84::s85::s86::s87::s88::s89::s90::s91::s92::s93::s94::s95::s96::s97::s98::s99::s100::s101::s102::s103::s104::s105::s106::s107::s108::s109::s110::s111::s112::s113::s114::s115::s116::s117::s118::s119::s120::s121::s122::s123::s124::s125::s126::s127::s128::s129::s130::s131::s132::s133::(.slice Ab x.b.length cb)::(.int .i64 x.b.length)::(.int .i64 k)::u137::u138::u139::u140::u141::u142::u143::u144::u145::u146::u147::u148::u149::s150::s151::s152::s153::s154::s155::s156::s157::s158::s159::s160::s161::s162::s163::s164::s165::s166::s167::s168::s169::s170::s171::s172::s173::s174::s175:: [])),[]⟩) (fun a _=>x.b.length-(intOf (a.tmps.getD 136 undef)).toNat) ?_ ?_
 ·exact⟨v22,u24,u137,u138,u139,u140,u141,u142,u143,u144,u145,u146,u147,u148,u149,0,Nat.zero_le _,by first | exact HP.out | (rw [List.take_zero,List.flatMap_nil,List.append_nil];exact HP.out),rfl⟩
 ·intro a wx hI
  obtain⟨v22,hI⟩:=hI
  obtain⟨u24,hI⟩:=hI
  obtain⟨u137,hI⟩:=hI
  obtain⟨u138,hI⟩:=hI
  obtain⟨u139,hI⟩:=hI
  obtain⟨u140,hI⟩:=hI
  obtain⟨u141,hI⟩:=hI
  obtain⟨u142,hI⟩:=hI
  obtain⟨u143,hI⟩:=hI
  obtain⟨u144,hI⟩:=hI
  obtain⟨u145,hI⟩:=hI
  obtain⟨u146,hI⟩:=hI
  obtain⟨u147,hI⟩:=hI
  obtain⟨u148,hI⟩:=hI
  obtain⟨u149,hI⟩:=hI
  obtain⟨k,hk,hp,rfl⟩:=hI
  refine prt_hex_round C Hb hbl ws Hws _ hk (hideIt hp) _ _ _ _ _ _ _ _ _ _ _ _ _ _ _ _ _ _ _ _ _ _ _ _ _ _ _ _ _ _ _ _ _ _ _ _ _ _ _ _ _ _ _ _ _ _ _ _ _ _ _ _ _ _ _ _ _ _ _ _ _ _ _ _ _ _ _ _ _ _ _ _ _ _ _ _ _ _ _ _ _ _ _ _ _ _ _ _ _ _ _ _ _ _ _ _ _ _ _ _ _ _ _ _ _ _ _ _ _ _ _ _ _ _ _ _ _ _ _ _ _ _ _ _ _ _ _ _ _ _ _ _ _ _ _ _ _ _ _ _ _ _ _ _ _ _ _ _ _ _ _ _ _ _ _ _ _ _ _ _ _ _ _ _ _ _ _ _ _ _ _ (hideIt ?_) HX
  intro v22 u24 u137 u138 u139 u140 u141 u142 u143 u144 u145 u146 u147 u148 u149 wy hlt hp2
  refine⟨⟨v22,u24,u137,u138,u139,u140,u141,u142,u143,u144,u145,u146,u147,u148,u149,k+1,hlt,hp2,rfl⟩,?_⟩
  show x.b.length-(intOf (.int .i64 ((k+1:Nat):Int))).toNat<x.b.length-(intOf (.int .i64 (k:Int))).toNat
  simp [intOf]
  omega
theorem row_of_own {W:World} {base:Nat} {e:TypeId} {A:Option Addr} {n c:Nat} {xs:List Value} (h:W.ownsRow base e 1 (.slice A n c) n xs):Row W W.heap.size A xs:=by
 intro hn
 rcases h.2 with⟨_,h0⟩ | ⟨g,cap,cur,hv,_,hg,_⟩
 ·have:=h.1
  omega
 ·injection hv with e1
  subst e1
  refine⟨g,0,rfl,(Array.getElem?_eq_some_iff.1 hg).1,fun j u hu=> ?_⟩
  have:=h.cells (g:=g) rfl j u hu
  rwa [Addr.add_lit] at this
theorem hexT_len (l:List UInt8):(hexT l).length=2*l.length:=by
 unfold hexT
 induction l with
 | nil=>rfl
 | cons a l ih=>rw [List.flatMap_cons,List.length_append,ih];simp;omega
set_option maxRecDepth 1000000 in
theorem prt_dats_round {w w2:World} {hi hj:Nat} {m:ModV} {A1 A2 A3 A6 A7 A8:Option Addr} {c1 c2 c3 c6 c7 c8:Nat} (C:Hid (PCtx w w2 hi hj m A1 c1 A2 c2 A3 c3 A6 c6 A7 c7 A8 c8)) {k:Nat} {wr:World} (hk:k≤m.dat.length) (HP:Hid (PR w2 wr (pv5 m++(m.dat.take k).flatMap datT)))
 (s0 s2 s3 s4 s7 s8 s9 s10 s11 s12 s13 s14 s15 s16 s17 s18 s19 s20 s23 s25 s26 s27 s28 s29 s30 s31 s32 s33 s34 s35 s36 s37 s38 s39 s40 s41 s42 s43 s44 s45 s46 s47 s48 s49 s50 s51 s52 s53 s54 s55 s56 s57 s58 s59 s60 s61 s62 s63 s64 s65 s66 s67 s68 s69 s70 s71 s72 s73 s74 s75 s76 s77 s78 s79 s80 s81 s82 s83 s84 s85 s86 s87 s88 s89 s90 s91 s92 s93 s94 s95 s96 s97 s98 s99 s100 s101 s102 s103 s104 s105 s106 s107 s108 s109 s110 s111 s112 s113 s114 s115 s116 s117 s118 s119 s120 s121 s122 s123 s124 s125 s126 s159 s160 s161 s162 s163 s164 s165 s166 s167 s168 s169 s170 s171 s172 s173 s174 s175 u21 u22 u24 u130 u131 u132 u133 u134 u135 u136 u137 u138 u139 u140 u141 u142 u143 u144 u145 u146 u147 u148 u149 u150 u151 u152 u153 u154 u155 u156 u157 u158:Value) (K:Act→World→Prop) (Q:Exit→Act→World→Prop) (HK:Hid (∀(u21 u22 u24 u130 u131 u132 u133 u134 u135 u136 u137 u138 u139 u140 u141 u142 u143 u144 u145 u146 u147 u148 u149 u150 u151 u152 u153 u154 u155 u156 u157 u158:Value) (wx:World),k<m.dat.length→PR w2 wx (pv5 m++(m.dat.take (k+1)).flatMap datT)→K ⟨(List.toArray (s0::(.pointer (some ⟨w.heap.size,0,none⟩))::s2::s3::s4::(.pointer (some ⟨w2.heap.size,0,none⟩))::(.func (.func 28) #[] #[.pointer (some ⟨w2.heap.size,0,none⟩)])::s7::s8::s9::s10::s11::s12::s13::s14::s15::s16::s17::s18::s19::s20::u21::u22::s23::u24::s25::s26::s27::s28::s29::s30::s31::s32::s33::s34::s35::s36::s37::s38::s39::s40::s41::s42::s43::s44::s45::s46::s47::s48::s49::s50::s51::s52::s53::s54::s55::s56::s57::s58::s59::s60::s61::s62::s63::s64::s65::s66::s67::s68::s69::s70::s71::s72::s73::s74::s75::s76::s77::s78::s79::s80::s81::s82::s83::s84::s85::s86::s87::s88::s89::s90::s91::s92::s93::s94::s95::s96::s97::s98::s99::s100::s101::s102::s103::s104::s105::s106::s107::s108::s109::s110::s111::s112::s113::s114::s115::s116::s117::s118::s119::s120::s121::s122::s123::s124::s125::s126::(.slice A7 m.dat.length c7)::(.int .i64 m.dat.length)::(.int .i64 ((k:Int)+1))::u130::u131::u132::u133::u134::u135::u136::u137::u138::u139::u140::u141::u142::u143::u144::u145::u146::u147::u148::u149::u150::u151::u152::u153::u154::u155::u156::u157::u158::s159::s160::s161::s162::s163::s164::s165::s166::s167::s168::s169::s170::s171::s172::s173::s174::s175:: [])),[]⟩ wx)) (HX:Hid (∀(u21 u22 u24 u130 u131 u132 u133 u134 u135 u136 u137 u138 u139 u140 u141 u142 u143 u144 u145 u146 u147 u148 u149 u150 u151 u152 u153 u154 u155 u156 u157 u158:Value) (wx:World),PR w2 wx (pv6 m)→Q (.exit 10) ⟨(List.toArray (s0::(.pointer (some ⟨w.heap.size,0,none⟩))::s2::s3::s4::(.pointer (some ⟨w2.heap.size,0,none⟩))::(.func (.func 28) #[] #[.pointer (some ⟨w2.heap.size,0,none⟩)])::s7::s8::s9::s10::s11::s12::s13::s14::s15::s16::s17::s18::s19::s20::u21::u22::s23::u24::s25::s26::s27::s28::s29::s30::s31::s32::s33::s34::s35::s36::s37::s38::s39::s40::s41::s42::s43::s44::s45::s46::s47::s48::s49::s50::s51::s52::s53::s54::s55::s56::s57::s58::s59::s60::s61::s62::s63::s64::s65::s66::s67::s68::s69::s70::s71::s72::s73::s74::s75::s76::s77::s78::s79::s80::s81::s82::s83::s84::s85::s86::s87::s88::s89::s90::s91::s92::s93::s94::s95::s96::s97::s98::s99::s100::s101::s102::s103::s104::s105::s106::s107::s108::s109::s110::s111::s112::s113::s114::s115::s116::s117::s118::s119::s120::s121::s122::s123::s124::s125::s126::(.slice A7 m.dat.length c7)::(.int .i64 m.dat.length)::(.int .i64 m.dat.length)::u130::u131::u132::u133::u134::u135::u136::u137::u138::u139::u140::u141::u142::u143::u144::u145::u146::u147::u148::u149::u150::u151::u152::u153::u154::u155::u156::u157::u158::s159::s160::s161::s162::s163::s164::s165::s166::s167::s168::s169::s170::s171::s172::s173::s174::s175:: [])),[]⟩ wx)):
 Code.wp prog (prtLoop 4) (Exit.then K Q) ⟨(List.toArray (s0::(.pointer (some ⟨w.heap.size,0,none⟩))::s2::s3::s4::(.pointer (some ⟨w2.heap.size,0,none⟩))::(.func (.func 28) #[] #[.pointer (some ⟨w2.heap.size,0,none⟩)])::s7::s8::s9::s10::s11::s12::s13::s14::s15::s16::s17::s18::s19::s20::u21::u22::s23::u24::s25::s26::s27::s28::s29::s30::s31::s32::s33::s34::s35::s36::s37::s38::s39::s40::s41::s42::s43::s44::s45::s46::s47::s48::s49::s50::s51::s52::s53::s54::s55::s56::s57::s58::s59::s60::s61::s62::s63::s64::s65::s66::s67::s68::s69::s70::s71::s72::s73::s74::s75::s76::s77::s78::s79::s80::s81::s82::s83::s84::s85::s86::s87::s88::s89::s90::s91::s92::s93::s94::s95::s96::s97::s98::s99::s100::s101::s102::s103::s104::s105::s106::s107::s108::s109::s110::s111::s112::s113::s114::s115::s116::s117::s118::s119::s120::s121::s122::s123::s124::s125::s126::(.slice A7 m.dat.length c7)::(.int .i64 m.dat.length)::(.int .i64 k)::u130::u131::u132::u133::u134::u135::u136::u137::u138::u139::u140::u141::u142::u143::u144::u145::u146::u147::u148::u149::u150::u151::u152::u153::u154::u155::u156::u157::u158::s159::s160::s161::s162::s163::s164::s165::s166::s167::s168::s169::s170::s171::s172::s173::s174::s175:: [])),[]⟩ wr:=by
 conv=>arg 2;whnf
 have HBW:=hideIt (C.out.bel.trans (HP.out.bel.mono C.out.bel.size))
 have hsz:w2.heap.size≤wr.heap.size:=HP.out.bel.size
 have hsw:w.heap.size<w2.heap.size:=C.out.lt
 have hszb:w2.heap.size<wr.heap.size:=by obtain⟨_,_,hb⟩:=HP.out.bld;exact hb.blk.lt
 have hhi:=C.out.hhi
 have hhj:=C.out.hhj
 have hk0:(0:Int)≤k:=by omega
 by_cases hlt:k<m.dat.length
 ·obtain⟨x,hx⟩: ∃x,m.dat[k]?=some x:=⟨_,List.getElem?_eq_getElem hlt⟩
  have hlti:decide ((k:Int)<m.dat.length)=true:=decide_eq_true (by omega)
  have hfew:m.dat.length≤2147483647:=by have:=C.out.few;unfold szMod at this;omega
  obtain⟨bk,ok,A_b,c_b,rfl,_,hbh,hc0,hc1,hb63,hbr⟩:=rDat_at C.out.h7 hx
  have hc0:=(HBW.out.cell (p:=⟨bk,ok+k*2,none⟩) (show bk<w.heap.size by omega)).trans hc0
  have hc1:=(HBW.out.cell (p:=⟨bk,ok+k*2+1,none⟩) (show bk<w.heap.size by omega)).trans hc1
  have HN1:=hideIt (flat_step (pv5 m) datT hx)
  have HL1:=hideIt (flat_step_le (pv5 m) datT hx)
  have HLEX:(pv5 m++m.dat.flatMap datT).length≤1048576:=by have:=pv_le m C.out.le;first | exact this.2.1 | exact this.2.2.1 | exact this.2.2.2.1 | exact this.2.2.2.2.1 | exact this.2.2.2.2.2.1 | exact this.2.2.2.2.2.2.1 | exact this.2.2.2.2.2.2.2
  have HMX:=hideIt (List.mem_of_getElem? hx)
  clear hx
  have hfl:=dat_few HMX.out C.out.few
  have HCD:=hideIt hbr
  clear HX
  go_upto_region 40 with fail
  generalize hw3:World.alloc _ _=w3
  have hb3:Below wr.heap.size wr w3:=by rw [←hw3];exact(Below.refl _ _).alloc (Nat.le_refl _) _
  have hm3:Blk w3 wr.heap.size 59 [.int .i64 x.at_,.slice A_b x.b.length c_b]:=by rw [←hw3];exact Blk.new wr _ _
  have hs3:wr.heap.size<w3.heap.size:=hm3.lt
  have a0:=hm3.q 0 rfl;have a1:=hm3.q 1 rfl
  have HM3:=hideIt hm3;have HB3:=hideIt hb3
  have HEV:Hid (∀W,Below wr.heap.size wr W→EnvAt hj W):=hideIt (fun W hW=>C.out.env.to ((HBW.out.trans (hW.mono (Nat.le_of_lt (Nat.lt_of_lt_of_le hsw hsz)))).mono hhj))
  have HW3:=hideIt (HBW.out.trans (hb3.mono (Nat.le_of_lt (Nat.lt_of_lt_of_le hsw hsz))))
  clear hw3 hc0 hc1 hb3 hm3
  go_wp2_with fail
  refine prt_hex C (x:=x) HCD hfl w3 HW3 _ (hideIt ⟨Below.refl _ _,World.ownsRow_nil _ _ _ _⟩) _ _ _ _ _ _ _ _ _ _ _ _ _ _ _ _ _ _ _ _ _ _ _ _ _ _ _ _ _ _ _ _ _ _ _ _ _ _ _ _ _ _ _ _ _ _ _ _ _ _ _ _ _ _ _ _ _ _ _ _ _ _ _ _ _ _ _ _ _ _ _ _ _ _ _ _ _ _ _ _ _ _ _ _ _ _ _ _ _ _ _ _ _ _ _ _ _ _ _ _ _ _ _ _ _ _ _ _ _ _ _ _ _ _ _ _ _ _ _ _ _ _ _ _ _ _ _ _ _ _ _ _ _ _ _ _ _ _ _ _ _ _ _ _ _ _ _ _ _ _ _ _ _ _ _ _ _ _ _ _ _ _ _ _ _ _ _ _ _ _ (hideIt ?_)
  intro v22 v0_ v1_ v2_ v3_ v4_ v5_ v6_ v7_ v8_ v9_ v10_ v11_ v12_ v13_ wx hpx
  have hbx:=hpx.1
  have hox:=hpx.2
  have hsx:w3.heap.size≤wx.heap.size:=hbx.size
  obtain⟨A22,c22,rfl⟩:=own_formz hox
  have hrow:=row_of_own hox
  have hmx:=HM3.out.below hbx hs3
  have g0:=hmx.q 0 rfl;have g1:=hmx.q 1 rfl
  have b0:=hmx.q 0 rfl;have b1:=hmx.q 1 rfl
  have HMX2:=hideIt hmx
  have HBX:=hideIt (HB3.out.trans (hbx.mono (Nat.le_of_lt hs3)))
  have HOX:=hideIt hox
  have cvx:=conv_bytes (P:=prog) 41 5 9 underlying41 underlying5 underlying9 wx _ A22 (2*x.b.length) c22 (hexT x.b) (hexT_len x.b).symm hrow
  have cvd:=conv_bytes (P:=prog) 41 5 9 underlying41 underlying5 underlying9 wx.drew _ A22 (2*x.b.length) c22 (hexT x.b) (hexT_len x.b).symm hrow
  clear hpx hbx hox hmx hrow a0 a1
  go_upto_region 46 with fail
  refine wp_region_noPanic ?_
  go_region_with
   (first
    | (go_at_call 32;refine(txt_num x.at_ hb63 wx.drew (HEV.out _ (HBX.out.drew)) (by simp;omega)).mono ?_;rintro e wa ⟨hba,rfl⟩;have hSa:=below_of_drew hba;have hSza:wx.heap.size≤wa.heap.size:=hSa.size;have hma:=HMX2.out.below hSa (by omega);have d0:=hma.q 0 rfl;have d1:=hma.q 1 rfl;have d0a: ∀o,(wa.alloc o).cell? ⟨wr.heap.size,0,none⟩=some (.int .i64 x.at_):=fun o=>(hma.alloc o).cell 0;have d1a: ∀o,(wa.alloc o).cell? ⟨wr.heap.size,1,none⟩=some (.slice A_b x.b.length c_b):=fun o=>(hma.alloc o).cell 1;have HBa:=hideIt (HBX.out.trans (hSa.mono (by omega)));have HMa:=hideIt hma;have cva:=conv_bytes (P:=prog) 41 5 9 underlying41 underlying5 underlying9 wa _ A22 (2*x.b.length) c22 (hexT x.b) (hexT_len x.b).symm (row_of_own (own_keptz HOX.out hSa));clear hba hSa hma)
    | (go_at_call 28;refine(prt_row [dataW,bOf (Lib.itoa x.at_),bOf (hexT x.b)] [dataT,Lib.itoa x.at_,hexT x.b] rfl 3 rfl _ wa (by simp) (HP.out.bld.below HBa.out) (by omega) (Nat.le_trans HL1.out HLEX) (by decide)).mono ?_;rintro e w6 ⟨rfl,hA,hB,hK⟩;have HP6:=hideIt (PR.mk (HP.out.bel.trans ((HBa.out.mono hsz).trans hB)) (HN1.out▸hA));have hm6:=hK.blk HMa.out (by omega) (by decide);have f0:=hm6.q 0 rfl;have f1:=hm6.q 1 rfl;clear hA hB hK hm6))
  all_goals
   refine NoPanic.normal ?_
   go_wp2_with fail
   apply HK.out
   ·exact hlt
   ·exact HP6.out
 ·obtain rfl:k=m.dat.length:=by omega
  have hlti:decide ((m.dat.length:Int)<m.dat.length)=false:=decide_eq_false (by omega)
  have HPX:Hid (PR w2 wr (pv6 m)):=hideIt (by have:=HP.out;rw [List.take_length] at this;exact this)
  clear HP HK
  go_wp2_with fail
  apply HX.out
  exact HPX.out
set_option maxRecDepth 1000000 in
theorem prt_dats {w w2:World} {hi hj:Nat} {m:ModV} {A1 A2 A3 A6 A7 A8:Option Addr} {c1 c2 c3 c6 c7 c8:Nat} (C:Hid (PCtx w w2 hi hj m A1 c1 A2 c2 A3 c3 A6 c6 A7 c7 A8 c8)) {wr:World} (HP:Hid (PR w2 wr (pv5 m)))
 (s0 s2 s3 s4 s7 s8 s9 s10 s11 s12 s13 s14 s15 s16 s17 s18 s19 s20 s23 s25 s26 s27 s28 s29 s30 s31 s32 s33 s34 s35 s36 s37 s38 s39 s40 s41 s42 s43 s44 s45 s46 s47 s48 s49 s50 s51 s52 s53 s54 s55 s56 s57 s58 s59 s60 s61 s62 s63 s64 s65 s66 s67 s68 s69 s70 s71 s72 s73 s74 s75 s76 s77 s78 s79 s80 s81 s82 s83 s84 s85 s86 s87 s88 s89 s90 s91 s92 s93 s94 s95 s96 s97 s98 s99 s100 s101 s102 s103 s104 s105 s106 s107 s108 s109 s110 s111 s112 s113 s114 s115 s116 s117 s118 s119 s120 s121 s122 s123 s124 s125 s126 s159 s160 s161 s162 s163 s164 s165 s166 s167 s168 s169 s170 s171 s172 s173 s174 s175 u21 u22 u24 u130 u131 u132 u133 u134 u135 u136 u137 u138 u139 u140 u141 u142 u143 u144 u145 u146 u147 u148 u149 u150 u151 u152 u153 u154 u155 u156 u157 u158:Value) (Q0:Exit→Act→World→Prop) (HX:Hid (∀(u21 u22 u24 u130 u131 u132 u133 u134 u135 u136 u137 u138 u139 u140 u141 u142 u143 u144 u145 u146 u147 u148 u149 u150 u151 u152 u153 u154 u155 u156 u157 u158:Value) (wx:World),PR w2 wx (pv6 m)→Q0 (.exit 10) ⟨(List.toArray (s0::(.pointer (some ⟨w.heap.size,0,none⟩))::s2::s3::s4::(.pointer (some ⟨w2.heap.size,0,none⟩))::(.func (.func 28) #[] #[.pointer (some ⟨w2.heap.size,0,none⟩)])::s7::s8::s9::s10::s11::s12::s13::s14::s15::s16::s17::s18::s19::s20::u21::u22::s23::u24::s25::s26::s27::s28::s29::s30::s31::s32::s33::s34::s35::s36::s37::s38::s39::s40::s41::s42::s43::s44::s45::s46::s47::s48::s49::s50::s51::s52::s53::s54::s55::s56::s57::s58::s59::s60::s61::s62::s63::s64::s65::s66::s67::s68::s69::s70::s71::s72::s73::s74::s75::s76::s77::s78::s79::s80::s81::s82::s83::s84::s85::s86::s87::s88::s89::s90::s91::s92::s93::s94::s95::s96::s97::s98::s99::s100::s101::s102::s103::s104::s105::s106::s107::s108::s109::s110::s111::s112::s113::s114::s115::s116::s117::s118::s119::s120::s121::s122::s123::s124::s125::s126::(.slice A7 m.dat.length c7)::(.int .i64 m.dat.length)::(.int .i64 m.dat.length)::u130::u131::u132::u133::u134::u135::u136::u137::u138::u139::u140::u141::u142::u143::u144::u145::u146::u147::u148::u149::u150::u151::u152::u153::u154::u155::u156::u157::u158::s159::s160::s161::s162::s163::s164::s165::s166::s167::s168::s169::s170::s171::s172::s173::s174::s175:: [])),[]⟩ wx)):
 Code.wp prog (Code.loop (prtLoop 4)) Q0 ⟨(List.toArray (s0::(.pointer (some ⟨w.heap.size,0,none⟩))::s2::s3::s4::(.pointer (some ⟨w2.heap.size,0,none⟩))::(.func (.func 28) #[] #[.pointer (some ⟨w2.heap.size,0,none⟩)])::s7::s8::s9::s10::s11::s12::s13::s14::s15::s16::s17::s18::s19::s20::u21::u22::s23::u24::s25::s26::s27::s28::s29::s30::s31::s32::s33::s34::s35::s36::s37::s38::s39::s40::s41::s42::s43::s44::s45::s46::s47::s48::s49::s50::s51::s52::s53::s54::s55::s56::s57::s58::s59::s60::s61::s62::s63::s64::s65::s66::s67::s68::s69::s70::s71::s72::s73::s74::s75::s76::s77::s78::s79::s80::s81::s82::s83::s84::s85::s86::s87::s88::s89::s90::s91::s92::s93::s94::s95::s96::s97::s98::s99::s100::s101::s102::s103::s104::s105::s106::s107::s108::s109::s110::s111::s112::s113::s114::s115::s116::s117::s118::s119::s120::s121::s122::s123::s124::s125::s126::(.slice A7 m.dat.length c7)::(.int .i64 m.dat.length)::(.int .i64 0)::u130::u131::u132::u133::u134::u135::u136::u137::u138::u139::u140::u141::u142::u143::u144::u145::u146::u147::u148::u149::u150::u151::u152::u153::u154::u155::u156::u157::u158::s159::s160::s161::s162::s163::s164::s165::s166::s167::s168::s169::s170::s171::s172::s173::s174::s175:: [])),[]⟩ wr:=by
 refine wp_loop (fun a wx=> ∃(u21 u22 u24 u130 u131 u132 u133 u134 u135 u136 u137 u138 u139 u140 u141 u142 u143 u144 u145 u146 u147 u148 u149 u150 u151 u152 u153 u154 u155 u156 u157 u158:Value) (k:Nat),k≤m.dat.length∧PR w2 wx (pv5 m++(m.dat.take k).flatMap datT)∧a=⟨(List.toArray (s0::(.pointer (some ⟨w.heap.size,0,none⟩))::s2::s3::s4::(.pointer (some ⟨w2.heap.size,0,none⟩))::(.func (.func 28) #[] #[.pointer (some ⟨w2.heap.size,0,none⟩)])::s7::s8::s9::s10::s11::s12::s13::s14::s15::s16::s17::s18::s19::s20::u21::u22::s23::u24::s25::s26::s27::s28::s29::s30::s31::s32::s33::s34::s35::s36::s37::s38::s39::s40::s41::s42::s43::s44::s45::s46::s47::s48::s49::s50::s51::s52::s53::s54::s55::s56::s57::s58::s59::s60::s61::s62::s63::s64::s65::s66::s67::s68::s69::s70::s71::s72::s73::s74::s75::s76::s77::s78::s79::s80::s81::s82::s83::s84::s85::s86::s87::s88::s89::s90::s91::s92::s93::s94::s95::s96::s97::s98::s99::s100::s101::s102::s103::s104::s105::s106::s107::s108::s109::s110::s111::s112::s113::s114::s115::s116::s117::s118::s119::s120::s121::s122::s123::s124::s125::s126::(.slice A7 m.dat.length c7)::(.int .i64 m.dat.length)::(.int .i64 k)::u130::u131::u132::u133::u134::u135::u136::u137::u138::u139::u140::u141::u142::u143::u144::u145::u146::u147::u148::u149::u150::u151::u152::u153::u154::u155::u156::u157::u158::s159::s160::s161::s162::s163::s164::s165::s166::s167::s168::s169::s170::s171::s172::s173::s174::s175:: [])),[]⟩) (fun a _=>m.dat.length-(intOf (a.tmps.getD 129 undef)).toNat) ?_ ?_
 ·exact⟨u21,u22,u24,u130,u131,u132,u133,u134,u135,u136,u137,u138,u139,u140,u141,u142,u143,u144,u145,u146,u147,u148,u149,u150,u151,u152,u153,u154,u155,u156,u157,u158,0,Nat.zero_le _,by rw [List.take_zero,List.flatMap_nil,List.append_nil];exact HP.out,rfl⟩
 ·intro a wx hI
  obtain⟨u21,hI⟩:=hI
  obtain⟨u22,hI⟩:=hI
  obtain⟨u24,hI⟩:=hI
  obtain⟨u130,hI⟩:=hI
  obtain⟨u131,hI⟩:=hI
  obtain⟨u132,hI⟩:=hI
  obtain⟨u133,hI⟩:=hI
  obtain⟨u134,hI⟩:=hI
  obtain⟨u135,hI⟩:=hI
  obtain⟨u136,hI⟩:=hI
  obtain⟨u137,hI⟩:=hI
  obtain⟨u138,hI⟩:=hI
  obtain⟨u139,hI⟩:=hI
  obtain⟨u140,hI⟩:=hI
  obtain⟨u141,hI⟩:=hI
  obtain⟨u142,hI⟩:=hI
  obtain⟨u143,hI⟩:=hI
  obtain⟨u144,hI⟩:=hI
  obtain⟨u145,hI⟩:=hI
  obtain⟨u146,hI⟩:=hI
  obtain⟨u147,hI⟩:=hI
  obtain⟨u148,hI⟩:=hI
  obtain⟨u149,hI⟩:=hI
  obtain⟨u150,hI⟩:=hI
  obtain⟨u151,hI⟩:=hI
  obtain⟨u152,hI⟩:=hI
  obtain⟨u153,hI⟩:=hI
  obtain⟨u154,hI⟩:=hI
  obtain⟨u155,hI⟩:=hI
  obtain⟨u156,hI⟩:=hI
  obtain⟨u157,hI⟩:=hI
  obtain⟨u158,hI⟩:=hI
  obtain⟨k,hk,hp,rfl⟩:=hI
  refine prt_dats_round C hk (hideIt hp) _ _ _ _ _ _ _ _ _ _ _ _ _ _ _ _ _ _ _ _ _ _ _ _ _ _ _ _ _ _ _ _ _ _ _ _ _ _ _ _ _ _ _ _ _ _ _ _ _ _ _ _ _ _ _ _ _ _ _ _ _ _ _ _ _ _ _ _ _ _ _ _ _ _ _ _ _ _ _ _ _ _ _ _ _ _ _ _ _ _ _ _ _ _ _ _ _ _ _ _ _ _ _ _ _ _ _ _ _ _ _ _ _ _ _ _ _ _ _ _ _ _ _ _ _ _ _ _ _ _ _ _ _ _ _ _ _ _ _ _ _ _ _ _ _ _ _ _ _ _ _ _ _ _ _ _ _ _ _ _ _ _ _ _ _ _ _ _ _ _ _ _ (hideIt ?_) HX
  intro u21 u22 u24 u130 u131 u132 u133 u134 u135 u136 u137 u138 u139 u140 u141 u142 u143 u144 u145 u146 u147 u148 u149 u150 u151 u152 u153 u154 u155 u156 u157 u158 wy hlt hp2
  refine⟨⟨u21,u22,u24,u130,u131,u132,u133,u134,u135,u136,u137,u138,u139,u140,u141,u142,u143,u144,u145,u146,u147,u148,u149,u150,u151,u152,u153,u154,u155,u156,u157,u158,k+1,hlt,hp2,rfl⟩,?_⟩
  show m.dat.length-(intOf (.int .i64 ((k+1:Nat):Int))).toNat<m.dat.length-(intOf (.int .i64 (k:Int))).toNat
  simp [intOf]
  omega
end Go.Proofs.YtebgikflpgcnlaaGreatDoor
