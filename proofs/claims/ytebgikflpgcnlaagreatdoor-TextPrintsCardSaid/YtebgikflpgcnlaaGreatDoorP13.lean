/- Part 13 of the proof: ModH -/
import Derived.Test.YtebgikflpgcnlaaGreatDoorP07
import Derived.Test.YtebgikflpgcnlaaGreatDoorP12
namespace Go.Proofs.YtebgikflpgcnlaaGreatDoor
set_option linter.unusedVariables false
set_option linter.unusedSimpArgs false
set_option maxRecDepth 100000
set_option maxHeartbeats 4000000
open Go.RowKit Tryz
theorem Rn (v:Value) (s:ByteArray) (most:Int) (h47:s.size≤140737488351232) (w:World) (h:Dh s most=0):
 Calls prog 114 #[v,.string s,.int .i64 most,.int .i64 0] w fun e w'=>Below w.heap.size w w'∧e= .returned (.tuple #[]):=
 (R9 v s most h47 w).mono fun e w' ⟨h1,h2⟩=>⟨h1,h2.elim (fun h3=>h3.2) (fun h3=>absurd h h3.1)⟩
theorem Ro (v:Value) (s:ByteArray) (most:Int) (h47:s.size≤140737488351232) (w:World) (h:Dh s most≠0):
 Calls prog 114 #[v,.string s,.int .i64 most,.int .i64 0] w fun e w'=>Below w.heap.size w w'∧e= .panicked (thrown (Dh s most) 0):=
 (R9 v s most h47 w).mono fun e w' ⟨h1,h2⟩=>⟨h1,h2.elim (fun h3=>absurd h3.1 h) (fun h3=>h3.2)⟩
theorem EY {b:Bool} {e:Int} (he:e≠0) (h:Ae b e=0):b=true:=by
 cases b with
 | true=>rfl
 | false=>exact absurd h he
theorem JX {s:ByteArray} {most:Int} (h:Dh s most=0):(s.size:Int)≤most∧Sk s=true:=by
 unfold Dh at h
 have:=AL h
 exact⟨of_decide_eq_true (EY (by decide) this.1),EY (by decide) this.2⟩
theorem R_ {m:AQ} {k:Nat} {x:Dl} (h0:Ae (decide (m.types.length≤64)) 20=0) (he:Aq k (fJ m.types)=0) (hx:m.types[k]?=some x) {v:Int} (hv:v≠0) (ht:fJ m.types k=v):NY m=v:=by
 have hk:=(List.getElem?_eq_some_iff.1 hx).1
 have h1:El m=v:=by
  unfold El
  rw [AY h0,Ij he (by rw [ht];exact hv) _ hk,ht]
 unfold NY
 rw [Dk (by rw [h1];exact hv),h1]
theorem Xe {m:AQ} (ht:El m=0) {v:Int} (hv:v≠0) (hh:FY m=v):NY m=v:=by
 unfold NY
 rw [AY ht,Dk (by rw [hh];exact hv),hh]
theorem dV {m:AQ} {k:Nat} {t:Int} (hx:m.hosts[k]?=some t):LD m k=Ae (decide (0≤t∧t<m.types.length)) 30:=by
 unfold LD;rw [hx]
theorem nu {m:AQ} {k:Nat} {t:Int} (h0:Ae (decide (m.hosts.length≤32)) 20=0) (he:Aq k (LD m)=0) (hx:m.hosts[k]?=some t) (hv:LD m k≠0):FY m=LD m k:=by
 unfold FY
 rw [AY h0,Ij he hv _ (List.getElem?_eq_some_iff.1 hx).1]
theorem SA {m:AQ} (ht:El m=0) (hh:FY m=0) {v:Int} (hv:v≠0) (hg:JN m=v):NY m=v:=by
 unfold NY
 rw [AY ht,AY hh,Dk (by rw [hg];exact hv),hg]
theorem Xf {m:AQ} {k:Nat} {x:Ep} (hx:m.globs[k]?=some x):Ms m k=EO (Ae (Qh x.l.toNat) 15) (Ae (JL x.v x.l.toNat) 17):=by
 unfold Ms;rw [hx]
theorem Y_ {m:AQ} {k:Nat} {x:Ep} (h0:Ae (decide (m.globs.length≤64)) 20=0) (he:Aq k (Ms m)=0) (hx:m.globs[k]?=some x) {v:Int} (hv:v≠0) (hg:Ms m k=v):JN m=v:=by
 unfold JN
 rw [AY h0,Ij he (by rw [hg];exact hv) _ (List.getElem?_eq_some_iff.1 hx).1,hg]
theorem iK {m:AQ} (ht:El m=0) (hh:FY m=0) (hg:JN m=0):NY m=KR m:=by
 unfold NY
 rw [AY ht,AY hh,AY hg]
theorem Uq {l:List Dl} {k:Nat} {x:Dl} (hx:l[k]?=some x):fJ l k=EO (Dh x.p 8) (EO (Dh x.r 8) (Ae (!(l.take k).any (fun y=>PL y x)) 16)):=by
 unfold fJ;rw [hx]
def YZ (b:Bool):Int:=if b then 1 else 0
theorem zO (b:Bool):bv (if b then 1 else 0)= .int .u8 (YZ b):=by cases b<;>rfl
theorem uQ {x:Ep} (h:x.l.toNat=108) (hv:x.v<18446744073709551616):wrap64 (x.v:Int)=Au x:=by
 unfold Au
 rw [if_neg (by omega)]
 unfold wrap64
 split<;>omega
theorem AB_ {x:Ep} (h:x.l.toNat=119) (hv:x.v<4294967296):wrap64 (wrap32 (x.v:Int))=Au x:=by
 unfold Au wrap64 wrap32
 split
 ·omega
 ·split<;>omega
def Pj (A1 A2 A3 A4 A5 A6:Option Addr) (c1 c2 c3 c4 c5 c6:Nat) (m:AQ):List Value:=
 [.slice A1 m.types.length c1,.slice A2 m.hosts.length c2,.slice A3 m.globs.length c3,.int .i64 m.first,.int .i64 m.most,.slice A4 m.fns.length c4,.slice A5 m.dat.length c5,.slice A6 m.AO.length c6]
def AA6 (first:Int):List Value:= [.slice none 0 0,.slice none 0 0,.slice none 0 0,.int .i64 first,.int .i64 0,.slice none 0 0,.slice none 0 0,.slice none 0 0]
theorem ny {w:World} {base g:Nat} {K:Nat→Prop} {all first:Int} {l:List UInt8} (cs:Array Value) (h:Wr w base g K (.pointer none) all l) (hbase:base≤w.heap.size) {W:World}
 (hW:(((w.setCell ⟨g,0,none⟩ (.pointer (some ⟨w.heap.size+1,0,none⟩))).alloc (.cells cs 29)).alloc (.cells (AA6 first).toArray 29))=W):
 Keep K w W∧AV W w.heap.size 29 cs.toList∧Hd W base g (w.heap.size+1) (fun k=>K k∨k=w.heap.size) first all [] l∧w.heap.size≤W.heap.size:=by
 obtain⟨A,c,h⟩:=h
 have hg:=h.blk.lt
 have hs0:(w.setCell ⟨g,0,none⟩ (.pointer (some ⟨w.heap.size+1,0,none⟩))).heap.size=w.heap.size:=by simp [World.setCell]
 have hs:((w.setCell ⟨g,0,none⟩ (.pointer (some ⟨w.heap.size+1,0,none⟩))).alloc (.cells cs 29)).heap.size=w.heap.size+1:=by simp [World.setCell]
 have hsn:=AV.new ((w.setCell ⟨g,0,none⟩ (.pointer (some ⟨w.heap.size+1,0,none⟩))).alloc (.cells cs 29)) 29 (AA6 first)
 have hbn:=AV.new (w.setCell ⟨g,0,none⟩ (.pointer (some ⟨w.heap.size+1,0,none⟩))) 29 cs.toList
 rw [hs,hW] at hsn
 rw [hs0] at hbn
 have hWs:W.heap.size=w.heap.size+2:=by rw [←hW];simp [World.setCell]
 refine⟨by rw [←hW];exact(((Keep.refl K w).setCell h.kg _).alloc _).alloc _,by rw [←hW];exact hbn.alloc _,⟨none,0,⟨hsn,World.ownsRow_nil _ _ _ _,by simp⟩,⟨A,c,?_,?_,h.low,?_,?_,?_⟩,by omega,?_,by simp [Value.ownBlock]⟩,by omega⟩
 ·rw [←hW];exact((h.blk.set 0 _).alloc _).alloc _
 ·rw [←hW];exact((h.own.uI (fun e=>(h.apart g e).2 rfl) _).alloc _).alloc _
 ·rintro((e | e) | e | e)
  ·exact h.kg e
  ·omega
  ·omega
  ·cases e
 ·intro k hk
  refine⟨?_,(h.apart k hk).2⟩
  have:=(h.own.lt k hk).2
  rintro((e | e) | e | e)
  ·exact(h.apart k hk).1 e
  ·omega
  ·omega
  ·cases e
 ·intro k hk
  rw [hWs]
  rcases hk with(e | e) | e | e
  ·have:=h.lt k e;omega
  ·omega
  ·omega
  ·cases e
 ·rintro(e | e)
  ·have:=h.lt _ e;omega
  ·omega
theorem zP (cs:List Value) (hi base g:Nat) (K:Nat→Prop) (m:AQ) (l:List UInt8) (w:World) (h:IZ.R w 0 hi cs m) (hhi:hi≤w.heap.size) (hK: ∀k,k<hi→K k) (hw:Wr w base g K (.pointer none) 0 l) (hbase:base≤w.heap.size) (hle:Ad m≤2147483647) (LU:LM m) (hl:l.length≤1000):
 Calls prog 66 #[.pointer (some ⟨g,0,none⟩),.agg cs.toArray] w fun e w'=>Keep K w w'∧Qy (NY m) e (∃gs,Hd w' base g gs K m.first 0 m.types (l++Qs m)):=by
 generalize dU:NY m=EE
 have HE:=AA dU
 clear dU
 obtain⟨v1,v2,v3,v4,v5,v6,rfl,h1,h2,h3,n_,hm63,h4,h5,h6⟩:=DF.1 h
 obtain⟨A1,c1,rfl⟩:=AU h1
 obtain⟨A2,c2,rfl⟩:=AU h2
 obtain⟨A3,c3,rfl⟩:=AU h3
 obtain⟨A4,c4,rfl⟩:=AU h4
 obtain⟨A5,c5,rfl⟩:=AU h5
 obtain⟨A6,c6,rfl⟩:=AU h6
 have H1:=AA h1;have H2:=AA h2;have H3:=AA h3;have Zy:=AA hK;have HW0:=AA hw;have OY:=AA hle
 clear h h1 h2 h3 h4 h5 h6 hK hle
 have hc0:w.cell? ⟨g,0,none⟩=some (.pointer none):=by obtain⟨A,c,hw⟩:=hw;exact hw.blk.cell 0
 have hg:g<w.heap.size:=by obtain⟨A,c,hw⟩:=hw;exact hw.blk.lt
 have hf0:w.frozen? ⟨g,0,none⟩=false:=by obtain⟨A,c,hw⟩:=hw;exact hw.blk.frozen 0
 clear hw
 go_enter func66,ntmps66
 go_wp2_with fail
 generalize hw1:((w.setCell _ _).alloc _).alloc _=w1
 obtain⟨i1,i2,i3,i4⟩:=ny _ HW0.out hbase hw1
 have uJ:=AA i1;have HB1:=AA i2;have HD1:=AA i3
 have hb1:base≤w1.heap.size:=Nat.le_trans hbase i4
 clear hw1 i1 i2 i3 i4
 generalize hK1:(fun k=>K k∨k=w.heap.size)=K1 at*
 have HKK:Hid ((∀k,K k→K1 k)∧K1 w.heap.size):=AA (by rw [←hK1];exact⟨fun k h=> .inl h,.inr rfl⟩)
 clear hK1
 have hlt:m.types.length≤2147483647:=by have:=OY.out;unfold Ad at this;omega
 refine(Ph m.types.length 64 (by omega) HD1.out (by omega) hb1).mono ?_
 rintro e w2 ⟨hk,hcase⟩
 have Zz:Hid (Keep K w w2):=AA (uJ.out.trans (hk.mono HKK.out.1))
 have HB2:=AA (HB1.out.keep hk HKK.out.2)
 rcases hcase with⟨h0,rfl,hd⟩ | ⟨h0,rfl⟩
 case inr=>
  have H0:=AA h0;clear h0 hk
  go_wp2_with fail
  have hX:=HE.out
  unfold NY El at hX
  rw [Dk (by rw [Dk H0.out];exact H0.out),Dk H0.out] at hX
  exact⟨rfl,Zz.out,.inr ⟨by rw [←hX];exact H0.out,by rw [←hX]⟩⟩
 have H0:=AA h0;have HD2:=AA hd
 have hb2:base≤w2.heap.size:=Nat.le_trans hb1 hk.size
 clear h0 hd hk uJ HB1 HD1
 have hx0:=HB2.out.cell 0
 go_upto_block 0 with fail
 go_cut [] (fun wx=>Keep K w wx∧AV wx w.heap.size 29 (Pj A1 A2 A3 A4 A5 A6 c1 c2 c3 c4 c5 c6 m)∧Hd wx base g (w.heap.size+1) K1 m.first 0 m.types (l++Qp m)∧Aq m.types.length (fJ m.types)=0)
 case first=>
  clear hx0
  go_wp2_with fail
  go_loopw [28] (fun i wr=> ∃k:Nat,k≤m.types.length∧i= .int .i64 k∧Keep K w wr∧AV wr w.heap.size 29 (Pj A1 A2 A3 A4 A5 A6 c1 c2 c3 c4 c5 c6 m)∧Hd wr base g (w.heap.size+1) K1 m.first 0 (m.types.take k) (l++(enc m.types.length++(m.types.take k).flatMap O4))∧Aq k (fJ m.types)=0)
   (fun i _=>m.types.length-(intOf i).toNat)
  case atStart=>exact⟨0,Nat.zero_le _,rfl,Zz.out,HB2.out,by simpa using HD2.out,rfl⟩
  case round=>
   obtain⟨k,hk,rfl,hkr,hbr,hdr,her⟩:=hrel
   have uR:=AA hkr;have Ky:=AA hbr;have HDr:=AA hdr;have RN:=AA her
   have Ur:base≤wr.heap.size:=Nat.le_trans hbase hkr.size
   clear hkr hbr hdr her
   by_cases hltk:k<m.types.length
   ·obtain⟨x,hx⟩: ∃x,m.types[k]?=some x:=⟨_,List.getElem?_eq_getElem hltk⟩
    have hr1:=Rd.Iz H1.out uR.out hhi (fun j _ h=>Zy.out j h)
    obtain⟨b,o,rfl,_,Kg,hc0',hc1',hop,hor⟩:=Ii hr1 hx
    have Hx:=AA hx
    have hk0:(0:Int)≤k:=by omega
    clear hr1 hx
    go_wp2_with fail
    generalize hw3:wr.alloc _=w3
    have hb3:Below wr.heap.size wr w3:=by rw [←hw3];exact(Below.refl _ _).alloc (Nat.le_refl _) _
    have aP:=AA (uR.out.all hb3);have uS:=AA (Ky.out.below hb3 Ky.out.lt);have HD3:=AA (HDr.out.box hb3 (by rw [←hw3];simp))
    generalize hK2:(fun j=>K1 j∨j=wr.heap.size)=K2 at HD3
    have Hw:Hid ((∀j,K1 j→K2 j)∧K2 wr.heap.size):=AA (by rw [←hK2];exact⟨fun j h=> .inl h,.inr rfl⟩)
    have Xg:base≤w3.heap.size:=Nat.le_trans Ur hb3.size
    clear hK2
    have Rp:Hid (AV w3 wr.heap.size 51 [.string x.p,.string x.r]):=by rw [←hw3];exact AA (AV.new wr 51 [.string x.p,.string x.r])
    have hn0:=Rp.out.q 0 rfl
    clear hw3 hb3 hc0' hc1'
    by_cases hp:Dh x.p 8=0
    case neg=>
     have hX:Hid (EE=Dh x.p 8):=AA (by rw [←HE.out];exact R_ H0.out RN.out Hx.out hp (by rw [Uq Hx.out,Dk hp]))
     have Hp:=AA hp;clear hp
     go_region_dies
     all_goals
      refine(Ro _ x.p 8 hop _ Hp.out).mono ?_
      rintro e w4 ⟨hb4,rfl⟩
      exact⟨rfl,aP.out.all (Af hb4),.inr ⟨by rw [hX.out];exact Hp.out,by rw [hX.out]⟩⟩
    have Hp:=AA hp;clear hp
    go_region_held3 (fun w'=>w'.cell? ⟨wr.heap.size,0,none⟩=some (.string x.p)) (first | exact hn0 | assumption)
     (first | (go_at_call 114;refine(Rn _ x.p 8 hop _ Hp.out).mono ?_;rintro e w4 ⟨hb4,rfl⟩;have hb4:=Af hb4;have Ke:=AA hb4;have hn4:=(Rp.out.below hb4 Rp.out.lt).q 0 rfl;clear hb4))
    have xL:=AA (aP.out.all Ke.out);have HBy:=AA (uS.out.below Ke.out uS.out.lt);have HD4:=AA (HD3.out.K7 Ke.out);have Va:=AA (Rp.out.below Ke.out Rp.out.lt)
    have Us:base≤w4.heap.size:=Nat.le_trans Xg Ke.out.size
    have hsz:x.p.size≤8∧x.r.size≤2147483647:=⟨by have:=(JX Hp.out).1;omega,by have:=Dy (fun t:Dl=>t.p.size+t.r.size) m.types x (List.mem_of_getElem? Hx.out);have:=OY.out;unfold Ad at this;omega⟩
    have hLk:=Ud LU OY.out m.types.length k hlt
    have hLE:=OY.out
    have Xh:Hid ((l++(enc m.types.length++(m.types.take k).flatMap O4)).length≤90194315000):=AA (by rw [List.length_append];omega)
    have HLp:Hid ((JH x.p).length≤20):=AA (by have:=Kw (s:=x.p) (by omega);omega)
    clear Ke aP uS HD3 Rp hLk hLE Ur Xg hn0
    go_wp2_with fail
    refine(TP x.p (by omega) HD4.out (by have:=Xh.out;omega) Us).mono ?_
    rintro e w5 ⟨rfl,hk5,hd5⟩
    have Rb:=AA (xL.out.trans (hk5.mono fun j h=>Hw.out.1 j (HKK.out.1 j h)));have HBz:=AA (HBy.out.keep hk5 (Hw.out.1 _ HKK.out.2));have HD5:=AA hd5;have VK:=AA (Va.out.keep hk5 Hw.out.2)
    have Xi:base≤w5.heap.size:=Nat.le_trans Us hk5.size
    have hm1:=VK.out.q 1 rfl
    clear hk5 hd5 xL HBy HD4 Va Us hn4
    go_wp2_with fail
    by_cases hp:Dh x.r 8=0
    case neg=>
     have hX:Hid (EE=Dh x.r 8):=AA (by rw [←HE.out];exact R_ H0.out RN.out Hx.out hp (by rw [Uq Hx.out,AY Hp.out,Dk hp]))
     have Hp:=AA hp;clear hp
     go_region_dies
     all_goals
      refine(Ro _ x.r 8 hor _ Hp.out).mono ?_
      rintro e w6 ⟨hb6,rfl⟩
      exact⟨rfl,Rb.out.all (Af hb6),.inr ⟨by rw [hX.out];exact Hp.out,by rw [hX.out]⟩⟩
    have Hr:=AA hp;clear hp
    go_region_held3 (fun w'=>w'.cell? ⟨wr.heap.size,1,none⟩=some (.string x.r)) (first | exact hm1 | assumption)
     (first | (go_at_call 114;refine(Rn _ x.r 8 hor _ Hr.out).mono ?_;rintro e w6 ⟨hb6,rfl⟩;have hb6:=Af hb6;have MU:=AA hb6;have OU:=(VK.out.below hb6 VK.out.lt).q 1 rfl;clear hb6))
    have uT:=AA (Rb.out.all MU.out);have HBu:=AA (HBz.out.below MU.out HBz.out.lt);have HD6:=AA (HD5.out.K7 MU.out);have oC:=AA (VK.out.below MU.out VK.out.lt)
    have SB:base≤w6.heap.size:=Nat.le_trans Xi MU.out.size
    have HLr:Hid ((JH x.r).length≤2147483700):=AA (by have:=Kw (s:=x.r) (by omega);omega)
    clear MU Rb HBz HD5 VK Xi hm1
    go_wp2_with fail
    refine(TP x.r (by omega) HD6.out (by have:=Xh.out;have:=HLp.out;rw [List.length_append];omega) SB).mono ?_
    rintro e w7 ⟨rfl,dW,hd7⟩
    have xM:=AA (uT.out.trans (dW.mono fun j h=>Hw.out.1 j (HKK.out.1 j h)));have HBv:=AA (HBu.out.keep dW (Hw.out.1 _ HKK.out.2));have Hn7:=AA (oC.out.keep dW Hw.out.2)
    have HD7:=AA (hd7.less Hw.out.1)
    have uU:base≤w7.heap.size:=Nat.le_trans SB dW.size
    clear dW hd7 uT HBu HD6 oC SB OU Hw
    have hq0:=Hn7.out.q 0 rfl
    have hq1:=Hn7.out.q 1 rfl
    have ACB:(m.types.take k).length=k:=by rw [List.length_take];omega
    generalize hts:m.types.take k=ts at HD7 ACB
    have Hts:=AA hts
    have hTk:=AA ACB
    clear hts ACB
    obtain⟨T,d,s1,s2,s3,s4,s5⟩:=HD7.out
    have hs0:=s1.blk.q 0 rfl
    have hsl:=s1.blk.lt
    have hsf:=s1.blk.frozen 0
    have xO:=AA s1;have uV:=AA s2;have zQ:=AA s5;have Hs4:=AA s4
    clear s1 s2 s4 s5 HD7
    obtain⟨i0,z0,hi0,hz,hs',hby,hzz⟩:=info_parts' gB
    go_wp2_with (at_builtin;refine Qm _ rfl (.tmp 53) (.tmp 55) 22 rfl base 51 i0 z0 2 32 underlying22 hi0 hz hs' hby hzz (by omega) (.slice T ts.length d) ts.length (ts.flatMap Sj) rfl (xO.out.own.alloc _) (w7.heap.size+1) (some ⟨w7.heap.size,0,none⟩) 1 1 (Sj x) rfl rfl (by have:=(AV.new w7 51 (Sj x)).row 0 2;exact this) (by intro u hu;unfold Sj at hu;simp at hu;rcases hu with rfl | rfl<;>rfl) (by rw [hTk.out];unfold maxLen;omega) (by rw [hTk.out];omega) (by simp;omega) ?_;intro A8 c8 w8 g2 g3 g4;have FX:=(g3.block (w.heap.size+1) (by simp;omega) (fun e=>(zQ.out _ e.symm).2 rfl)).trans (xO.out.blk.alloc (.cells (Sj x).toArray 51));have hc8:=AV.cell FX 0;have hf8:=AV.frozen FX 0;have G2:=AA g2;have G3:=AA g3;have G4:=AA g4;clear g2 g3 g4 FX)
    have uW:Below w7.heap.size w7 (w7.alloc (.cells (Sj x).toArray 51)):=(Below.refl _ _).alloc (Nat.le_refl _) _
    have HP:=AA (Hd.type (K:=K1) (xO.out.keep (K:=K1) (Keep.Am uW)) (uV.out.K7 uW) s3 Hs4.out zQ.out ⟨hop,hor⟩ G3.out G2.out G4.out)
    have HKA:Hid (Keep K1 w7 (w7.alloc (.cells (Sj x).toArray 51))):=AA (Keep.Am uW)
    have HK8:Hid (Keep K w (w8.setCell ⟨w.heap.size+1,0,none⟩ (.slice A8 (ts.length+1) c8))):=AA (xM.out.trans ((HKA.out.trans HP.out.1).mono HKK.out.1))
    have NC:Hid (AV (w8.setCell ⟨w.heap.size+1,0,none⟩ (.slice A8 (ts.length+1) c8)) w.heap.size 29 (Pj (some ⟨b,o,none⟩) A2 A3 A4 A5 A6 c1 c2 c3 c4 c5 c6 m)):=AA (HBv.out.keep (HKA.out.trans HP.out.1) HKK.out.2)
    have HD8:=AA HP.out.2
    clear uW HP HKA xM HBv Hn7 xO uV Hs4 zQ s3 hs0 hsl hsf hi0 hz hs' hby hzz hc8 hf8 G2 G3 G4 hq0 hq1
    generalize w8.setCell _ _=w9 at*
    have htx:Hid (ts++ [x]=m.types.take (k+1)):=AA (by rw [List.take_add_one,Hx.out,Hts.out];rfl)
    refine(uP k x HD8.out (by rw [List.length_append,hTk.out];rfl) (by rw [List.getElem?_append_right (by rw [hTk.out];exact Nat.le_refl _),hTk.out,Nat.sub_self];rfl) (by have:=(EY (by decide) H0.out);have:=of_decide_eq_true this;omega)).mono ?_
    rintro e uX ⟨hbT,hT⟩
    have hany:(ts++ [x]).take k=m.types.take k:=by rw [List.take_append_of_le_length (by rw [hTk.out];exact Nat.le_refl _),←Hts.out,List.take_take,Nat.min_self]
    rw [hany] at hT
    have hty:fJ m.types k=Ae (!(m.types.take k).any (fun y=>PL y x)) 16:=by rw [Uq Hx.out,AY Hp.out,AY Hr.out]
    rw [←hty] at hT
    have oD:=AA hT
    have HKT:=AA (HK8.out.all hbT);have HBT:=AA (NC.out.below hbT NC.out.lt);have HDT:=AA (HD8.out.K7 hbT)
    clear hT hbT hany hty HK8 NC HD8
    rcases oD.out with⟨h0,rfl⟩ | ⟨h0,rfl⟩
    ·have HN:Hid (Aq (k+1) (fJ m.types)=0):=AA (Ib RN.out h0)
     have HF:Hid (l++(enc m.types.length++(m.types.take k).flatMap O4)++JH x.p++JH x.r=l++(enc m.types.length++(m.types.take (k+1)).flatMap O4)):=AA (by rw [FK Hx.out];unfold O4;simp only [List.append_assoc])
     clear h0
     go_wp2_with fail
     refine⟨⟨k+1,by omega,by go_num,HKT.out,HBT.out,?_,HN.out⟩,by simp [intOf];omega⟩
     rw [←HF.out,←htx.out,Hts.out]
     exact HDT.out
    ·have hX:Hid (EE=fJ m.types k):=AA (by rw [←HE.out];exact R_ H0.out RN.out Hx.out h0 rfl)
     have oF:=AA h0;clear h0
     go_wp2_with fail
     exact⟨rfl,HKT.out,.inr ⟨by rw [hX.out];exact oF.out,by rw [hX.out]⟩⟩
   ·obtain rfl:k=m.types.length:=by omega
    go_wp2_with fail
    go_meet
    refine⟨uR.out,Ky.out,?_,RN.out⟩
    have:=HDr.out
    rw [List.take_length] at this
    exact this
 case rest=>
  obtain⟨hkc,hbc,hdc,iL⟩:=hcut
  have uY:=AA hkc;have ZA:=AA hbc;have HDc:=AA hdc
  have HT:Hid (El m=0):=AA (by unfold El;rw [AY H0.out];exact iL)
  have OI:base≤wc.heap.size:=Nat.le_trans hbase hkc.size
  have hx1:=hbc.q 1 rfl
  have hlh:m.hosts.length≤2147483647:=by have:=OY.out;unfold Ad at this;omega
  have HLt:Hid ((l++Qp m).length≤90194315000):=AA (by have h1:=Ud LU OY.out m.types.length m.types.length hlt;rw [List.take_length] at h1;have:=OY.out;rw [List.length_append];unfold Qp;omega)
  clear hkc hbc hdc iL Zz HB2 HD2 H0 hb2 hb1 hx0 H1
  go_wp2_with fail
  refine(Ph m.hosts.length 32 (by omega) HDc.out (by have:=HLt.out;omega) OI).mono ?_
  rintro e w2 ⟨hk,hcase⟩
  have Zz:Hid (Keep K w w2):=AA (uY.out.trans (hk.mono HKK.out.1))
  have HB2:=AA (ZA.out.keep hk HKK.out.2)
  rcases hcase with⟨h0,rfl,hd⟩ | ⟨h0,rfl⟩
  case inr=>
   have H0:=AA h0;clear h0 hk
   go_wp2_with fail
   have hX:EE=Ae (decide (m.hosts.length≤32)) 20:=by rw [←HE.out];exact Xe HT.out H0.out (by unfold FY;rw [Dk H0.out])
   exact⟨rfl,Zz.out,.inr ⟨by rw [hX];exact H0.out,by rw [hX]⟩⟩
  have H0:=AA h0;have HD2:=AA hd
  have hb2:base≤w2.heap.size:=Nat.le_trans OI hk.size
  clear h0 hd hk uY ZA HDc hx1
  have hx0:=HB2.out.q 1 rfl
  generalize hL2:l++Qp m=L2 at*
  have HL2:=AA hL2
  clear hL2
  go_upto_block 2 with fail
  go_cut [] (fun wx=>Keep K w wx∧AV wx w.heap.size 29 (Pj A1 A2 A3 A4 A5 A6 c1 c2 c3 c4 c5 c6 m)∧Hd wx base g (w.heap.size+1) K1 m.first 0 m.types (L2++Qq m)∧Aq m.hosts.length (LD m)=0)
  case first=>
   clear hx0
   go_wp2_with fail
   go_loopw [71] (fun i wr=> ∃k:Nat,k≤m.hosts.length∧i= .int .i64 k∧Keep K w wr∧AV wr w.heap.size 29 (Pj A1 A2 A3 A4 A5 A6 c1 c2 c3 c4 c5 c6 m)∧Hd wr base g (w.heap.size+1) K1 m.first 0 m.types (L2++(enc m.hosts.length++(m.hosts.take k).flatMap (fun t=>enc t.toNat)))∧Aq k (LD m)=0)
    (fun i _=>m.hosts.length-(intOf i).toNat)
   case atStart=>exact⟨0,Nat.zero_le _,rfl,Zz.out,HB2.out,by simpa using HD2.out,rfl⟩
   case round=>
    obtain⟨k,hk,rfl,hkr,hbr,hdr,her⟩:=hrel
    have uR:=AA hkr;have Ky:=AA hbr;have HDr:=AA hdr;have RN:=AA her
    have Ur:base≤wr.heap.size:=Nat.le_trans hbase hkr.size
    have hy0:=hbr.q 0 rfl
    clear hkr hbr hdr her
    by_cases hltk:k<m.hosts.length
    ·obtain⟨x,hx⟩: ∃x,m.hosts[k]?=some x:=⟨_,List.getElem?_eq_getElem hltk⟩
     have hr1:=Rd.Iz H2.out uR.out hhi (fun j _ h=>Zy.out j h)
     obtain⟨b,o,rfl,_,Kg,cs,hcs,hrd⟩:=NW hr1 hx
     obtain⟨rfl,ACC⟩:=hrd
     have hc0':wr.cell? ⟨b,o+k,none⟩=some (.int .i64 x):=by
      have:=hcs 0 _ rfl
      rwa [show Rd.i64.z=1 from rfl,Nat.mul_one,Nat.add_zero] at this
     have Hx:=AA hx
     have hk0:(0:Int)≤k:=by omega
     have Xh:Hid ((L2++(enc m.hosts.length++(m.hosts.take k).flatMap (fun t=>enc t.toNat))).length≤180388630000):=AA (by
      have h1:=Ue LU OY.out m.hosts.length k hlh
      have:=OY.out
      have h2:=HLt.out
      rw [List.length_append];omega)
     clear hr1 hx hcs
     go_wp2_with fail
     refine(Xd x m.types.length ACC.2 HDr.out (by have:=Xh.out;omega) Ur).mono ?_
     rintro e w3 ⟨hk3,hcase⟩
     have aP:=AA (uR.out.trans (hk3.mono HKK.out.1));have HB3:=AA (Ky.out.keep hk3 HKK.out.2)
     rw [←dV Hx.out] at hcase
     rcases hcase with⟨h0,rfl,hd⟩ | ⟨h0,rfl⟩
     ·have HN:Hid (Aq (k+1) (LD m)=0):=AA (Ib RN.out h0)
      have HD3:Hid (Hd w3 base g (w.heap.size+1) K1 m.first 0 m.types (L2++(enc m.hosts.length++(m.hosts.take (k+1)).flatMap (fun t=>enc t.toNat)))):=AA (by
       rw [FK Hx.out]
       simpa only [List.append_assoc] using hd)
      clear h0 hk3 hd
      go_wp2_with fail
      exact⟨⟨k+1,by omega,by go_num,aP.out,HB3.out,HD3.out,HN.out⟩,by simp [intOf];omega⟩
     ·have hX:Hid (EE=LD m k):=AA (by rw [←HE.out];exact Xe HT.out h0 (nu H0.out RN.out Hx.out h0))
      have oF:=AA h0;clear h0 hk3
      go_wp2_with fail
      exact⟨rfl,aP.out,.inr ⟨by rw [hX.out];exact oF.out,by rw [hX.out]⟩⟩
    ·obtain rfl:k=m.hosts.length:=by omega
     go_wp2_with fail
     go_meet
     refine⟨uR.out,Ky.out,?_,RN.out⟩
     have:=HDr.out
     rw [List.take_length] at this
     exact this
  case rest=>
   obtain⟨hkc,hbc,hdc,iL⟩:=hcut
   have HHE:Hid (FY m=0):=AA (by unfold FY;rw [AY H0.out];exact iL)
   have uY:=AA hkc;have ZA:=AA hbc;have HDc:=AA hdc
   have OI:base≤wc.heap.size:=Nat.le_trans hbase hkc.size
   have hx1:=hbc.q 2 rfl
   have hlg:m.globs.length≤2147483647:=by have:=OY.out;unfold Ad at this;omega
   have HL3:Hid ((L2++Qq m).length≤180388630000):=AA (by have h1:=Ue LU OY.out m.hosts.length m.hosts.length hlh;rw [List.take_length] at h1;have:=OY.out;have:=HLt.out;rw [List.length_append];unfold Qq;omega)
   clear hkc hbc hdc iL Zz HB2 HD2 H0 hb2 OI hx0 H2
   have OI:base≤wc.heap.size:=Nat.le_trans hbase uY.out.size
   go_wp2_with fail
   refine(Ph m.globs.length 64 (by omega) HDc.out (by have:=HL3.out;omega) OI).mono ?_
   rintro e w2 ⟨hk,hcase⟩
   have Zz:Hid (Keep K w w2):=AA (uY.out.trans (hk.mono HKK.out.1))
   have HB2:=AA (ZA.out.keep hk HKK.out.2)
   rcases hcase with⟨h0,rfl,hd⟩ | ⟨h0,rfl⟩
   case inr=>
    have H0:=AA h0;clear h0 hk
    go_wp2_with fail
    have hX:EE=Ae (decide (m.globs.length≤64)) 20:=by rw [←HE.out];exact SA HT.out HHE.out H0.out (by unfold JN;rw [Dk H0.out])
    exact⟨rfl,Zz.out,.inr ⟨by rw [hX];exact H0.out,by rw [hX]⟩⟩
   have H0:=AA h0;have HD2:=AA hd
   have hb2:base≤w2.heap.size:=Nat.le_trans OI hk.size
   clear h0 hd hk uY ZA HDc hx1 OI
   have hx0:=HB2.out.q 2 rfl
   generalize hL3:L2++Qq m=L3 at*
   have HL3e:=AA hL3
   clear hL3
   go_upto_block 4 with fail
   go_cut [] (fun wx=>Keep K w wx∧AV wx w.heap.size 29 (Pj A1 A2 A3 A4 A5 A6 c1 c2 c3 c4 c5 c6 m)∧Hd wx base g (w.heap.size+1) K1 m.first 0 m.types (L3++Qr m)∧Aq m.globs.length (Ms m)=0)
   case first=>
    clear hx0
    go_wp2_with fail
    go_loopw [90] (fun i wr=> ∃k:Nat,k≤m.globs.length∧i= .int .i64 k∧Keep K w wr∧AV wr w.heap.size 29 (Pj A1 A2 A3 A4 A5 A6 c1 c2 c3 c4 c5 c6 m)∧Hd wr base g (w.heap.size+1) K1 m.first 0 m.types (L3++(enc m.globs.length++(m.globs.take k).flatMap JI))∧Aq k (Ms m)=0)
     (fun i _=>m.globs.length-(intOf i).toNat)
    case atStart=>exact⟨0,Nat.zero_le _,rfl,Zz.out,HB2.out,by simpa using HD2.out,rfl⟩
    case round=>
     obtain⟨k,hk,rfl,hkr,hbr,hdr,her⟩:=hrel
     have uR:=AA hkr;have Ky:=AA hbr;have HDr:=AA hdr;have RN:=AA her
     have Ur:base≤wr.heap.size:=Nat.le_trans hbase hkr.size
     clear hkr hbr hdr her
     by_cases hltk:k<m.globs.length
     ·obtain⟨x,hx⟩: ∃x,m.globs[k]?=some x:=⟨_,List.getElem?_eq_getElem hltk⟩
      have hr1:=Rd.Iz H3.out uR.out hhi (fun j _ h=>Zy.out j h)
      obtain⟨b,o,rfl,_,Kg,hc0',hc1',hc2',hv64⟩:=K_ hr1 hx
      have Hx:=AA hx
      have hk0:(0:Int)≤k:=by omega
      have Xh:Hid ((L3++(enc m.globs.length++(m.globs.take k).flatMap JI)).length≤270582945000):=AA (by
       have h1:=Uf LU OY.out m.globs.length k hlg (fun j y hj hy=>(PX RN.out j y hj hy).2)
       have:=OY.out
       have h2:=HL3.out
       rw [List.length_append];omega)
      clear hr1 hx
      go_wp2_with fail
      generalize hw3:wr.alloc _=w3
      have hb3:Below wr.heap.size wr w3:=by rw [←hw3];exact(Below.refl _ _).alloc (Nat.le_refl _) _
      have aP:=AA (uR.out.all hb3);have HB3:=AA (Ky.out.below hb3 Ky.out.lt);have HD3:=AA (HDr.out.K7 hb3)
      have Rp:Hid (AV w3 wr.heap.size 82 [.int .u8 (x.l.toNat:Int),.bool x.m,.int .u64 (x.v:Int)]):=by rw [←hw3];exact AA (AV.new wr 82 [.int .u8 (x.l.toNat:Int),.bool x.m,.int .u64 (x.v:Int)])
      have Xg:base≤w3.heap.size:=Nat.le_trans Ur hb3.size
      have hn0:=Rp.out.q 0 rfl
      have hn1:=Rp.out.q 1 rfl
      have hn2:=Rp.out.q 2 rfl
      clear hw3 hb3 hc0' hc1' hc2'
      refine(Sq x.l.toNat (UInt8.toNat_lt x.l) w3).mono ?_
      rintro e w4 ⟨rfl,rfl⟩
      go_wp2_with fail
      refine(JJ _ 15 0 (by decide) _).mono ?_
      rintro e w4 ⟨rfl,⟨h0,rfl⟩ | ⟨h0,rfl⟩⟩
      case inr=>
       have hX:Hid (EE=Ae (Qh x.l.toNat) 15):=AA (by rw [←HE.out];exact SA HT.out HHE.out h0 (Y_ H0.out RN.out Hx.out h0 (by rw [Xf Hx.out,Dk h0])))
       have oF:=AA h0;clear h0
       go_wp2_with fail
       exact⟨rfl,aP.out,.inr ⟨by rw [hX.out];exact oF.out,by rw [hX.out]⟩⟩
      have H15:=AA h0;clear h0
      go_wp2_with fail
      refine(uM x w3).mono ?_
      rintro e w4 ⟨hb4,hcase⟩
      have xL:=AA (aP.out.all hb4);have Ke:=AA (HB3.out.below hb4 HB3.out.lt);have HD4:=AA (HD3.out.K7 hb4);have Va:=AA (Rp.out.below hb4 Rp.out.lt)
      have Us:base≤w4.heap.size:=Nat.le_trans Xg hb4.size
      clear hb4 hn0 hn1 hn2 aP HB3 HD3 Rp Xg
      rcases hcase with⟨h0,rfl⟩ | ⟨h0,rfl⟩
      case inr=>
       have hX:Hid (EE=Ae (JL x.v x.l.toNat) 17):=AA (by rw [←HE.out];exact SA HT.out HHE.out h0 (Y_ H0.out RN.out Hx.out h0 (by rw [Xf Hx.out,AY H15.out])))
       have oF:=AA h0;clear h0
       go_wp2_with fail
       exact⟨rfl,xL.out,.inr ⟨by rw [hX.out];exact oF.out,by rw [hX.out]⟩⟩
      have H17:=AA h0;clear h0
      have hn0:=Va.out.q 0 rfl
      have hn1:=Va.out.q 1 rfl
      have hn2:=Va.out.q 2 rfl
      go_wp2_with fail
      go_quiet (fail)
      have AEJ:Hid (x.v<18446744073709551616):=AA hv64
      have ACD:Hid (Qh x.l.toNat=true∧JL x.v x.l.toNat=true):=AA ⟨EY (by decide) H15.out,EY (by decide) H17.out⟩
      generalize VU:w4.drewN nq=w5
      have hb5:Below w4.heap.size w4 w5:=by rw [←VU];exact below_drewN (Below.refl _ _) nq
      have Rb:=AA (xL.out.all hb5);have I8:=AA (Ke.out.below hb5 Ke.out.lt);have HD5:=AA (HD4.out.K7 hb5);have VK:=AA (Va.out.below hb5 Va.out.lt)
      have Xi:base≤w5.heap.size:=Nat.le_trans Us hb5.size
      have hy0:=VK.out.q 0 rfl
      have hy1:=VK.out.q 1 rfl
      have hy2:=VK.out.q 2 rfl
      clear VU hb5 hn0 hn1 hn2 xL Ke HD4 Va Us hv64
      go_upto_if 104 with fail
      go_cut [11] (fun a wx=>a= .int .u8 (YZ x.m)∧wx=w5)
      case first=>
       cases hm:x.m with
       | true=>rw [hm] at hy1;go_wp2_with fail;go_meet;exact⟨by rw [hm];rfl,rfl⟩
       | false=>rw [hm] at hy1;go_wp2_with fail;go_meet;exact⟨by rw [hm];rfl,rfl⟩
      case rest=>
       obtain⟨rfl,rfl⟩:=hcut
       go_upto_if 107 with fail
       go_cut [12] (fun a wx=>a= .int .i64 (Au x)∧wx=wc)
       case first=>
        rcases(show x.l.toNat=119∨x.l.toNat=108 from by have:=ACD.out.1;unfold Qh at this;simp at this;omega)with hl | hl
        ·have hs:=AA (AB_ hl (by have:=ACD.out.2;unfold JL at this;rw [hl] at this;simpa using this))
         have hb:((x.l.toNat:Int)==119)=true:=by rw [hl];rfl
         clear hl
         go_wp2_with fail
         go_meet
         exact⟨congrArg _ hs.out,rfl⟩
        ·have hs:=AA (uQ hl AEJ.out)
         have hb:((x.l.toNat:Int)==119)=false:=by rw [hl];rfl
         clear hl
         go_wp2_with fail
         go_meet
         exact⟨congrArg _ hs.out,rfl⟩
       case rest=>
        obtain⟨rfl,rfl⟩:=hcut
        go_upto_region 31 with fail
        go_cut [] (fun wx=>Keep K w wx∧AV wx w.heap.size 29 (Pj A1 A2 (some ⟨b,o,none⟩) A4 A5 A6 c1 c2 c3 c4 c5 c6 m)∧Hd wx base g (w.heap.size+1) K1 m.first 0 m.types ((L3++(enc m.globs.length++(m.globs.take k).flatMap JI))++ [x.l,if x.m then 1 else 0]))
        case first=>
         have HT0:=HD5.out
         obtain⟨T,d,s1,⟨A,c,s2⟩,s3,s4,s5⟩:=HT0
         have hg0:=s2.blk.q 2 rfl
         have hgl:g<wc.heap.size:=s2.blk.lt
         have hgf:=s2.blk.frozen 2
         have hwl:wr.heap.size<wc.heap.size:=VK.out.lt
         have xO:=AA s1;have uV:=AA s2;have Hs4:=AA s4;have zQ:=AA s5
         clear s1 s2 s4 s5 hy1 hy2
         generalize fO:L3++(enc m.globs.length++(m.globs.take k).flatMap JI)=LL at*
         have uZ:=AA fO
         clear fO
         obtain⟨i0,hi0,hz,hs',hby⟩:=info_parts G8
         have uW:Below wc.heap.size wc (wc.drew.alloc (.cells #[.int .u8 (x.l.toNat:Int),.int .u8 (YZ x.m)] 5)):=Below.alloc (show Below wc.heap.size wc wc.drew from⟨rfl,rfl,rfl,Nat.le_refl _,fun _ _=>rfl⟩) (Nat.le_refl _) _
         have iM:=AA (uV.out.K7 uW)
         have AEK:=AA (xO.out.keep (K:=K1) (Keep.Am uW))
         have HKA:=AA (Rb.out.all uW)
         have uf:=AA (I8.out.below uW I8.out.lt)
         have Zo:Hid ([.int .u8 (x.l.toNat:Int),.int .u8 (YZ x.m)]= [x.l,if x.m then 1 else 0].map bv):=AA (by rw [List.map_cons,List.map_cons,zO];rfl)
         have hrow2:Hid (Row (wc.drew.alloc (.cells #[.int .u8 (x.l.toNat:Int),.int .u8 (YZ x.m)] 5)) (wc.heap.size+1) (some ⟨wc.heap.size,0,none⟩) [.int .u8 (x.l.toNat:Int),.int .u8 (YZ x.m)]):=AA (by have:=(AV.new wc.drew 5 [.int .u8 (x.l.toNat:Int),.int .u8 (YZ x.m)]).row 0 2;exact this)
         have hszA:base≤(wc.drew.alloc (.cells #[.int .u8 (x.l.toNat:Int),.int .u8 (YZ x.m)] 5)).heap.size:=Nat.le_trans Xi uW.size
         have hgA:=iM.out.blk.lt
         clear uW
         generalize hwA:wc.drew.alloc (.cells #[.int .u8 (x.l.toNat:Int),.int .u8 (YZ x.m)] 5)=wA at iM AEK HKA uf hrow2 hszA hgA
         have hcA:=iM.out.blk.q 2 rfl
         go_region_law (refine RJ rfl (.tmp 116) (.tmp 120) 41 rfl base 5 i0 _ 1 underlying41 hi0 hz hs' hby rfl _ LL.length (LL.map bv) rfl (by exact iM.out.own) _ (some ⟨wc.heap.size,0,none⟩) 2 2 [.int .u8 (x.l.toNat:Int),.int .u8 (YZ x.m)] (by omega) rfl rfl (by exact hrow2.out) (by intro u hu;simp at hu;rcases hu with rfl | rfl<;>rfl) (by have:=Xh.out;unfold maxLen;omega) (by have:=Xh.out;omega) (by exact hszA) ?_;intro A4 c4 w6 h2 h3 h4;rw [Zo.out] at h2;have HP:=AA (iM.out.put (m:=2) rfl h3 h2 h4);have hb6:=EB h3 iM.out.blk (fun e=>(iM.out.apart g e).2 rfl);have hf6:=hb6.frozen 2;have hc6:=hb6.cell 2;clear h2 h3 h4 hb6)
         all_goals
          have HH:=AA (Hd.of AEK.out s3 Hs4.out zQ.out HP.out.1 HP.out.2)
          clear HP hf6 hc6
          go_wp2_with fail
          go_meet
          exact⟨HKA.out.trans (HH.out.1.mono HKK.out.1),uf.out.keep HH.out.1 HKK.out.2,HH.out.2⟩
        case rest=>
         obtain⟨fP,hb6,hd6⟩:=hcut
         obtain⟨T,d,s1,⟨A,c,s2⟩,s3,s4,s5⟩:=hd6
         have uT:=AA fP;have MU:=AA hb6
         generalize fO:(L3++(enc m.globs.length++(m.globs.take k).flatMap JI))++ [x.l,if x.m then 1 else 0]=LL at*
         have uZ:=AA fO
         have HLn:Hid (LL.length≤270582945002):=AA (by rw [←fO,List.length_append];have:=Xh.out;simp only [List.length_cons,List.length_nil];omega)
         have hg2:=s2.blk.q 2 rfl
         have hgf:=s2.blk.frozen 2
         have SB:base≤wc.heap.size:=Nat.le_trans hbase fP.size
         have xO:=AA s1;have uV:=AA s2;have Hs4:=AA s4;have zQ:=AA s5
         have hsb:=OC AEJ.out ACD.out.2
         have VL:=Ag (folded (Au x)) (MZ _ hsb.1 hsb.2)
         obtain⟨i0,hi0,hz,hs',hby⟩:=info_parts G8
         clear fO s1 s2 s4 s5 fP hb6 Rb I8 HD5 VK Xi
         go_wp2_with fail
         go_region_law (first
          | (go_simp;go_at_call 118;refine(Y8 (Au x) hsb.1 hsb.2 _).mono ?_;rintro e w7 ⟨A7,c7,rfl,h2,h3⟩;have O8:Below wc.heap.size wc w7:=⟨h3.os,h3.tape,h3.output,h3.size,h3.block⟩;have HR7:=AA (Row.own h2);have oG:=AA (uV.out.K7 O8);have Hs17:=AA (xO.out.keep (K:=K1) (Keep.Am O8));have xM:=AA (uT.out.all O8);have dK:=AA (MU.out.below O8 MU.out.lt);have uU:base≤w7.heap.size:=Nat.le_trans SB O8.size;have hc7:=oG.out.blk.q 2 rfl;have hf7:=oG.out.blk.frozen 2;clear h2 h3 O8)
          | (refine RJ rfl (.tmp 128) (.tmp 130) 41 rfl base 5 i0 _ 1 underlying41 hi0 hz hs' hby rfl _ LL.length (LL.map bv) rfl (by exact oG.out.own) _ A7 (enc (folded (Au x))).length c7 ((enc (folded (Au x))).map bv) (Dv _) rfl (by rw [List.length_map,Nat.mul_one]) (by exact HR7.out) (LC _) (by have:=HLn.out;unfold maxLen;omega) (by have:=HLn.out;omega) uU ?_;intro A8 c8 w8 h2 h3 h4;have HP:=AA (oG.out.put rfl h3 h2 h4);have FX:=EB h3 oG.out.blk (fun e=>(oG.out.apart g e).2 rfl);have hf8:=FX.frozen 2;have hc8:=FX.cell 2;clear h2 h3 h4 FX))
         all_goals
          have HH:=AA (Hd.of Hs17.out s3 Hs4.out zQ.out HP.out.1 HP.out.2)
          have HN:Hid (Aq (k+1) (Ms m)=0):=AA (Ib RN.out (by rw [Xf Hx.out,AY H15.out];exact H17.out))
          have HF:Hid (LL++enc (folded (Au x))=L3++(enc m.globs.length++(m.globs.take (k+1)).flatMap JI)):=AA (by rw [FK Hx.out,←uZ.out];unfold JI;simp only [List.append_assoc])
          clear HP hf8 hc8 hc7 hf7
          go_wp2_with fail
          refine⟨⟨k+1,by omega,by go_num,xM.out.trans (HH.out.1.mono HKK.out.1),dK.out.keep HH.out.1 HKK.out.2,?_,HN.out⟩,by simp [intOf];omega⟩
          rw [←HF.out]
          exact HH.out.2
     ·obtain rfl:k=m.globs.length:=by omega
      go_wp2_with fail
      go_meet
      refine⟨uR.out,Ky.out,?_,RN.out⟩
      have:=HDr.out
      rw [List.take_length] at this
      exact this
   case rest=>
    obtain⟨hkc,hbc,hdc,iL⟩:=hcut
    have xP:Hid (JN m=0):=AA (by unfold JN;rw [AY H0.out];exact iL)
    have HPG:Hid (EE=KR m):=AA (by rw [←HE.out];exact iK HT.out HHE.out xP.out)
    have uY:=AA hkc;have ZA:=AA hbc;have HDc:=AA hdc
    have OI:base≤wc.heap.size:=Nat.le_trans hbase hkc.size
    have HL4:Hid ((L3++Qr m).length≤270582945000):=AA (by have h1:=Uf LU OY.out m.globs.length m.globs.length hlg (fun j y hj hy=>(PX iL j y hj hy).2);rw [List.take_length] at h1;have:=OY.out;have:=HL3.out;rw [List.length_append];unfold Qr;omega)
    have hz3:=hbc.q 3 rfl
    have hz4:=hbc.q 4 rfl
    clear hkc hbc hdc iL Zz HB2 HD2 H0 hb2 hx0 H3
    by_cases hbad: ¬(0≤m.first∧m.first≤64)
    ·have hX:Hid (EE=17):=AA (by rw [HPG.out];unfold KR;exact ET (decide_eq_false (fun h=>hbad ⟨h.1,h.2.1⟩)))
     by_cases hneg:m.first<0
     ·have d0:decide (0≤m.first)=false:=decide_eq_false (by omega)
      clear hbad
      go_wp2_with fail
      refine(EU 17 0 _).mono ?_
      rintro e w6 ⟨rfl,rfl⟩
      go_wp2_with fail
      exact⟨rfl,uY.out,.inr ⟨by rw [hX.out];decide,by rw [hX.out]⟩⟩
     ·have d0:decide (0≤m.first)=true:=decide_eq_true (by omega)
      have d1:decide (m.first≤64)=false:=decide_eq_false (by omega)
      have hnn:0≤m.first:=by omega
      clear hbad hneg
      go_wp2_with fail
      refine(EU 17 0 _).mono ?_
      rintro e w6 ⟨rfl,rfl⟩
      go_wp2_with fail
      exact⟨rfl,uY.out,.inr ⟨by rw [hX.out];decide,by rw [hX.out]⟩⟩
    have hfi:0≤m.first∧m.first≤64:=Decidable.not_not.1 hbad
    have d0:decide (0≤m.first)=true:=decide_eq_true hfi.1
    have d1:decide (m.first≤64)=true:=decide_eq_true hfi.2
    have hnn:=hfi.1
    obtain⟨n1,hn1⟩:=Int.eq_ofNat_of_zero_le hfi.1
    have Hn1:Hid (m.first=(n1:Int)∧n1≤64):=AA ⟨hn1,by omega⟩
    clear hn1
    clear hbad
    go_wp2_with fail
    refine(Et 17 0 _).mono ?_
    rintro e w6 ⟨rfl,rfl⟩
    go_wp2_with fail
    have hcl:=RL n1 (by have:=Hn1.out.2;omega) HDc.out (by have:=HL4.out;omega) OI
    rw [←Hn1.out.1] at hcl
    refine hcl.mono ?_
    clear hcl
    rintro e w6 ⟨rfl,fP,hd6⟩
    have uT:=AA (uY.out.trans (fP.mono HKK.out.1));have MU:=AA (ZA.out.keep fP HKK.out.2);have HD6:=AA hd6
    have SB:base≤w6.heap.size:=Nat.le_trans OI fP.size
    have hy3:=MU.out.q 3 rfl
    have hy4:=MU.out.q 4 rfl
    clear fP hd6 uY ZA HDc hz3 hz4
    by_cases hbad: ¬(m.first≤m.most∧m.most≤64)
    ·have hX:Hid (EE=17):=AA (by rw [HPG.out];unfold KR;exact ET (decide_eq_false (fun h=>hbad ⟨h.2.2.1,h.2.2.2⟩)))
     by_cases hneg:m.most<m.first
     ·have e0:decide (m.first≤m.most)=false:=decide_eq_false (by omega)
      clear hbad
      go_wp2_with fail
      refine(EU 17 0 _).mono ?_
      rintro e w7 ⟨rfl,rfl⟩
      go_wp2_with fail
      exact⟨rfl,uT.out,.inr ⟨by rw [hX.out];decide,by rw [hX.out]⟩⟩
     ·have e0:decide (m.first≤m.most)=true:=decide_eq_true (by omega)
      have e1:decide (m.most≤64)=false:=decide_eq_false (by omega)
      have hmm:m.first≤m.most:=by omega
      clear hbad hneg
      go_wp2_with fail
      refine(EU 17 0 _).mono ?_
      rintro e w7 ⟨rfl,rfl⟩
      go_wp2_with fail
      exact⟨rfl,uT.out,.inr ⟨by rw [hX.out];decide,by rw [hX.out]⟩⟩
    have hmo:m.first≤m.most∧m.most≤64:=Decidable.not_not.1 hbad
    have hX:Hid (EE=0):=AA (by rw [HPG.out];unfold KR;exact D_ (decide_eq_true ⟨hfi.1,hfi.2,hmo.1,hmo.2⟩))
    have e0:decide (m.first≤m.most)=true:=decide_eq_true hmo.1
    have e1:decide (m.most≤64)=true:=decide_eq_true hmo.2
    have hmm:=hmo.1
    obtain⟨n2,hn2⟩:=Int.eq_ofNat_of_zero_le (show 0≤m.most by omega)
    have Hn2:Hid (m.most=(n2:Int)∧n2≤64):=AA ⟨hn2,by omega⟩
    clear hn2
    clear hbad
    go_wp2_with fail
    refine(Et 17 0 _).mono ?_
    rintro e w7 ⟨rfl,rfl⟩
    go_wp2_with fail
    have hcl:=RL n2 (by have:=Hn2.out.2;omega) HD6.out (by have:=HL4.out;have:=Ag n1 (by have:=Hn1.out.2;omega);rw [List.length_append];omega) SB
    rw [←Hn2.out.1] at hcl
    refine hcl.mono ?_
    clear hcl
    rintro e w7 ⟨rfl,dW,hd7⟩
    have xM:=AA (uT.out.trans (dW.mono HKK.out.1));have HD7:=AA (hd7.less HKK.out.1)
    clear dW hd7 uT MU HD6 hy3 hy4
    go_wp2_with fail
    go_end0
    refine⟨xM.out,.inl ⟨hX.out,rfl,w.heap.size+1,?_⟩⟩
    have hfin:l++Qs m=L3++Qr m++enc n1++enc n2:=by
     unfold Qs
     rw [Hn1.out.1,Hn2.out.1,←HL3e.out,←HL2.out]
     simp only [List.append_assoc,Int.toNat_natCast]
    rw [hfin]
    exact HD7.out
end Go.Proofs.YtebgikflpgcnlaaGreatDoor
