/- Part 10 of the proof: ModH Ldn -/
import Derived.Test.YtejbcledkhioeaaGreatDoorQ09
namespace Go.Proofs.YtejbcledkhioeaaGreatDoor
set_option linter.unusedVariables false
set_option linter.unusedSimpArgs false
set_option maxRecDepth 100000
set_option maxHeartbeats 4000000
open Go.RowKit Tryz
theorem QF (v:Value) (s:ByteArray) (most:Int) (h47:s.size≤140737488351232) (w:World) (h:Bq s most=0):
 Calls prog 114 #[v,.string s,.int .i64 most,.int .i64 0] w fun e w'=>Below w.heap.size w w'∧e= .returned (.tuple #[]):=
 (QX v s most h47 w).mono fun e w' ⟨h1,h2⟩=>⟨h1,h2.elim (fun h3=>h3.2) (fun h3=>absurd h h3.1)⟩
theorem QG (v:Value) (s:ByteArray) (most:Int) (h47:s.size≤140737488351232) (w:World) (h:Bq s most≠0):
 Calls prog 114 #[v,.string s,.int .i64 most,.int .i64 0] w fun e w'=>Below w.heap.size w w'∧e= .panicked (thrown (Bq s most) 0):=
 (QX v s most h47 w).mono fun e w' ⟨h1,h2⟩=>⟨h1,h2.elim (fun h3=>absurd h3.1 h) (fun h3=>h3.2)⟩
theorem Bw {b:Bool} {e:Int} (he:e≠0) (h:Ae b e=0):b=true:=by
 cases b with
 | true=>rfl
 | false=>exact absurd h he
theorem Oq {s:ByteArray} {most:Int} (h:Bq s most=0):(s.size:Int)≤most∧Ry s=true:=by
 unfold Bq at h
 have:=AQ h
 exact⟨of_decide_eq_true (Bw (by decide) this.1),Bw (by decide) this.2⟩
theorem QY {m:AP} {k:Nat} {x:DI} (h0:Ae (decide (m.types.length≤64)) 20=0) (he:Ad k (YO m.types)=0) (hx:m.types[k]?=some x) {v:Int} (hv:v≠0) (ht:YO m.types k=v):JG m=v:=by
 have hk:=(List.getElem?_eq_some_iff.1 hx).1
 have h1:KW m=v:=by
  unfold KW
  rw [AZ h0,IK he (by rw [ht];exact hv) _ hk,ht]
 unfold JG
 rw [DR (by rw [h1];exact hv),h1]
theorem VD {m:AP} (ht:KW m=0) {v:Int} (hv:v≠0) (hh:KX m=v):JG m=v:=by
 unfold JG
 rw [AZ ht,DR (by rw [hh];exact hv),hh]
theorem oC {m:AP} {k:Nat} {t:Int} (hx:m.hosts[k]?=some t):Ji m k=Ae (decide (0≤t∧t<m.types.length)) 30:=by
 unfold Ji;rw [hx]
theorem jS {m:AP} {k:Nat} {t:Int} (h0:Ae (decide (m.hosts.length≤32)) 20=0) (he:Ad k (Ji m)=0) (hx:m.hosts[k]?=some t) (hv:Ji m k≠0):KX m=Ji m k:=by
 unfold KX
 rw [AZ h0,IK he hv _ (List.getElem?_eq_some_iff.1 hx).1]
theorem QZ {m:AP} (ht:KW m=0) (hh:KX m=0) {v:Int} (hv:v≠0) (hg:Lh m=v):JG m=v:=by
 unfold JG
 rw [AZ ht,AZ hh,DR (by rw [hg];exact hv),hg]
theorem VE {m:AP} {k:Nat} {x:EJ} (hx:m.globs[k]?=some x):KI m k=II (Ae (Qg x.l.toNat) 15) (Ae (Je x.v x.l.toNat) 17):=by
 unfold KI;rw [hx]
theorem Wj {m:AP} {k:Nat} {x:EJ} (h0:Ae (decide (m.globs.length≤64)) 20=0) (he:Ad k (KI m)=0) (hx:m.globs[k]?=some x) {v:Int} (hv:v≠0) (hg:KI m k=v):Lh m=v:=by
 unfold Lh
 rw [AZ h0,IK he (by rw [hg];exact hv) _ (List.getElem?_eq_some_iff.1 hx).1,hg]
theorem bK {m:AP} (ht:KW m=0) (hh:KX m=0) (hg:Lh m=0):JG m=Oa m:=by
 unfold JG
 rw [AZ ht,AZ hh,AZ hg]
theorem Xf {l:List DI} {k:Nat} {x:DI} (hx:l[k]?=some x):YO l k=II (Bq x.p 8) (II (Bq x.r 8) (Ae (!(l.take k).any (fun y=>Lg y x)) 16)):=by
 unfold YO;rw [hx]
def Vx (b:Bool):Int:=if b then 1 else 0
theorem tY (b:Bool):bv (if b then 1 else 0)= .int .u8 (Vx b):=by cases b<;>rfl
theorem yU {x:EJ} (h:x.l.toNat=108) (hv:x.v<18446744073709551616):wrap64 (x.v:Int)=BK x:=by
 unfold BK
 rw [if_neg (by omega)]
 unfold wrap64
 split<;>omega
theorem yV {x:EJ} (h:x.l.toNat=119) (hv:x.v<4294967296):wrap64 (wrap32 (x.v:Int))=BK x:=by
 unfold BK wrap64 wrap32
 split
 ·omega
 ·split<;>omega
def NJ (A1 A2 A3 A4 A5 A6:Option Addr) (c1 c2 c3 c4 c5 c6:Nat) (m:AP):List Value:=
 [.slice A1 m.types.length c1,.slice A2 m.hosts.length c2,.slice A3 m.globs.length c3,.int .i64 m.first,.int .i64 m.most,.slice A4 m.fns.length c4,.slice A5 m.dat.length c5,.slice A6 m.AU.length c6]
def wG (first:Int):List Value:= [.slice none 0 0,.slice none 0 0,.slice none 0 0,.int .i64 first,.int .i64 0,.slice none 0 0,.slice none 0 0,.slice none 0 0]
theorem jT {w:World} {base g:Nat} {K:Nat→Prop} {all first:Int} {l:List UInt8} (cs:Array Value) (h:Wr w base g K (.pointer none) all l) (hbase:base≤w.heap.size) {W:World}
 (hW:(((w.setCell ⟨g,0,none⟩ (.pointer (some ⟨w.heap.size+1,0,none⟩))).alloc (.cells cs 29)).alloc (.cells (wG first).toArray 29))=W):
 Keep K w W∧AL W w.heap.size 29 cs.toList∧Hd W base g (w.heap.size+1) (fun k=>K k∨k=w.heap.size) first all [] l∧w.heap.size≤W.heap.size:=by
 obtain⟨A,c,h⟩:=h
 have hg:=h.blk.lt
 have hs0:(w.setCell ⟨g,0,none⟩ (.pointer (some ⟨w.heap.size+1,0,none⟩))).heap.size=w.heap.size:=by simp [World.setCell]
 have hs:((w.setCell ⟨g,0,none⟩ (.pointer (some ⟨w.heap.size+1,0,none⟩))).alloc (.cells cs 29)).heap.size=w.heap.size+1:=by simp [World.setCell]
 have hsn:=AL.new ((w.setCell ⟨g,0,none⟩ (.pointer (some ⟨w.heap.size+1,0,none⟩))).alloc (.cells cs 29)) 29 (wG first)
 have hbn:=AL.new (w.setCell ⟨g,0,none⟩ (.pointer (some ⟨w.heap.size+1,0,none⟩))) 29 cs.toList
 rw [hs,hW] at hsn
 rw [hs0] at hbn
 have hWs:W.heap.size=w.heap.size+2:=by rw [←hW];simp [World.setCell]
 refine⟨by rw [←hW];exact(((Keep.refl K w).setCell h.kg _).alloc _).alloc _,by rw [←hW];exact hbn.alloc _,⟨none,0,⟨hsn,World.ownsRow_nil _ _ _ _,by simp⟩,⟨A,c,?_,?_,h.low,?_,?_,?_⟩,by omega,?_,by simp [Value.ownBlock]⟩,by omega⟩
 ·rw [←hW];exact((h.blk.set 0 _).alloc _).alloc _
 ·rw [←hW];exact((h.own.nW (fun e=>(h.apart g e).2 rfl) _).alloc _).alloc _
 ·rintro((e | e) | e | e)
  ·exact h.kg e
  ·omega
  ·omega
  ·cases e
 ·intro k hk
  refine⟨?_,(h.apart k hk).2⟩
  have:=(h.own.lt k hk).2
  rintro((e | e) | e | e)
  ·exact(h.apart k hk).1 e
  ·omega
  ·omega
  ·cases e
 ·intro k hk
  rw [hWs]
  rcases hk with(e | e) | e | e
  ·have:=h.lt k e;omega
  ·omega
  ·omega
  ·cases e
 ·rintro(e | e)
  ·have:=h.lt _ e;omega
  ·omega
theorem tZ (cs:List Value) (hi base g:Nat) (K:Nat→Prop) (m:AP) (l:List UInt8) (w:World) (h:JQ.R w 0 hi cs m) (hhi:hi≤w.heap.size) (hK: ∀k,k<hi→K k) (hw:Wr w base g K (.pointer none) 0 l) (hbase:base≤w.heap.size) (hle:Ap m≤2147483647) (Px:Kc m) (hl:l.length≤1000):
 Calls prog 66 #[.pointer (some ⟨g,0,none⟩),.agg cs.toArray] w fun e w'=>Keep K w w'∧Oo (JG m) e (∃gs,Hd w' base g gs K m.first 0 m.types (l++Li m)):=by
 generalize Wi:JG m=EE
 have HE:=AA Wi
 clear Wi
 obtain⟨v1,v2,v3,v4,v5,v6,rfl,h1,h2,h3,hf63,hm63,h4,h5,h6⟩:=EK.1 h
 obtain⟨A1,c1,rfl⟩:=AX h1
 obtain⟨A2,c2,rfl⟩:=AX h2
 obtain⟨A3,c3,rfl⟩:=AX h3
 obtain⟨A4,c4,rfl⟩:=AX h4
 obtain⟨A5,c5,rfl⟩:=AX h5
 obtain⟨A6,c6,rfl⟩:=AX h6
 have H1:=AA h1;have H2:=AA h2;have H3:=AA h3;have Xg:=AA hK;have HW0:=AA hw;have Qv:=AA hle
 clear h h1 h2 h3 h4 h5 h6 hK hle
 have hc0:w.cell? ⟨g,0,none⟩=some (.pointer none):=by obtain⟨A,c,hw⟩:=hw;exact hw.blk.cell 0
 have hg:g<w.heap.size:=by obtain⟨A,c,hw⟩:=hw;exact hw.blk.lt
 have hf0:w.frozen? ⟨g,0,none⟩=false:=by obtain⟨A,c,hw⟩:=hw;exact hw.blk.frozen 0
 clear hw
 go_enter func66,ntmps66
 go_wp2_with fail
 generalize hw1:((w.setCell _ _).alloc _).alloc _=w1
 obtain⟨i1,i2,i3,i4⟩:=jT _ HW0.out hbase hw1
 have fC:=AA i1;have HB1:=AA i2;have HD1:=AA i3
 have hb1:base≤w1.heap.size:=Nat.le_trans hbase i4
 clear hw1 i1 i2 i3 i4
 generalize hK1:(fun k=>K k∨k=w.heap.size)=K1 at*
 have HKK:Hid ((∀k,K k→K1 k)∧K1 w.heap.size):=AA (by rw [←hK1];exact⟨fun k h=> .inl h,.inr rfl⟩)
 clear hK1
 have hlt:m.types.length≤2147483647:=by have:=Qv.out;unfold Ap at this;omega
 refine(NI m.types.length 64 (by omega) HD1.out (by omega) hb1).mono ?_
 rintro e w2 ⟨hk,hcase⟩
 have UE:Hid (Keep K w w2):=AA (fC.out.trans (hk.mono HKK.out.1))
 have HB2:=AA (HB1.out.keep hk HKK.out.2)
 rcases hcase with⟨h0,rfl,hd⟩ | ⟨h0,rfl⟩
 case inr=>
  have H0:=AA h0;clear h0 hk
  go_wp2_with fail
  have hX:=HE.out
  unfold JG KW at hX
  rw [DR (by rw [DR H0.out];exact H0.out),DR H0.out] at hX
  exact⟨rfl,UE.out,.inr ⟨by rw [←hX];exact H0.out,by rw [←hX]⟩⟩
 have H0:=AA h0;have HD2:=AA hd
 have hb2:base≤w2.heap.size:=Nat.le_trans hb1 hk.size
 clear h0 hd hk fC HB1 HD1
 have hx0:=HB2.out.cell 0
 go_upto_block 0 with fail
 go_cut [] (fun wx=>Keep K w wx∧AL wx w.heap.size 29 (NJ A1 A2 A3 A4 A5 A6 c1 c2 c3 c4 c5 c6 m)∧Hd wx base g (w.heap.size+1) K1 m.first 0 m.types (l++Ob m)∧Ad m.types.length (YO m.types)=0)
 case first=>
  clear hx0
  go_wp2_with fail
  go_loopw [28] (fun i wr=> ∃k:Nat,k≤m.types.length∧i= .int .i64 k∧Keep K w wr∧AL wr w.heap.size 29 (NJ A1 A2 A3 A4 A5 A6 c1 c2 c3 c4 c5 c6 m)∧Hd wr base g (w.heap.size+1) K1 m.first 0 (m.types.take k) (l++(enc m.types.length++(m.types.take k).flatMap R3))∧Ad k (YO m.types)=0)
   (fun i _=>m.types.length-(intOf i).toNat)
  case atStart=>exact⟨0,Nat.zero_le _,rfl,UE.out,HB2.out,by simpa using HD2.out,rfl⟩
  case round=>
   obtain⟨k,hk,rfl,hkr,hbr,hdr,her⟩:=hrel
   have oD:=AA hkr;have Py:=AA hbr;have wH:=AA hdr;have PW:=AA her
   have SN:base≤wr.heap.size:=Nat.le_trans hbase hkr.size
   clear hkr hbr hdr her
   by_cases hltk:k<m.types.length
   ·obtain⟨x,hx⟩: ∃x,m.types[k]?=some x:=⟨_,List.getElem?_eq_getElem hltk⟩
    have hr1:=Rd.GX H1.out oD.out hhi (fun j _ h=>Xg.out j h)
    obtain⟨b,o,rfl,_,Nw,hc0',hc1',hop,hor⟩:=KF hr1 hx
    have Hx:=AA hx
    have hk0:(0:Int)≤k:=by omega
    clear hr1 hx
    go_wp2_with fail
    generalize hw3:wr.alloc _=w3
    have hb3:Below wr.heap.size wr w3:=by rw [←hw3];exact(Below.refl _ _).alloc (Nat.le_refl _) _
    have SQ:=AA (oD.out.all hb3);have ZT:=AA (Py.out.below hb3 Py.out.lt);have HD3:=AA (wH.out.box hb3 (by rw [←hw3];simp))
    generalize hK2:(fun j=>K1 j∨j=wr.heap.size)=K2 at HD3
    have E8:Hid ((∀j,K1 j→K2 j)∧K2 wr.heap.size):=AA (by rw [←hK2];exact⟨fun j h=> .inl h,.inr rfl⟩)
    have VF:base≤w3.heap.size:=Nat.le_trans SN hb3.size
    clear hK2
    have Rv:Hid (AL w3 wr.heap.size 51 [.string x.p,.string x.r]):=by rw [←hw3];exact AA (AL.new wr 51 [.string x.p,.string x.r])
    have hn0:=Rv.out.q 0 rfl
    clear hw3 hb3 hc0' hc1'
    by_cases hp:Bq x.p 8=0
    case neg=>
     have hX:Hid (EE=Bq x.p 8):=AA (by rw [←HE.out];exact QY H0.out PW.out Hx.out hp (by rw [Xf Hx.out,DR hp]))
     have Hp:=AA hp;clear hp
     go_region_dies
     all_goals
      refine(QG _ x.p 8 hop _ Hp.out).mono ?_
      rintro e w4 ⟨hb4,rfl⟩
      exact⟨rfl,SQ.out.all (Am hb4),.inr ⟨by rw [hX.out];exact Hp.out,by rw [hX.out]⟩⟩
    have Hp:=AA hp;clear hp
    go_region_held3 (fun w'=>w'.cell? ⟨wr.heap.size,0,none⟩=some (.string x.p)) (first | exact hn0 | assumption)
     (first | (go_at_call 114;refine(QF _ x.p 8 hop _ Hp.out).mono ?_;rintro e w4 ⟨hb4,rfl⟩;have hb4:=Am hb4;have J9:=AA hb4;have hn4:=(Rv.out.below hb4 Rv.out.lt).q 0 rfl;clear hb4))
    have jU:=AA (SQ.out.all J9.out);have HBy:=AA (ZT.out.below J9.out ZT.out.lt);have HD4:=AA (HD3.out.Ej J9.out);have Ta:=AA (Rv.out.below J9.out Rv.out.lt)
    have SS:base≤w4.heap.size:=Nat.le_trans VF J9.out.size
    have hsz:x.p.size≤8∧x.r.size≤2147483647:=⟨by have:=(Oq Hp.out).1;omega,by have:=EH (fun t:DI=>t.p.size+t.r.size) m.types x (List.mem_of_getElem? Hx.out);have:=Qv.out;unfold Ap at this;omega⟩
    have hLk:=R_ Px Qv.out m.types.length k hlt
    have hLE:=Qv.out
    have Vy:Hid ((l++(enc m.types.length++(m.types.take k).flatMap R3)).length≤90194315000):=AA (by rw [List.length_append];omega)
    have HLp:Hid ((EX x.p).length≤20):=AA (by have:=Ja (s:=x.p) (by omega);omega)
    clear J9 SQ ZT HD3 Rv hLk hLE SN VF hn0
    go_wp2_with fail
    refine(Q6 x.p (by omega) HD4.out (by have:=Vy.out;omega) SS).mono ?_
    rintro e w5 ⟨rfl,hk5,hd5⟩
    have Qf:=AA (jU.out.trans (hk5.mono fun j h=>E8.out.1 j (HKK.out.1 j h)));have HBz:=AA (HBy.out.keep hk5 (E8.out.1 _ HKK.out.2));have HD5:=AA hd5;have VG:=AA (Ta.out.keep hk5 E8.out.2)
    have VH:base≤w5.heap.size:=Nat.le_trans SS hk5.size
    have hm1:=VG.out.q 1 rfl
    clear hk5 hd5 jU HBy HD4 Ta SS hn4
    go_wp2_with fail
    by_cases hp:Bq x.r 8=0
    case neg=>
     have hX:Hid (EE=Bq x.r 8):=AA (by rw [←HE.out];exact QY H0.out PW.out Hx.out hp (by rw [Xf Hx.out,AZ Hp.out,DR hp]))
     have Hp:=AA hp;clear hp
     go_region_dies
     all_goals
      refine(QG _ x.r 8 hor _ Hp.out).mono ?_
      rintro e w6 ⟨hb6,rfl⟩
      exact⟨rfl,Qf.out.all (Am hb6),.inr ⟨by rw [hX.out];exact Hp.out,by rw [hX.out]⟩⟩
    have Hr:=AA hp;clear hp
    go_region_held3 (fun w'=>w'.cell? ⟨wr.heap.size,1,none⟩=some (.string x.r)) (first | exact hm1 | assumption)
     (first | (go_at_call 114;refine(QF _ x.r 8 hor _ Hr.out).mono ?_;rintro e w6 ⟨hb6,rfl⟩;have hb6:=Am hb6;have Lr:=AA hb6;have MC:=(VG.out.below hb6 VG.out.lt).q 1 rfl;clear hb6))
    have tq:=AA (Qf.out.all Lr.out);have HBu:=AA (HBz.out.below Lr.out HBz.out.lt);have HD6:=AA (HD5.out.Ej Lr.out);have jV:=AA (VG.out.below Lr.out VG.out.lt)
    have Qa:base≤w6.heap.size:=Nat.le_trans VH Lr.out.size
    have HLr:Hid ((EX x.r).length≤2147483700):=AA (by have:=Ja (s:=x.r) (by omega);omega)
    clear Lr Qf HBz HD5 VG VH hm1
    go_wp2_with fail
    refine(Q6 x.r (by omega) HD6.out (by have:=Vy.out;have:=HLp.out;rw [List.length_append];omega) Qa).mono ?_
    rintro e w7 ⟨rfl,QH,hd7⟩
    have wI:=AA (tq.out.trans (QH.mono fun j h=>E8.out.1 j (HKK.out.1 j h)));have HBv:=AA (HBu.out.keep QH (E8.out.1 _ HKK.out.2));have yX:=AA (jV.out.keep QH E8.out.2)
    have HD7:=AA (hd7.less E8.out.1)
    have oF:base≤w7.heap.size:=Nat.le_trans Qa QH.size
    clear QH hd7 tq HBu HD6 jV Qa MC E8
    have hq0:=yX.out.q 0 rfl
    have hq1:=yX.out.q 1 rfl
    have yY:(m.types.take k).length=k:=by rw [List.length_take];omega
    generalize hts:m.types.take k=ts at HD7 yY
    have Hts:=AA hts
    have hTk:=AA yY
    clear hts yY
    obtain⟨T,d,s1,s2,s3,s4,s5⟩:=HD7.out
    have hs0:=s1.blk.q 0 rfl
    have hsl:=s1.blk.lt
    have hsf:=s1.blk.frozen 0
    have qz:=AA s1;have oG:=AA s2;have tu:=AA s5;have wJ:=AA s4
    clear s1 s2 s4 s5 HD7
    obtain⟨i0,z0,hi0,hz,hs',hby,hzz⟩:=info_parts' aF
    go_wp2_with (at_builtin;refine MR _ rfl (.tmp 53) (.tmp 55) 22 rfl base 51 i0 z0 2 32 underlying22 hi0 hz hs' hby hzz (by omega) (.slice T ts.length d) ts.length (ts.flatMap Qj) rfl (qz.out.own.alloc _) (w7.heap.size+1) (some ⟨w7.heap.size,0,none⟩) 1 1 (Qj x) rfl rfl (by have:=(AL.new w7 51 (Qj x)).row 0 2;exact this) (by intro u hu;unfold Qj at hu;simp at hu;rcases hu with rfl | rfl<;>rfl) (by rw [hTk.out];unfold maxLen;omega) (by rw [hTk.out];omega) (by simp;omega) ?_;intro A8 c8 w8 g2 g3 g4;have EM:=(g3.block (w.heap.size+1) (by simp;omega) (fun e=>(tu.out _ e.symm).2 rfl)).trans (qz.out.blk.alloc (.cells (Qj x).toArray 51));have hc8:=AL.cell EM 0;have hf8:=AL.frozen EM 0;have G2:=AA g2;have G3:=AA g3;have G4:=AA g4;clear g2 g3 g4 EM)
    have oH:Below w7.heap.size w7 (w7.alloc (.cells (Qj x).toArray 51)):=(Below.refl _ _).alloc (Nat.le_refl _) _
    have HP:=AA (Hd.type (K:=K1) (qz.out.keep (K:=K1) (Keep.Aq oH)) (oG.out.Ej oH) s3 wJ.out tu.out ⟨hop,hor⟩ G3.out G2.out G4.out)
    have HKA:Hid (Keep K1 w7 (w7.alloc (.cells (Qj x).toArray 51))):=AA (Keep.Aq oH)
    have HK8:Hid (Keep K w (w8.setCell ⟨w.heap.size+1,0,none⟩ (.slice A8 (ts.length+1) c8))):=AA (wI.out.trans ((HKA.out.trans HP.out.1).mono HKK.out.1))
    have KQ:Hid (AL (w8.setCell ⟨w.heap.size+1,0,none⟩ (.slice A8 (ts.length+1) c8)) w.heap.size 29 (NJ (some ⟨b,o,none⟩) A2 A3 A4 A5 A6 c1 c2 c3 c4 c5 c6 m)):=AA (HBv.out.keep (HKA.out.trans HP.out.1) HKK.out.2)
    have HD8:=AA HP.out.2
    clear oH HP HKA wI HBv yX qz oG wJ tu s3 hs0 hsl hsf hi0 hz hs' hby hzz hc8 hf8 G2 G3 G4 hq0 hq1
    generalize w8.setCell _ _=w9 at*
    have htx:Hid (ts++ [x]=m.types.take (k+1)):=AA (by rw [List.take_add_one,Hx.out,Hts.out];rfl)
    refine(n_ k x HD8.out (by rw [List.length_append,hTk.out];rfl) (by rw [List.getElem?_append_right (by rw [hTk.out];exact Nat.le_refl _),hTk.out,Nat.sub_self];rfl) (by have:=(Bw (by decide) H0.out);have:=of_decide_eq_true this;omega)).mono ?_
    rintro e w10 ⟨hbT,hT⟩
    have hany:(ts++ [x]).take k=m.types.take k:=by rw [List.take_append_of_le_length (by rw [hTk.out];exact Nat.le_refl _),←Hts.out,List.take_take,Nat.min_self]
    rw [hany] at hT
    have hty:YO m.types k=Ae (!(m.types.take k).any (fun y=>Lg y x)) 16:=by rw [Xf Hx.out,AZ Hp.out,AZ Hr.out]
    rw [←hty] at hT
    have HTY:=AA hT
    have JF:=AA (HK8.out.all hbT);have HBT:=AA (KQ.out.below hbT KQ.out.lt);have HDT:=AA (HD8.out.Ej hbT)
    clear hT hbT hany hty HK8 KQ HD8
    rcases HTY.out with⟨h0,rfl⟩ | ⟨h0,rfl⟩
    ·have HN:Hid (Ad (k+1) (YO m.types)=0):=AA (IJ PW.out h0)
     have HF:Hid (l++(enc m.types.length++(m.types.take k).flatMap R3)++EX x.p++EX x.r=l++(enc m.types.length++(m.types.take (k+1)).flatMap R3)):=AA (by rw [Ev Hx.out];unfold R3;simp only [List.append_assoc])
     clear h0
     go_wp2_with fail
     refine⟨⟨k+1,by omega,by go_num,JF.out,HBT.out,?_,HN.out⟩,by simp [intOf];omega⟩
     rw [←HF.out,←htx.out,Hts.out]
     exact HDT.out
    ·have hX:Hid (EE=YO m.types k):=AA (by rw [←HE.out];exact QY H0.out PW.out Hx.out h0 rfl)
     have jW:=AA h0;clear h0
     go_wp2_with fail
     exact⟨rfl,JF.out,.inr ⟨by rw [hX.out];exact jW.out,by rw [hX.out]⟩⟩
   ·obtain rfl:k=m.types.length:=by omega
    go_wp2_with fail
    go_meet
    refine⟨oD.out,Py.out,?_,PW.out⟩
    have:=wH.out
    rw [List.take_length] at this
    exact this
 case rest=>
  obtain⟨hkc,hbc,hdc,bL⟩:=hcut
  have oI:=AA hkc;have Wm:=AA hbc;have wK:=AA hdc
  have HT:Hid (KW m=0):=AA (by unfold KW;rw [AZ H0.out];exact bL)
  have Lu:base≤wc.heap.size:=Nat.le_trans hbase hkc.size
  have hx1:=hbc.q 1 rfl
  have hlh:m.hosts.length≤2147483647:=by have:=Qv.out;unfold Ap at this;omega
  have yZ:Hid ((l++Ob m).length≤90194315000):=AA (by have h1:=R_ Px Qv.out m.types.length m.types.length hlt;rw [List.take_length] at h1;have:=Qv.out;rw [List.length_append];unfold Ob;omega)
  clear hkc hbc hdc bL UE HB2 HD2 H0 hb2 hb1 hx0 H1
  go_wp2_with fail
  refine(NI m.hosts.length 32 (by omega) wK.out (by have:=yZ.out;omega) Lu).mono ?_
  rintro e w2 ⟨hk,hcase⟩
  have UE:Hid (Keep K w w2):=AA (oI.out.trans (hk.mono HKK.out.1))
  have HB2:=AA (Wm.out.keep hk HKK.out.2)
  rcases hcase with⟨h0,rfl,hd⟩ | ⟨h0,rfl⟩
  case inr=>
   have H0:=AA h0;clear h0 hk
   go_wp2_with fail
   have hX:EE=Ae (decide (m.hosts.length≤32)) 20:=by rw [←HE.out];exact VD HT.out H0.out (by unfold KX;rw [DR H0.out])
   exact⟨rfl,UE.out,.inr ⟨by rw [hX];exact H0.out,by rw [hX]⟩⟩
  have H0:=AA h0;have HD2:=AA hd
  have hb2:base≤w2.heap.size:=Nat.le_trans Lu hk.size
  clear h0 hd hk oI Wm wK hx1
  have hx0:=HB2.out.q 1 rfl
  generalize hL2:l++Ob m=L2 at*
  have HL2:=AA hL2
  clear hL2
  go_upto_block 2 with fail
  go_cut [] (fun wx=>Keep K w wx∧AL wx w.heap.size 29 (NJ A1 A2 A3 A4 A5 A6 c1 c2 c3 c4 c5 c6 m)∧Hd wx base g (w.heap.size+1) K1 m.first 0 m.types (L2++Oc m)∧Ad m.hosts.length (Ji m)=0)
  case first=>
   clear hx0
   go_wp2_with fail
   go_loopw [71] (fun i wr=> ∃k:Nat,k≤m.hosts.length∧i= .int .i64 k∧Keep K w wr∧AL wr w.heap.size 29 (NJ A1 A2 A3 A4 A5 A6 c1 c2 c3 c4 c5 c6 m)∧Hd wr base g (w.heap.size+1) K1 m.first 0 m.types (L2++(enc m.hosts.length++(m.hosts.take k).flatMap (fun t=>enc t.toNat)))∧Ad k (Ji m)=0)
    (fun i _=>m.hosts.length-(intOf i).toNat)
   case atStart=>exact⟨0,Nat.zero_le _,rfl,UE.out,HB2.out,by simpa using HD2.out,rfl⟩
   case round=>
    obtain⟨k,hk,rfl,hkr,hbr,hdr,her⟩:=hrel
    have oD:=AA hkr;have Py:=AA hbr;have wH:=AA hdr;have PW:=AA her
    have SN:base≤wr.heap.size:=Nat.le_trans hbase hkr.size
    have hy0:=hbr.q 0 rfl
    clear hkr hbr hdr her
    by_cases hltk:k<m.hosts.length
    ·obtain⟨x,hx⟩: ∃x,m.hosts[k]?=some x:=⟨_,List.getElem?_eq_getElem hltk⟩
     have hr1:=Rd.GX H2.out oD.out hhi (fun j _ h=>Xg.out j h)
     obtain⟨b,o,rfl,_,Nw,cs,hcs,hrd⟩:=OE hr1 hx
     obtain⟨rfl,hx63⟩:=hrd
     have hc0':wr.cell? ⟨b,o+k,none⟩=some (.int .i64 x):=by
      have:=hcs 0 _ rfl
      rwa [show Rd.i64.z=1 from rfl,Nat.mul_one,Nat.add_zero] at this
     have Hx:=AA hx
     have hk0:(0:Int)≤k:=by omega
     have Vy:Hid ((L2++(enc m.hosts.length++(m.hosts.take k).flatMap (fun t=>enc t.toNat))).length≤180388630000):=AA (by
      have h1:=SA Px Qv.out m.hosts.length k hlh
      have:=Qv.out
      have h2:=yZ.out
      rw [List.length_append];omega)
     clear hr1 hx hcs
     go_wp2_with fail
     refine(VB x m.types.length hx63.2 wH.out (by have:=Vy.out;omega) SN).mono ?_
     rintro e w3 ⟨hk3,hcase⟩
     have SQ:=AA (oD.out.trans (hk3.mono HKK.out.1));have HB3:=AA (Py.out.keep hk3 HKK.out.2)
     rw [←oC Hx.out] at hcase
     rcases hcase with⟨h0,rfl,hd⟩ | ⟨h0,rfl⟩
     ·have HN:Hid (Ad (k+1) (Ji m)=0):=AA (IJ PW.out h0)
      have HD3:Hid (Hd w3 base g (w.heap.size+1) K1 m.first 0 m.types (L2++(enc m.hosts.length++(m.hosts.take (k+1)).flatMap (fun t=>enc t.toNat)))):=AA (by
       rw [Ev Hx.out]
       simpa only [List.append_assoc] using hd)
      clear h0 hk3 hd
      go_wp2_with fail
      exact⟨⟨k+1,by omega,by go_num,SQ.out,HB3.out,HD3.out,HN.out⟩,by simp [intOf];omega⟩
     ·have hX:Hid (EE=Ji m k):=AA (by rw [←HE.out];exact VD HT.out h0 (jS H0.out PW.out Hx.out h0))
      have jW:=AA h0;clear h0 hk3
      go_wp2_with fail
      exact⟨rfl,SQ.out,.inr ⟨by rw [hX.out];exact jW.out,by rw [hX.out]⟩⟩
    ·obtain rfl:k=m.hosts.length:=by omega
     go_wp2_with fail
     go_meet
     refine⟨oD.out,Py.out,?_,PW.out⟩
     have:=wH.out
     rw [List.take_length] at this
     exact this
  case rest=>
   obtain⟨hkc,hbc,hdc,bL⟩:=hcut
   have HHE:Hid (KX m=0):=AA (by unfold KX;rw [AZ H0.out];exact bL)
   have oI:=AA hkc;have Wm:=AA hbc;have wK:=AA hdc
   have Lu:base≤wc.heap.size:=Nat.le_trans hbase hkc.size
   have hx1:=hbc.q 2 rfl
   have hlg:m.globs.length≤2147483647:=by have:=Qv.out;unfold Ap at this;omega
   have HL3:Hid ((L2++Oc m).length≤180388630000):=AA (by have h1:=SA Px Qv.out m.hosts.length m.hosts.length hlh;rw [List.take_length] at h1;have:=Qv.out;have:=yZ.out;rw [List.length_append];unfold Oc;omega)
   clear hkc hbc hdc bL UE HB2 HD2 H0 hb2 Lu hx0 H2
   have Lu:base≤wc.heap.size:=Nat.le_trans hbase oI.out.size
   go_wp2_with fail
   refine(NI m.globs.length 64 (by omega) wK.out (by have:=HL3.out;omega) Lu).mono ?_
   rintro e w2 ⟨hk,hcase⟩
   have UE:Hid (Keep K w w2):=AA (oI.out.trans (hk.mono HKK.out.1))
   have HB2:=AA (Wm.out.keep hk HKK.out.2)
   rcases hcase with⟨h0,rfl,hd⟩ | ⟨h0,rfl⟩
   case inr=>
    have H0:=AA h0;clear h0 hk
    go_wp2_with fail
    have hX:EE=Ae (decide (m.globs.length≤64)) 20:=by rw [←HE.out];exact QZ HT.out HHE.out H0.out (by unfold Lh;rw [DR H0.out])
    exact⟨rfl,UE.out,.inr ⟨by rw [hX];exact H0.out,by rw [hX]⟩⟩
   have H0:=AA h0;have HD2:=AA hd
   have hb2:base≤w2.heap.size:=Nat.le_trans Lu hk.size
   clear h0 hd hk oI Wm wK hx1 Lu
   have hx0:=HB2.out.q 2 rfl
   generalize hL3:L2++Oc m=L3 at*
   have HL3e:=AA hL3
   clear hL3
   go_upto_block 4 with fail
   go_cut [] (fun wx=>Keep K w wx∧AL wx w.heap.size 29 (NJ A1 A2 A3 A4 A5 A6 c1 c2 c3 c4 c5 c6 m)∧Hd wx base g (w.heap.size+1) K1 m.first 0 m.types (L3++Od m)∧Ad m.globs.length (KI m)=0)
   case first=>
    clear hx0
    go_wp2_with fail
    go_loopw [90] (fun i wr=> ∃k:Nat,k≤m.globs.length∧i= .int .i64 k∧Keep K w wr∧AL wr w.heap.size 29 (NJ A1 A2 A3 A4 A5 A6 c1 c2 c3 c4 c5 c6 m)∧Hd wr base g (w.heap.size+1) K1 m.first 0 m.types (L3++(enc m.globs.length++(m.globs.take k).flatMap Jj))∧Ad k (KI m)=0)
     (fun i _=>m.globs.length-(intOf i).toNat)
    case atStart=>exact⟨0,Nat.zero_le _,rfl,UE.out,HB2.out,by simpa using HD2.out,rfl⟩
    case round=>
     obtain⟨k,hk,rfl,hkr,hbr,hdr,her⟩:=hrel
     have oD:=AA hkr;have Py:=AA hbr;have wH:=AA hdr;have PW:=AA her
     have SN:base≤wr.heap.size:=Nat.le_trans hbase hkr.size
     clear hkr hbr hdr her
     by_cases hltk:k<m.globs.length
     ·obtain⟨x,hx⟩: ∃x,m.globs[k]?=some x:=⟨_,List.getElem?_eq_getElem hltk⟩
      have hr1:=Rd.GX H3.out oD.out hhi (fun j _ h=>Xg.out j h)
      obtain⟨b,o,rfl,_,Nw,hc0',hc1',hc2',hv64⟩:=OX hr1 hx
      have Hx:=AA hx
      have hk0:(0:Int)≤k:=by omega
      have Vy:Hid ((L3++(enc m.globs.length++(m.globs.take k).flatMap Jj)).length≤270582945000):=AA (by
       have h1:=SB Px Qv.out m.globs.length k hlg (fun j y hj hy=>(PN PW.out j y hj hy).2)
       have:=Qv.out
       have h2:=HL3.out
       rw [List.length_append];omega)
      clear hr1 hx
      go_wp2_with fail
      generalize hw3:wr.alloc _=w3
      have hb3:Below wr.heap.size wr w3:=by rw [←hw3];exact(Below.refl _ _).alloc (Nat.le_refl _) _
      have SQ:=AA (oD.out.all hb3);have HB3:=AA (Py.out.below hb3 Py.out.lt);have HD3:=AA (wH.out.Ej hb3)
      have Rv:Hid (AL w3 wr.heap.size 82 [.int .u8 (x.l.toNat:Int),.bool x.m,.int .u64 (x.v:Int)]):=by rw [←hw3];exact AA (AL.new wr 82 [.int .u8 (x.l.toNat:Int),.bool x.m,.int .u64 (x.v:Int)])
      have VF:base≤w3.heap.size:=Nat.le_trans SN hb3.size
      have hn0:=Rv.out.q 0 rfl
      have hn1:=Rv.out.q 1 rfl
      have hn2:=Rv.out.q 2 rfl
      clear hw3 hb3 hc0' hc1' hc2'
      refine(Nj x.l.toNat (UInt8.toNat_lt x.l) w3).mono ?_
      rintro e w4 ⟨rfl,rfl⟩
      go_wp2_with fail
      refine(DT _ 15 0 (by decide) _).mono ?_
      rintro e w4 ⟨rfl,⟨h0,rfl⟩ | ⟨h0,rfl⟩⟩
      case inr=>
       have hX:Hid (EE=Ae (Qg x.l.toNat) 15):=AA (by rw [←HE.out];exact QZ HT.out HHE.out h0 (Wj H0.out PW.out Hx.out h0 (by rw [VE Hx.out,DR h0])))
       have jW:=AA h0;clear h0
       go_wp2_with fail
       exact⟨rfl,SQ.out,.inr ⟨by rw [hX.out];exact jW.out,by rw [hX.out]⟩⟩
      have H15:=AA h0;clear h0
      go_wp2_with fail
      refine(nZ x w3).mono ?_
      rintro e w4 ⟨hb4,hcase⟩
      have jU:=AA (SQ.out.all hb4);have J9:=AA (HB3.out.below hb4 HB3.out.lt);have HD4:=AA (HD3.out.Ej hb4);have Ta:=AA (Rv.out.below hb4 Rv.out.lt)
      have SS:base≤w4.heap.size:=Nat.le_trans VF hb4.size
      clear hb4 hn0 hn1 hn2 SQ HB3 HD3 Rv VF
      rcases hcase with⟨h0,rfl⟩ | ⟨h0,rfl⟩
      case inr=>
       have hX:Hid (EE=Ae (Je x.v x.l.toNat) 17):=AA (by rw [←HE.out];exact QZ HT.out HHE.out h0 (Wj H0.out PW.out Hx.out h0 (by rw [VE Hx.out,AZ H15.out])))
       have jW:=AA h0;clear h0
       go_wp2_with fail
       exact⟨rfl,jU.out,.inr ⟨by rw [hX.out];exact jW.out,by rw [hX.out]⟩⟩
      have H17:=AA h0;clear h0
      have hn0:=Ta.out.q 0 rfl
      have hn1:=Ta.out.q 1 rfl
      have hn2:=Ta.out.q 2 rfl
      go_wp2_with fail
      go_quiet (fail)
      have ABG:Hid (x.v<18446744073709551616):=AA hv64
      have yc:Hid (Qg x.l.toNat=true∧Je x.v x.l.toNat=true):=AA ⟨Bw (by decide) H15.out,Bw (by decide) H17.out⟩
      generalize Mr:w4.drewN nq=w5
      have hb5:Below w4.heap.size w4 w5:=by rw [←Mr];exact below_drewN (Below.refl _ _) nq
      have Qf:=AA (jU.out.all hb5);have JX:=AA (J9.out.below hb5 J9.out.lt);have HD5:=AA (HD4.out.Ej hb5);have VG:=AA (Ta.out.below hb5 Ta.out.lt)
      have VH:base≤w5.heap.size:=Nat.le_trans SS hb5.size
      have hy0:=VG.out.q 0 rfl
      have hy1:=VG.out.q 1 rfl
      have hy2:=VG.out.q 2 rfl
      clear Mr hb5 hn0 hn1 hn2 jU J9 HD4 Ta SS hv64
      go_upto_if 104 with fail
      go_cut [11] (fun a wx=>a= .int .u8 (Vx x.m)∧wx=w5)
      case first=>
       cases hm:x.m with
       | true=>rw [hm] at hy1;go_wp2_with fail;go_meet;exact⟨by rw [hm];rfl,rfl⟩
       | false=>rw [hm] at hy1;go_wp2_with fail;go_meet;exact⟨by rw [hm];rfl,rfl⟩
      case rest=>
       obtain⟨rfl,rfl⟩:=hcut
       go_upto_if 107 with fail
       go_cut [12] (fun a wx=>a= .int .i64 (BK x)∧wx=wc)
       case first=>
        rcases(show x.l.toNat=119∨x.l.toNat=108 from by have:=yc.out.1;unfold Qg at this;simp at this;omega)with hl | hl
        ·have hs:=AA (yV hl (by have:=yc.out.2;unfold Je at this;rw [hl] at this;simpa using this))
         have hb:((x.l.toNat:Int)==119)=true:=by rw [hl];rfl
         clear hl
         go_wp2_with fail
         go_meet
         exact⟨congrArg _ hs.out,rfl⟩
        ·have hs:=AA (yU hl ABG.out)
         have hb:((x.l.toNat:Int)==119)=false:=by rw [hl];rfl
         clear hl
         go_wp2_with fail
         go_meet
         exact⟨congrArg _ hs.out,rfl⟩
       case rest=>
        obtain⟨rfl,rfl⟩:=hcut
        go_upto_region 31 with fail
        go_cut [] (fun wx=>Keep K w wx∧AL wx w.heap.size 29 (NJ A1 A2 (some ⟨b,o,none⟩) A4 A5 A6 c1 c2 c3 c4 c5 c6 m)∧Hd wx base g (w.heap.size+1) K1 m.first 0 m.types ((L3++(enc m.globs.length++(m.globs.take k).flatMap Jj))++ [x.l,if x.m then 1 else 0]))
        case first=>
         have HT0:=HD5.out
         obtain⟨T,d,s1,⟨A,c,s2⟩,s3,s4,s5⟩:=HT0
         have hg0:=s2.blk.q 2 rfl
         have hgl:g<wc.heap.size:=s2.blk.lt
         have hgf:=s2.blk.frozen 2
         have hwl:wr.heap.size<wc.heap.size:=VG.out.lt
         have qz:=AA s1;have oG:=AA s2;have wJ:=AA s4;have tu:=AA s5
         clear s1 s2 s4 s5 hy1 hy2
         generalize Z6:L3++(enc m.globs.length++(m.globs.take k).flatMap Jj)=LL at*
         have wL:=AA Z6
         clear Z6
         obtain⟨i0,hi0,hz,hs',hby⟩:=info_parts Jl
         have oH:Below wc.heap.size wc (wc.drew.alloc (.cells #[.int .u8 (x.l.toNat:Int),.int .u8 (Vx x.m)] 5)):=Below.alloc (show Below wc.heap.size wc wc.drew from⟨rfl,rfl,rfl,Nat.le_refl _,fun _ _=>rfl⟩) (Nat.le_refl _) _
         have bM:=AA (oG.out.Ej oH)
         have ABH:=AA (qz.out.keep (K:=K1) (Keep.Aq oH))
         have HKA:=AA (Qf.out.all oH)
         have HBA:=AA (JX.out.below oH JX.out.lt)
         have qm:Hid ([.int .u8 (x.l.toNat:Int),.int .u8 (Vx x.m)]= [x.l,if x.m then 1 else 0].map bv):=AA (by rw [List.map_cons,List.map_cons,tY];rfl)
         have hrow2:Hid (Row (wc.drew.alloc (.cells #[.int .u8 (x.l.toNat:Int),.int .u8 (Vx x.m)] 5)) (wc.heap.size+1) (some ⟨wc.heap.size,0,none⟩) [.int .u8 (x.l.toNat:Int),.int .u8 (Vx x.m)]):=AA (by have:=(AL.new wc.drew 5 [.int .u8 (x.l.toNat:Int),.int .u8 (Vx x.m)]).row 0 2;exact this)
         have hszA:base≤(wc.drew.alloc (.cells #[.int .u8 (x.l.toNat:Int),.int .u8 (Vx x.m)] 5)).heap.size:=Nat.le_trans VH oH.size
         have hgA:=bM.out.blk.lt
         clear oH
         generalize hwA:wc.drew.alloc (.cells #[.int .u8 (x.l.toNat:Int),.int .u8 (Vx x.m)] 5)=wA at bM ABH HKA HBA hrow2 hszA hgA
         have hcA:=bM.out.blk.q 2 rfl
         go_region_law (refine PU rfl (.tmp 116) (.tmp 120) 41 rfl base 5 i0 _ 1 underlying41 hi0 hz hs' hby rfl _ LL.length (LL.map bv) rfl (by exact bM.out.own) _ (some ⟨wc.heap.size,0,none⟩) 2 2 [.int .u8 (x.l.toNat:Int),.int .u8 (Vx x.m)] (by omega) rfl rfl (by exact hrow2.out) (by intro u hu;simp at hu;rcases hu with rfl | rfl<;>rfl) (by have:=Vy.out;unfold maxLen;omega) (by have:=Vy.out;omega) (by exact hszA) ?_;intro A4 c4 w6 h2 h3 h4;rw [qm.out] at h2;have HP:=AA (bM.out.put (m:=2) rfl h3 h2 h4);have hb6:=JZ h3 bM.out.blk (fun e=>(bM.out.apart g e).2 rfl);have hf6:=hb6.frozen 2;have hc6:=hb6.cell 2;clear h2 h3 h4 hb6)
         all_goals
          have HH:=AA (Hd.of ABH.out s3 wJ.out tu.out HP.out.1 HP.out.2)
          clear HP hf6 hc6
          go_wp2_with fail
          go_meet
          exact⟨HKA.out.trans (HH.out.1.mono HKK.out.1),HBA.out.keep HH.out.1 HKK.out.2,HH.out.2⟩
        case rest=>
         obtain⟨Z8,hb6,hd6⟩:=hcut
         obtain⟨T,d,s1,⟨A,c,s2⟩,s3,s4,s5⟩:=hd6
         have tq:=AA Z8;have Lr:=AA hb6
         generalize Z6:(L3++(enc m.globs.length++(m.globs.take k).flatMap Jj))++ [x.l,if x.m then 1 else 0]=LL at*
         have wL:=AA Z6
         have HLn:Hid (LL.length≤270582945002):=AA (by rw [←Z6,List.length_append];have:=Vy.out;simp only [List.length_cons,List.length_nil];omega)
         have hg2:=s2.blk.q 2 rfl
         have hgf:=s2.blk.frozen 2
         have Qa:base≤wc.heap.size:=Nat.le_trans hbase Z8.size
         have qz:=AA s1;have oG:=AA s2;have wJ:=AA s4;have tu:=AA s5
         have hsb:=Oh ABG.out yc.out.2
         have yg:=BA (folded (BK x)) (M4 _ hsb.1 hsb.2)
         obtain⟨i0,hi0,hz,hs',hby⟩:=info_parts Jl
         clear Z6 s1 s2 s4 s5 Z8 hb6 Qf JX HD5 VG VH
         go_wp2_with fail
         go_region_law (first
          | (go_simp;go_at_call 118;refine(Wd (BK x) hsb.1 hsb.2 _).mono ?_;rintro e w7 ⟨A7,c7,rfl,h2,h3⟩;have M_:Below wc.heap.size wc w7:=⟨h3.os,h3.tape,h3.output,h3.size,h3.block⟩;have jX:=AA (Row.own h2);have jY:=AA (oG.out.Ej M_);have Hs17:=AA (qz.out.keep (K:=K1) (Keep.Aq M_));have wI:=AA (tq.out.all M_);have bD:=AA (Lr.out.below M_ Lr.out.lt);have oF:base≤w7.heap.size:=Nat.le_trans Qa M_.size;have hc7:=jY.out.blk.q 2 rfl;have hf7:=jY.out.blk.frozen 2;clear h2 h3 M_)
          | (refine PU rfl (.tmp 128) (.tmp 130) 41 rfl base 5 i0 _ 1 underlying41 hi0 hz hs' hby rfl _ LL.length (LL.map bv) rfl (by exact jY.out.own) _ A7 (enc (folded (BK x))).length c7 ((enc (folded (BK x))).map bv) (EW _) rfl (by rw [List.length_map,Nat.mul_one]) (by exact jX.out) (Nc _) (by have:=HLn.out;unfold maxLen;omega) (by have:=HLn.out;omega) oF ?_;intro A8 c8 w8 h2 h3 h4;have HP:=AA (jY.out.put rfl h3 h2 h4);have EM:=JZ h3 jY.out.blk (fun e=>(jY.out.apart g e).2 rfl);have hf8:=EM.frozen 2;have hc8:=EM.cell 2;clear h2 h3 h4 EM))
         all_goals
          have HH:=AA (Hd.of Hs17.out s3 wJ.out tu.out HP.out.1 HP.out.2)
          have HN:Hid (Ad (k+1) (KI m)=0):=AA (IJ PW.out (by rw [VE Hx.out,AZ H15.out];exact H17.out))
          have HF:Hid (LL++enc (folded (BK x))=L3++(enc m.globs.length++(m.globs.take (k+1)).flatMap Jj)):=AA (by rw [Ev Hx.out,←wL.out];unfold Jj;simp only [List.append_assoc])
          clear HP hf8 hc8 hc7 hf7
          go_wp2_with fail
          refine⟨⟨k+1,by omega,by go_num,wI.out.trans (HH.out.1.mono HKK.out.1),bD.out.keep HH.out.1 HKK.out.2,?_,HN.out⟩,by simp [intOf];omega⟩
          rw [←HF.out]
          exact HH.out.2
     ·obtain rfl:k=m.globs.length:=by omega
      go_wp2_with fail
      go_meet
      refine⟨oD.out,Py.out,?_,PW.out⟩
      have:=wH.out
      rw [List.take_length] at this
      exact this
   case rest=>
    obtain⟨hkc,hbc,hdc,bL⟩:=hcut
    have yh:Hid (Lh m=0):=AA (by unfold Lh;rw [AZ H0.out];exact bL)
    have wM:Hid (EE=Oa m):=AA (by rw [←HE.out];exact bK HT.out HHE.out yh.out)
    have oI:=AA hkc;have Wm:=AA hbc;have wK:=AA hdc
    have Lu:base≤wc.heap.size:=Nat.le_trans hbase hkc.size
    have HL4:Hid ((L3++Od m).length≤270582945000):=AA (by have h1:=SB Px Qv.out m.globs.length m.globs.length hlg (fun j y hj hy=>(PN bL j y hj hy).2);rw [List.take_length] at h1;have:=Qv.out;have:=HL3.out;rw [List.length_append];unfold Od;omega)
    have hz3:=hbc.q 3 rfl
    have yj:=hbc.q 4 rfl
    clear hkc hbc hdc bL UE HB2 HD2 H0 hb2 hx0 H3
    by_cases hbad: ¬(0≤m.first∧m.first≤64)
    ·have hX:Hid (EE=17):=AA (by rw [wM.out];unfold Oa;exact QN (decide_eq_false (fun h=>hbad ⟨h.1,h.2.1⟩)))
     by_cases hneg:m.first<0
     ·have d0:decide (0≤m.first)=false:=decide_eq_false (by omega)
      clear hbad
      go_wp2_with fail
      refine(Ah 17 0 _).mono ?_
      rintro e w6 ⟨rfl,rfl⟩
      go_wp2_with fail
      exact⟨rfl,oI.out,.inr ⟨by rw [hX.out];decide,by rw [hX.out]⟩⟩
     ·have d0:decide (0≤m.first)=true:=decide_eq_true (by omega)
      have d1:decide (m.first≤64)=false:=decide_eq_false (by omega)
      have hnn:0≤m.first:=by omega
      clear hbad hneg
      go_wp2_with fail
      refine(Ah 17 0 _).mono ?_
      rintro e w6 ⟨rfl,rfl⟩
      go_wp2_with fail
      exact⟨rfl,oI.out,.inr ⟨by rw [hX.out];decide,by rw [hX.out]⟩⟩
    have hfi:0≤m.first∧m.first≤64:=Decidable.not_not.1 hbad
    have d0:decide (0≤m.first)=true:=decide_eq_true hfi.1
    have d1:decide (m.first≤64)=true:=decide_eq_true hfi.2
    have hnn:=hfi.1
    obtain⟨n1,hn1⟩:=Int.eq_ofNat_of_zero_le hfi.1
    have qy:Hid (m.first=(n1:Int)∧n1≤64):=AA ⟨hn1,by omega⟩
    clear hn1
    clear hbad
    go_wp2_with fail
    refine(Af 17 0 _).mono ?_
    rintro e w6 ⟨rfl,rfl⟩
    go_wp2_with fail
    have hcl:=PV n1 (by have:=qy.out.2;omega) wK.out (by have:=HL4.out;omega) Lu
    rw [←qy.out.1] at hcl
    refine hcl.mono ?_
    clear hcl
    rintro e w6 ⟨rfl,Z8,hd6⟩
    have tq:=AA (oI.out.trans (Z8.mono HKK.out.1));have Lr:=AA (Wm.out.keep Z8 HKK.out.2);have HD6:=AA hd6
    have Qa:base≤w6.heap.size:=Nat.le_trans Lu Z8.size
    have hy3:=Lr.out.q 3 rfl
    have hy4:=Lr.out.q 4 rfl
    clear Z8 hd6 oI Wm wK hz3 yj
    by_cases hbad: ¬(m.first≤m.most∧m.most≤64)
    ·have hX:Hid (EE=17):=AA (by rw [wM.out];unfold Oa;exact QN (decide_eq_false (fun h=>hbad ⟨h.2.2.1,h.2.2.2⟩)))
     by_cases hneg:m.most<m.first
     ·have e0:decide (m.first≤m.most)=false:=decide_eq_false (by omega)
      clear hbad
      go_wp2_with fail
      refine(Ah 17 0 _).mono ?_
      rintro e w7 ⟨rfl,rfl⟩
      go_wp2_with fail
      exact⟨rfl,tq.out,.inr ⟨by rw [hX.out];decide,by rw [hX.out]⟩⟩
     ·have e0:decide (m.first≤m.most)=true:=decide_eq_true (by omega)
      have e1:decide (m.most≤64)=false:=decide_eq_false (by omega)
      have hmm:m.first≤m.most:=by omega
      clear hbad hneg
      go_wp2_with fail
      refine(Ah 17 0 _).mono ?_
      rintro e w7 ⟨rfl,rfl⟩
      go_wp2_with fail
      exact⟨rfl,tq.out,.inr ⟨by rw [hX.out];decide,by rw [hX.out]⟩⟩
    have hmo:m.first≤m.most∧m.most≤64:=Decidable.not_not.1 hbad
    have hX:Hid (EE=0):=AA (by rw [wM.out];unfold Oa;exact EL (decide_eq_true ⟨hfi.1,hfi.2,hmo.1,hmo.2⟩))
    have e0:decide (m.first≤m.most)=true:=decide_eq_true hmo.1
    have e1:decide (m.most≤64)=true:=decide_eq_true hmo.2
    have hmm:=hmo.1
    obtain⟨n2,hn2⟩:=Int.eq_ofNat_of_zero_le (show 0≤m.most by omega)
    have Hn2:Hid (m.most=(n2:Int)∧n2≤64):=AA ⟨hn2,by omega⟩
    clear hn2
    clear hbad
    go_wp2_with fail
    refine(Af 17 0 _).mono ?_
    rintro e w7 ⟨rfl,rfl⟩
    go_wp2_with fail
    have hcl:=PV n2 (by have:=Hn2.out.2;omega) HD6.out (by have:=HL4.out;have:=BA n1 (by have:=qy.out.2;omega);rw [List.length_append];omega) Qa
    rw [←Hn2.out.1] at hcl
    refine hcl.mono ?_
    clear hcl
    rintro e w7 ⟨rfl,QH,hd7⟩
    have wI:=AA (tq.out.trans (QH.mono HKK.out.1));have HD7:=AA (hd7.less HKK.out.1)
    clear QH hd7 tq Lr HD6 hy3 hy4
    go_wp2_with fail
    go_end0
    refine⟨wI.out,.inl ⟨hX.out,rfl,w.heap.size+1,?_⟩⟩
    have hfin:l++Li m=L3++Od m++enc n1++enc n2:=by
     unfold Li
     rw [qy.out.1,Hn2.out.1,←HL3e.out,←HL2.out]
     simp only [List.append_assoc,Int.toNat_natCast]
    rw [hfin]
    exact HD7.out
theorem SX {W:World} {lo hi:Nat} {cs:List Value} {m:AP} (h:JQ.R W lo hi cs m):Kc m:=by
 obtain⟨v1,v2,v3,v4,v5,v6,rfl,_,h1,h2,h3,h4,h5,h6,h7⟩:=EK.1 h
 obtain⟨A2,c2,rfl⟩:=AX h2
 obtain⟨A5,c5,rfl⟩:=AX h5
 obtain⟨A6,c6,rfl⟩:=AX h6
 obtain⟨A7,c7,rfl⟩:=AX h7
 obtain⟨A1,c1,rfl⟩:=AX h1
 refine⟨fun t ht=>(Rd.ko h1 t ht).2,fun x hx=> ?_,h3.2,h4.2,fun f hf=> ?_,fun d hd=> ?_,fun x hx=> ?_⟩
 ·obtain⟨k,hk⟩:=List.getElem?_of_mem hx
  obtain⟨_,_,_,_,_,_,_,_,hb⟩:=OX h2 hk
  exact hb
 ·obtain⟨k,hk⟩:=List.getElem?_of_mem hf
  obtain⟨_,_,_,_,_,_,_,_,_,_,hb,_,hc⟩:=UQ h5 hk
  refine⟨hb.2,fun x hx=> ?_⟩
  obtain⟨j,hj⟩:=List.getElem?_of_mem hx
  obtain⟨_,_,_,_,_,_,_,_,_,_,ha,hl⟩:=Tx hc hj
  exact⟨ha,fun n hn=>(Rd.ko hl n hn).2⟩
 ·obtain⟨k,hk⟩:=List.getElem?_of_mem hd
  obtain⟨_,_,_,_,_,_,_,_,_,hb,_⟩:=NW h6 hk
  exact hb.2
 ·obtain⟨k,hk⟩:=List.getElem?_of_mem hx
  obtain⟨_,_,_,_,_,_,_,_,hb⟩:=NY h7 hk
  exact hb.2
theorem oU {P:Program} {ops:Array Oper} {rest:List Oper} {o:Oper} {a:Act} {w:World} {Q:Exit→Act→World→Prop} {g:Nat} {t:TypeId} {xs:List Value} (hb:AL w g t xs) {d:TypeDesc} (hu:P.underlying t=some d) (hd:(match d with | .struct _ | .array _ _=>true | _=>false)=true) (hi:(P.info? t).map (·.size)=some xs.length)
 (hg:Region.wanted o (yielded ops a.tmps)=true) (x:Operand) (ho:o.op= .load t x) (hx:a.eval x= .pointer (some ⟨g,0,none⟩)) (h:wpList P ops Q rest (a.put o.dst (.agg xs.toArray)) w):wpList P ops Q (o::rest) a w:=
 BigFrame.wpList_want hg fun _ hK=>wp_load_row t x ho g hx t xs.toArray (0,0) d hb hu hd (by simpa using hi) (hK _ _ h)
section
variable {ops:Array Oper} {rest:List Oper} {o:Oper} {a:Act} {w:World} {Q:Exit→Act→World→Prop} {g:Nat}
theorem ABW {a0 a1 a2 a3 a4 a5 a6 a7:Value} (hb:AL w g 29 [a0,a1,a2,a3,a4,a5,a6,a7]) (hg:Region.wanted o (yielded ops a.tmps)=true) (x:Operand) (ho:o.op= .load 29 x) (hx:a.eval x= .pointer (some ⟨g,0,none⟩))
 (h:wpList prog ops Q rest (a.put o.dst (.agg #[a0,a1,a2,a3,a4,a5,a6,a7])) w):wpList prog ops Q (o::rest) a w:=
 oU hb underlying29 rfl (by kernel_rfl) hg x ho hx h
end
end Go.Proofs.YtejbcledkhioeaaGreatDoor
