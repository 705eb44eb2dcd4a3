/- Part 32 of the proof: ModH -/
import Derived.Test.YtlagonfamllgjaaGreatDoorR30
namespace Go.Proofs.YtlagonfamllgjaaGreatDoor
set_option linter.unusedVariables false
set_option linter.unusedSimpArgs false
set_option maxRecDepth 100000
set_option maxHeartbeats 4000000
open Go.RowKit Tryz
theorem ND (v:Value) (s:ByteArray) (most:Int) (h47:s.size≤140737488351232) (w:World) (h:Bz s most=0):
 Calls prog 152 #[v,.string s,.int .i64 most,.int .i64 0] w fun e w'=>Below w.heap.size w w'∧e= .returned (.tuple #[]):=
 (Ni v s most h47 w).mono fun e w' ⟨h1,h2⟩=>⟨h1,h2.elim (fun h3=>h3.2) (fun h3=>absurd h h3.1)⟩
theorem NG (v:Value) (s:ByteArray) (most:Int) (h47:s.size≤140737488351232) (w:World) (h:Bz s most≠0):
 Calls prog 152 #[v,.string s,.int .i64 most,.int .i64 0] w fun e w'=>Below w.heap.size w w'∧e= .panicked (thrown (Bz s most) 0):=
 (Ni v s most h47 w).mono fun e w' ⟨h1,h2⟩=>⟨h1,h2.elim (fun h3=>absurd h3.1 h) (fun h3=>h3.2)⟩
theorem DX {b:Bool} {e:Int} (he:e≠0) (h:Ab b e=0):b=true:=by
 cases b with
 | true=>rfl
 | false=>exact absurd h he
theorem Ew {s:ByteArray} {most:Int} (h:Bz s most=0):(s.size:Int)≤most∧Y4 s=true:=by
 unfold Bz at h
 have:=AU h
 exact⟨of_decide_eq_true (DX (by decide) this.1),DX (by decide) this.2⟩
theorem Nj {m:AP} {k:Nat} {x:CW} (h0:Ab (decide (m.types.length≤64)) 20=0) (he:Aa k (Yj m.types)=0) (hx:m.types[k]?=some x) {v:Int} (hv:v≠0) (ht:Yj m.types k=v):IY m=v:=by
 have hk:=(List.getElem?_eq_some_iff.1 hx).1
 have h1:Dh m=v:=by
  unfold Dh
  rw [AX h0,Da he (by rw [ht];exact hv) _ hk,ht]
 unfold IY
 rw [Bn (by rw [h1];exact hv),h1]
theorem Rz {m:AP} (ht:Dh m=0) {v:Int} (hv:v≠0) (hh:Dx m=v):IY m=v:=by
 unfold IY
 rw [AX ht,Bn (by rw [hh];exact hv),hh]
theorem Xi {m:AP} {k:Nat} {t:Int} (hx:m.hosts[k]?=some t):Gg m k=Ab (decide (0≤t∧t<m.types.length)) 30:=by
 unfold Gg;rw [hx]
theorem eY {m:AP} {k:Nat} {t:Int} (h0:Ab (decide (m.hosts.length≤32)) 20=0) (he:Aa k (Gg m)=0) (hx:m.hosts[k]?=some t) (hv:Gg m k≠0):Dx m=Gg m k:=by
 unfold Dx
 rw [AX h0,Da he hv _ (List.getElem?_eq_some_iff.1 hx).1]
theorem Nk {m:AP} (ht:Dh m=0) (hh:Dx m=0) {v:Int} (hv:v≠0) (hg:Eu m=v):IY m=v:=by
 unfold IY
 rw [AX ht,AX hh,Bn (by rw [hg];exact hv),hg]
theorem R3 {m:AP} {k:Nat} {x:Ei} (hx:m.globs[k]?=some x):Gh m k=Cg (Ab (MQ x.l.toNat) 15) (Ab (Du x.v x.l.toNat) 17):=by
 unfold Gh;rw [hx]
theorem Uk {m:AP} {k:Nat} {x:Ei} (h0:Ab (decide (m.globs.length≤64)) 20=0) (he:Aa k (Gh m)=0) (hx:m.globs[k]?=some x) {v:Int} (hv:v≠0) (hg:Gh m k=v):Eu m=v:=by
 unfold Eu
 rw [AX h0,Da he (by rw [hg];exact hv) _ (List.getElem?_eq_some_iff.1 hx).1,hg]
theorem ZK {m:AP} (ht:Dh m=0) (hh:Dx m=0) (hg:Eu m=0):IY m=FP m:=by
 unfold IY
 rw [AX ht,AX hh,AX hg]
theorem Pj {l:List CW} {k:Nat} {x:CW} (hx:l[k]?=some x):Yj l k=Cg (Bz x.p 8) (Cg (Bz x.r 8) (Ab (!(l.take k).any (fun y=>J3 y x)) 16)):=by
 unfold Yj;rw [hx]
def Tf (b:Bool):Int:=if b then 1 else 0
theorem qR (b:Bool):bv (if b then 1 else 0)= .int .u8 (Tf b):=by cases b<;>rfl
theorem j5 {x:Ei} (h:x.l.toNat=108) (hv:x.v<18446744073709551616):wrap64 (x.v:Int)=Ej x:=by
 unfold Ej
 rw [if_neg (by omega)]
 unfold wrap64
 split<;>omega
theorem yF {x:Ei} (h:x.l.toNat=119) (hv:x.v<4294967296):wrap64 (wrap32 (x.v:Int))=Ej x:=by
 unfold Ej wrap64 wrap32
 split
 ·omega
 ·split<;>omega
def KH (A1 A2 A3 A4 A5 A6:Option Addr) (c1 c2 c3 c4 c5 c6:Nat) (m:AP):List Value:=
 [.slice A1 m.types.length c1,.slice A2 m.hosts.length c2,.slice A3 m.globs.length c3,.int .i64 m.first,.int .i64 m.most,.slice A4 m.fns.length c4,.slice A5 m.dat.length c5,.slice A6 m.Aw.length c6]
def vX (first:Int):List Value:= [.slice none 0 0,.slice none 0 0,.slice none 0 0,.int .i64 first,.int .i64 0,.slice none 0 0,.slice none 0 0,.slice none 0 0]
theorem eZ {w:World} {base g:Nat} {K:Nat→Prop} {all first:Int} {l:List UInt8} (cs:Array Value) (h:Wr w base g K (.pointer none) all l) (hbase:base≤w.heap.size) {W:World}
 (hW:(((w.setCell ⟨g,0,none⟩ (.pointer (some ⟨w.heap.size+1,0,none⟩))).alloc (.cells cs 29)).alloc (.cells (vX first).toArray 29))=W):
 Keep K w W∧AQ W w.heap.size 29 cs.toList∧Hd W base g (w.heap.size+1) (fun k=>K k∨k=w.heap.size) first all [] l∧w.heap.size≤W.heap.size:=by
 obtain⟨A,c,h⟩:=h
 have hg:=h.blk.lt
 have hs0:(w.setCell ⟨g,0,none⟩ (.pointer (some ⟨w.heap.size+1,0,none⟩))).heap.size=w.heap.size:=by simp [World.setCell]
 have hs:((w.setCell ⟨g,0,none⟩ (.pointer (some ⟨w.heap.size+1,0,none⟩))).alloc (.cells cs 29)).heap.size=w.heap.size+1:=by simp [World.setCell]
 have hsn:=AQ.new ((w.setCell ⟨g,0,none⟩ (.pointer (some ⟨w.heap.size+1,0,none⟩))).alloc (.cells cs 29)) 29 (vX first)
 have hbn:=AQ.new (w.setCell ⟨g,0,none⟩ (.pointer (some ⟨w.heap.size+1,0,none⟩))) 29 cs.toList
 rw [hs,hW] at hsn
 rw [hs0] at hbn
 have hWs:W.heap.size=w.heap.size+2:=by rw [←hW];simp [World.setCell]
 refine⟨by rw [←hW];exact(((Keep.refl K w).setCell h.kg _).alloc _).alloc _,by rw [←hW];exact hbn.alloc _,⟨none,0,⟨hsn,World.ownsRow_nil _ _ _ _,by simp⟩,⟨A,c,?_,?_,h.low,?_,?_,?_⟩,by omega,?_,by simp [Value.ownBlock]⟩,by omega⟩
 ·rw [←hW];exact((h.blk.set 0 _).alloc _).alloc _
 ·rw [←hW];exact((h.own.jU (fun e=>(h.apart g e).2 rfl) _).alloc _).alloc _
 ·rintro((e | e) | e | e)
  ·exact h.kg e
  ·omega
  ·omega
  ·cases e
 ·intro k hk
  refine⟨?_,(h.apart k hk).2⟩
  have:=(h.own.lt k hk).2
  rintro((e | e) | e | e)
  ·exact(h.apart k hk).1 e
  ·omega
  ·omega
  ·cases e
 ·intro k hk
  rw [hWs]
  rcases hk with(e | e) | e | e
  ·have:=h.lt k e;omega
  ·omega
  ·omega
  ·cases e
 ·rintro(e | e)
  ·have:=h.lt _ e;omega
  ·omega
theorem qU (cs:List Value) (hi base g:Nat) (K:Nat→Prop) (m:AP) (l:List UInt8) (w:World) (h:Db.R w 0 hi cs m) (hhi:hi≤w.heap.size) (hK: ∀k,k<hi→K k) (hw:Wr w base g K (.pointer none) 0 l) (hbase:base≤w.heap.size) (hle:BU m≤2147483647) (Cr:Ev m) (hl:l.length≤1000):
 Calls prog 128 #[.pointer (some ⟨g,0,none⟩),.agg cs.toArray] w fun e w'=>Keep K w w'∧Lr (IY m) e (∃gs,Hd w' base g gs K m.first 0 m.types (l++NA m)):=by
 generalize Td:IY m=EE
 have HE:=AA Td
 clear Td
 obtain⟨v1,v2,v3,v4,v5,v6,rfl,h1,h2,h3,hf63,hm63,h4,h5,h6⟩:=Av.1 h
 obtain⟨A1,c1,rfl⟩:=AJ h1
 obtain⟨A2,c2,rfl⟩:=AJ h2
 obtain⟨A3,c3,rfl⟩:=AJ h3
 obtain⟨A4,c4,rfl⟩:=AJ h4
 obtain⟨A5,c5,rfl⟩:=AJ h5
 obtain⟨A6,c6,rfl⟩:=AJ h6
 have H1:=AA h1;have H2:=AA h2;have H3:=AA h3;have Md:=AA hK;have HW0:=AA hw;have GZ:=AA hle
 clear h h1 h2 h3 h4 h5 h6 hK hle
 have hc0:w.cell? ⟨g,0,none⟩=some (.pointer none):=by obtain⟨A,c,hw⟩:=hw;exact hw.blk.cell 0
 have hg:g<w.heap.size:=by obtain⟨A,c,hw⟩:=hw;exact hw.blk.lt
 have hf0:w.frozen? ⟨g,0,none⟩=false:=by obtain⟨A,c,hw⟩:=hw;exact hw.blk.frozen 0
 clear hw
 go_enter func128,ntmps128
 go_wp2_with fail
 generalize hw1:((w.setCell _ _).alloc _).alloc _=w1
 obtain⟨i1,i2,i3,i4⟩:=eZ _ HW0.out hbase hw1
 have Ls:=AA i1;have HB1:=AA i2;have HD1:=AA i3
 have hb1:base≤w1.heap.size:=Nat.le_trans hbase i4
 clear hw1 i1 i2 i3 i4
 generalize hK1:(fun k=>K k∨k=w.heap.size)=K1 at*
 have HKK:Hid ((∀k,K k→K1 k)∧K1 w.heap.size):=AA (by rw [←hK1];exact⟨fun k h=> .inl h,.inr rfl⟩)
 clear hK1
 have hlt:m.types.length≤2147483647:=by have:=GZ.out;unfold BU at this;omega
 refine(KG m.types.length 64 (by omega) HD1.out (by omega) hb1).mono ?_
 rintro e w2 ⟨hk,hcase⟩
 have GN:Hid (Keep K w w2):=AA (Ls.out.trans (hk.mono HKK.out.1))
 have HB2:=AA (HB1.out.keep hk HKK.out.2)
 rcases hcase with⟨h0,rfl,hd⟩ | ⟨h0,rfl⟩
 case inr=>
  have H0:=AA h0;clear h0 hk
  go_wp2_with fail
  have hX:=HE.out
  unfold IY Dh at hX
  rw [Bn (by rw [Bn H0.out];exact H0.out),Bn H0.out] at hX
  exact⟨rfl,GN.out,.inr ⟨by rw [←hX];exact H0.out,by rw [←hX]⟩⟩
 have H0:=AA h0;have HD2:=AA hd
 have hb2:base≤w2.heap.size:=Nat.le_trans hb1 hk.size
 clear h0 hd hk Ls HB1 HD1
 have hx0:=HB2.out.cell 0
 go_upto_block 0 with fail
 go_cut [] (fun wx=>Keep K w wx∧AQ wx w.heap.size 29 (KH A1 A2 A3 A4 A5 A6 c1 c2 c3 c4 c5 c6 m)∧Hd wx base g (w.heap.size+1) K1 m.first 0 m.types (l++NY m)∧Aa m.types.length (Yj m.types)=0)
 case first=>
  clear hx0
  go_wp2_with fail
  go_loopw [28] (fun i wr=> ∃k:Nat,k≤m.types.length∧i= .int .i64 k∧Keep K w wr∧AQ wr w.heap.size 29 (KH A1 A2 A3 A4 A5 A6 c1 c2 c3 c4 c5 c6 m)∧Hd wr base g (w.heap.size+1) K1 m.first 0 (m.types.take k) (l++(enc m.types.length++(m.types.take k).flatMap LD))∧Aa k (Yj m.types)=0)
   (fun i _=>m.types.length-(intOf i).toNat)
  case atStart=>exact⟨0,Nat.zero_le _,rfl,GN.out,HB2.out,by simpa using HD2.out,rfl⟩
  case round=>
   obtain⟨k,hk,rfl,hkr,hbr,hdr,her⟩:=hrel
   have eu:=AA hkr;have M6:=AA hbr;have vY:=AA hdr;have Me:=AA her
   have Pk:base≤wr.heap.size:=Nat.le_trans hbase hkr.size
   clear hkr hbr hdr her
   by_cases hltk:k<m.types.length
   ·obtain⟨x,hx⟩: ∃x,m.types[k]?=some x:=⟨_,List.getElem?_eq_getElem hltk⟩
    have hr1:=Rd.CB H1.out eu.out hhi (fun j _ h=>Md.out j h)
    obtain⟨b,o,rfl,_,N7,hc0',hc1',hop,hor⟩:=DN hr1 hx
    have Hx:=AA hx
    have hk0:(0:Int)≤k:=by omega
    clear hr1 hx
    go_wp2_with fail
    generalize hw3:wr.alloc _=w3
    have hb3:Below wr.heap.size wr w3:=by rw [←hw3];exact(Below.refl _ _).alloc (Nat.le_refl _) _
    have GQ:=AA (eu.out.all hb3);have j6:=AA (M6.out.below hb3 M6.out.lt);have HD3:=AA (vY.out.box hb3 (by rw [←hw3];simp))
    generalize hK2:(fun j=>K1 j∨j=wr.heap.size)=K2 at HD3
    have EI:Hid ((∀j,K1 j→K2 j)∧K2 wr.heap.size):=AA (by rw [←hK2];exact⟨fun j h=> .inl h,.inr rfl⟩)
    have R4:base≤w3.heap.size:=Nat.le_trans Pk hb3.size
    clear hK2
    have NH:Hid (AQ w3 wr.heap.size 93 [.string x.p,.string x.r]):=by rw [←hw3];exact AA (AQ.new wr 93 [.string x.p,.string x.r])
    have hn0:=NH.out.q 0 rfl
    clear hw3 hb3 hc0' hc1'
    by_cases hp:Bz x.p 8=0
    case neg=>
     have hX:Hid (EE=Bz x.p 8):=AA (by rw [←HE.out];exact Nj H0.out Me.out Hx.out hp (by rw [Pj Hx.out,Bn hp]))
     have Hp:=AA hp;clear hp
     go_region_dies
     all_goals
      refine(NG _ x.p 8 hop _ Hp.out).mono ?_
      rintro e w4 ⟨hb4,rfl⟩
      exact⟨rfl,GQ.out.all (CV hb4),.inr ⟨by rw [hX.out];exact Hp.out,by rw [hX.out]⟩⟩
    have Hp:=AA hp;clear hp
    go_region_held3 (fun w'=>w'.cell? ⟨wr.heap.size,0,none⟩=some (.string x.p)) (first | exact hn0 | assumption)
     (first | (go_at_call 152;refine(ND _ x.p 8 hop _ Hp.out).mono ?_;rintro e w4 ⟨hb4,rfl⟩;have hb4:=CV hb4;have Ct:=AA hb4;have oI:=(NH.out.below hb4 NH.out.lt).q 0 rfl;clear hb4))
    have LH:=AA (GQ.out.all Ct.out);have HBy:=AA (j6.out.below Ct.out j6.out.lt);have HD4:=AA (HD3.out.ES Ct.out);have Qo:=AA (NH.out.below Ct.out NH.out.lt)
    have Pm:base≤w4.heap.size:=Nat.le_trans R4 Ct.out.size
    have hsz:x.p.size≤8∧x.r.size≤2147483647:=⟨by have:=(Ew Hp.out).1;omega,by have:=DW (fun t:CW=>t.p.size+t.r.size) m.types x (List.mem_of_getElem? Hx.out);have:=GZ.out;unfold BU at this;omega⟩
    have hLk:=Pf Cr GZ.out m.types.length k hlt
    have hLE:=GZ.out
    have R5:Hid ((l++(enc m.types.length++(m.types.take k).flatMap LD)).length≤90194315000):=AA (by rw [List.length_append];omega)
    have HLp:Hid ((FM x.p).length≤20):=AA (by have:=F8 (s:=x.p) (by omega);omega)
    clear Ct GQ j6 HD3 NH hLk hLE Pk R4 hn0
    go_wp2_with fail
    refine(OQ x.p (by omega) HD4.out (by have:=R5.out;omega) Pm).mono ?_
    rintro e w5 ⟨rfl,hk5,hd5⟩
    have Vp:=AA (LH.out.trans (hk5.mono fun j h=>EI.out.1 j (HKK.out.1 j h)));have HBz:=AA (HBy.out.keep hk5 (EI.out.1 _ HKK.out.2));have HD5:=AA hd5;have QO:=AA (Qo.out.keep hk5 EI.out.2)
    have R6:base≤w5.heap.size:=Nat.le_trans Pm hk5.size
    have hm1:=QO.out.q 1 rfl
    clear hk5 hd5 LH HBy HD4 Qo Pm oI
    go_wp2_with fail
    by_cases hp:Bz x.r 8=0
    case neg=>
     have hX:Hid (EE=Bz x.r 8):=AA (by rw [←HE.out];exact Nj H0.out Me.out Hx.out hp (by rw [Pj Hx.out,AX Hp.out,Bn hp]))
     have Hp:=AA hp;clear hp
     go_region_dies
     all_goals
      refine(NG _ x.r 8 hor _ Hp.out).mono ?_
      rintro e w6 ⟨hb6,rfl⟩
      exact⟨rfl,Vp.out.all (CV hb6),.inr ⟨by rw [hX.out];exact Hp.out,by rw [hX.out]⟩⟩
    have Hr:=AA hp;clear hp
    go_region_held3 (fun w'=>w'.cell? ⟨wr.heap.size,1,none⟩=some (.string x.r)) (first | exact hm1 | assumption)
     (first | (go_at_call 152;refine(ND _ x.r 8 hor _ Hr.out).mono ?_;rintro e w6 ⟨hb6,rfl⟩;have hb6:=CV hb6;have EL:=AA hb6;have fA:=(QO.out.below hb6 QO.out.lt).q 1 rfl;clear hb6))
    have Ul:=AA (Vp.out.all EL.out);have HBu:=AA (HBz.out.below EL.out HBz.out.lt);have HD6:=AA (HD5.out.ES EL.out);have fB:=AA (QO.out.below EL.out QO.out.lt)
    have Nl:base≤w6.heap.size:=Nat.le_trans R6 EL.out.size
    have HLr:Hid ((FM x.r).length≤2147483700):=AA (by have:=F8 (s:=x.r) (by omega);omega)
    clear EL Vp HBz HD5 QO R6 hm1
    go_wp2_with fail
    refine(OQ x.r (by omega) HD6.out (by have:=R5.out;have:=HLp.out;rw [List.length_append];omega) Nl).mono ?_
    rintro e w7 ⟨rfl,Xj,hd7⟩
    have vZ:=AA (Ul.out.trans (Xj.mono fun j h=>EI.out.1 j (HKK.out.1 j h)));have HBv:=AA (HBu.out.keep Xj (EI.out.1 _ HKK.out.2));have yG:=AA (fB.out.keep Xj EI.out.2)
    have HD7:=AA (hd7.less EI.out.1)
    have j_:base≤w7.heap.size:=Nat.le_trans Nl Xj.size
    clear Xj hd7 Ul HBu HD6 fB Nl fA EI
    have hq0:=yG.out.q 0 rfl
    have hq1:=yG.out.q 1 rfl
    have yH:(m.types.take k).length=k:=by rw [List.length_take];omega
    generalize hts:m.types.take k=ts at HD7 yH
    have Hts:=AA hts
    have hTk:=AA yH
    clear hts yH
    obtain⟨T,d,s1,s2,s3,s4,s5⟩:=HD7.out
    have hs0:=s1.blk.q 0 rfl
    have hsl:=s1.blk.lt
    have hsf:=s1.blk.frozen 0
    have oJ:=AA s1;have ak:=AA s2;have qV:=AA s5;have vg:=AA s4
    clear s1 s2 s4 s5 HD7
    obtain⟨i0,z0,hi0,hz,hs',hby,hzz⟩:=info_parts' Ra
    go_wp2_with (at_builtin;refine BL _ rfl (.tmp 53) (.tmp 55) 22 rfl base 93 i0 z0 2 32 underlying22 hi0 hz hs' hby hzz (by omega) (.slice T ts.length d) ts.length (ts.flatMap OJ) rfl (oJ.out.own.alloc _) (w7.heap.size+1) (some ⟨w7.heap.size,0,none⟩) 1 1 (OJ x) rfl rfl (by have:=(AQ.new w7 93 (OJ x)).row 0 2;exact this) (by intro u hu;unfold OJ at hu;simp at hu;rcases hu with rfl | rfl<;>rfl) (by rw [hTk.out];unfold maxLen;omega) (by rw [hTk.out];omega) (by simp;omega) ?_;intro A8 c8 w8 g2 g3 g4;have PE:=(g3.block (w.heap.size+1) (by simp;omega) (fun e=>(qV.out _ e.symm).2 rfl)).trans (oJ.out.blk.alloc (.cells (OJ x).toArray 93));have hc8:=AQ.cell PE 0;have hf8:=AQ.frozen PE 0;have G2:=AA g2;have G3:=AA g3;have G4:=AA g4;clear g2 g3 g4 PE)
    have R7:Below w7.heap.size w7 (w7.alloc (.cells (OJ x).toArray 93)):=(Below.refl _ _).alloc (Nat.le_refl _) _
    have HP:=AA (Hd.type (K:=K1) (oJ.out.keep (K:=K1) (Keep.DC R7)) (ak.out.ES R7) s3 vg.out qV.out ⟨hop,hor⟩ G3.out G2.out G4.out)
    have EY:Hid (Keep K1 w7 (w7.alloc (.cells (OJ x).toArray 93))):=AA (Keep.DC R7)
    have HK8:Hid (Keep K w (w8.setCell ⟨w.heap.size+1,0,none⟩ (.slice A8 (ts.length+1) c8))):=AA (vZ.out.trans ((EY.out.trans HP.out.1).mono HKK.out.1))
    have Vq:Hid (AQ (w8.setCell ⟨w.heap.size+1,0,none⟩ (.slice A8 (ts.length+1) c8)) w.heap.size 29 (KH (some ⟨b,o,none⟩) A2 A3 A4 A5 A6 c1 c2 c3 c4 c5 c6 m)):=AA (HBv.out.keep (EY.out.trans HP.out.1) HKK.out.2)
    have yI:=AA HP.out.2
    clear R7 HP EY vZ HBv yG oJ ak vg qV s3 hs0 hsl hsf hi0 hz hs' hby hzz hc8 hf8 G2 G3 G4 hq0 hq1
    generalize w8.setCell _ _=w9 at*
    have htx:Hid (ts++ [x]=m.types.take (k+1)):=AA (by rw [List.take_add_one,Hx.out,Hts.out];rfl)
    refine(jd k x yI.out (by rw [List.length_append,hTk.out];rfl) (by rw [List.getElem?_append_right (by rw [hTk.out];exact Nat.le_refl _),hTk.out,Nat.sub_self];rfl) (by have:=(DX (by decide) H0.out);have:=of_decide_eq_true this;omega)).mono ?_
    rintro e fC ⟨hbT,hT⟩
    have hany:(ts++ [x]).take k=m.types.take k:=by rw [List.take_append_of_le_length (by rw [hTk.out];exact Nat.le_refl _),←Hts.out,List.take_take,Nat.min_self]
    rw [hany] at hT
    have hty:Yj m.types k=Ab (!(m.types.take k).any (fun y=>J3 y x)) 16:=by rw [Pj Hx.out,AX Hp.out,AX Hr.out]
    rw [←hty] at hT
    have LQ:=AA hT
    have HKT:=AA (HK8.out.all hbT);have HBT:=AA (Vq.out.below hbT Vq.out.lt);have HDT:=AA (yI.out.ES hbT)
    clear hT hbT hany hty HK8 Vq yI
    rcases LQ.out with⟨h0,rfl⟩ | ⟨h0,rfl⟩
    ·have HN:Hid (Aa (k+1) (Yj m.types)=0):=AA (CQ Me.out h0)
     have HF:Hid (l++(enc m.types.length++(m.types.take k).flatMap LD)++FM x.p++FM x.r=l++(enc m.types.length++(m.types.take (k+1)).flatMap LD)):=AA (by rw [EH Hx.out];unfold LD;simp only [List.append_assoc])
     clear h0
     go_wp2_with fail
     refine⟨⟨k+1,by omega,by go_num,HKT.out,HBT.out,?_,HN.out⟩,by simp [intOf];omega⟩
     rw [←HF.out,←htx.out,Hts.out]
     exact HDT.out
    ·have hX:Hid (EE=Yj m.types k):=AA (by rw [←HE.out];exact Nj H0.out Me.out Hx.out h0 rfl)
     have fD:=AA h0;clear h0
     go_wp2_with fail
     exact⟨rfl,HKT.out,.inr ⟨by rw [hX.out];exact fD.out,by rw [hX.out]⟩⟩
   ·obtain rfl:k=m.types.length:=by omega
    go_wp2_with fail
    go_meet
    refine⟨eu.out,M6.out,?_,Me.out⟩
    have:=vY.out
    rw [List.take_length] at this
    exact this
 case rest=>
  obtain⟨hkc,hbc,hdc,ZL⟩:=hcut
  have kC:=AA hkc;have Um:=AA hbc;have vk:=AA hdc
  have HT:Hid (Dh m=0):=AA (by unfold Dh;rw [AX H0.out];exact ZL)
  have JE:base≤wc.heap.size:=Nat.le_trans hbase hkc.size
  have hx1:=hbc.q 1 rfl
  have hlh:m.hosts.length≤2147483647:=by have:=GZ.out;unfold BU at this;omega
  have yJ:Hid ((l++NY m).length≤90194315000):=AA (by have h1:=Pf Cr GZ.out m.types.length m.types.length hlt;rw [List.take_length] at h1;have:=GZ.out;rw [List.length_append];unfold NY;omega)
  clear hkc hbc hdc ZL GN HB2 HD2 H0 hb2 hb1 hx0 H1
  go_wp2_with fail
  refine(KG m.hosts.length 32 (by omega) vk.out (by have:=yJ.out;omega) JE).mono ?_
  rintro e w2 ⟨hk,hcase⟩
  have GN:Hid (Keep K w w2):=AA (kC.out.trans (hk.mono HKK.out.1))
  have HB2:=AA (Um.out.keep hk HKK.out.2)
  rcases hcase with⟨h0,rfl,hd⟩ | ⟨h0,rfl⟩
  case inr=>
   have H0:=AA h0;clear h0 hk
   go_wp2_with fail
   have hX:EE=Ab (decide (m.hosts.length≤32)) 20:=by rw [←HE.out];exact Rz HT.out H0.out (by unfold Dx;rw [Bn H0.out])
   exact⟨rfl,GN.out,.inr ⟨by rw [hX];exact H0.out,by rw [hX]⟩⟩
  have H0:=AA h0;have HD2:=AA hd
  have hb2:base≤w2.heap.size:=Nat.le_trans JE hk.size
  clear h0 hd hk kC Um vk hx1
  have hx0:=HB2.out.q 1 rfl
  generalize hL2:l++NY m=L2 at*
  have HL2:=AA hL2
  clear hL2
  go_upto_block 2 with fail
  go_cut [] (fun wx=>Keep K w wx∧AQ wx w.heap.size 29 (KH A1 A2 A3 A4 A5 A6 c1 c2 c3 c4 c5 c6 m)∧Hd wx base g (w.heap.size+1) K1 m.first 0 m.types (L2++NZ m)∧Aa m.hosts.length (Gg m)=0)
  case first=>
   clear hx0
   go_wp2_with fail
   go_loopw [71] (fun i wr=> ∃k:Nat,k≤m.hosts.length∧i= .int .i64 k∧Keep K w wr∧AQ wr w.heap.size 29 (KH A1 A2 A3 A4 A5 A6 c1 c2 c3 c4 c5 c6 m)∧Hd wr base g (w.heap.size+1) K1 m.first 0 m.types (L2++(enc m.hosts.length++(m.hosts.take k).flatMap (fun t=>enc t.toNat)))∧Aa k (Gg m)=0)
    (fun i _=>m.hosts.length-(intOf i).toNat)
   case atStart=>exact⟨0,Nat.zero_le _,rfl,GN.out,HB2.out,by simpa using HD2.out,rfl⟩
   case round=>
    obtain⟨k,hk,rfl,hkr,hbr,hdr,her⟩:=hrel
    have eu:=AA hkr;have M6:=AA hbr;have vY:=AA hdr;have Me:=AA her
    have Pk:base≤wr.heap.size:=Nat.le_trans hbase hkr.size
    have hy0:=hbr.q 0 rfl
    clear hkr hbr hdr her
    by_cases hltk:k<m.hosts.length
    ·obtain⟨x,hx⟩: ∃x,m.hosts[k]?=some x:=⟨_,List.getElem?_eq_getElem hltk⟩
     have hr1:=Rd.CB H2.out eu.out hhi (fun j _ h=>Md.out j h)
     obtain⟨b,o,rfl,_,N7,cs,hcs,hrd⟩:=Dj hr1 hx
     obtain⟨rfl,hx63⟩:=hrd
     have hc0':wr.cell? ⟨b,o+k,none⟩=some (.int .i64 x):=by
      have:=hcs 0 _ rfl
      rwa [show Rd.i64.z=1 from rfl,Nat.mul_one,Nat.add_zero] at this
     have Hx:=AA hx
     have hk0:(0:Int)≤k:=by omega
     have R5:Hid ((L2++(enc m.hosts.length++(m.hosts.take k).flatMap (fun t=>enc t.toNat))).length≤180388630000):=AA (by
      have h1:=Pg Cr GZ.out m.hosts.length k hlh
      have:=GZ.out
      have h2:=yJ.out
      rw [List.length_append];omega)
     clear hr1 hx hcs
     go_wp2_with fail
     refine(Rv x m.types.length hx63.2 vY.out (by have:=R5.out;omega) Pk).mono ?_
     rintro e w3 ⟨hk3,hcase⟩
     have GQ:=AA (eu.out.trans (hk3.mono HKK.out.1));have HB3:=AA (M6.out.keep hk3 HKK.out.2)
     rw [←Xi Hx.out] at hcase
     rcases hcase with⟨h0,rfl,hd⟩ | ⟨h0,rfl⟩
     ·have HN:Hid (Aa (k+1) (Gg m)=0):=AA (CQ Me.out h0)
      have HD3:Hid (Hd w3 base g (w.heap.size+1) K1 m.first 0 m.types (L2++(enc m.hosts.length++(m.hosts.take (k+1)).flatMap (fun t=>enc t.toNat)))):=AA (by
       rw [EH Hx.out]
       simpa only [List.append_assoc] using hd)
      clear h0 hk3 hd
      go_wp2_with fail
      exact⟨⟨k+1,by omega,by go_num,GQ.out,HB3.out,HD3.out,HN.out⟩,by simp [intOf];omega⟩
     ·have hX:Hid (EE=Gg m k):=AA (by rw [←HE.out];exact Rz HT.out h0 (eY H0.out Me.out Hx.out h0))
      have fD:=AA h0;clear h0 hk3
      go_wp2_with fail
      exact⟨rfl,GQ.out,.inr ⟨by rw [hX.out];exact fD.out,by rw [hX.out]⟩⟩
    ·obtain rfl:k=m.hosts.length:=by omega
     go_wp2_with fail
     go_meet
     refine⟨eu.out,M6.out,?_,Me.out⟩
     have:=vY.out
     rw [List.take_length] at this
     exact this
  case rest=>
   obtain⟨hkc,hbc,hdc,ZL⟩:=hcut
   have vv:Hid (Dx m=0):=AA (by unfold Dx;rw [AX H0.out];exact ZL)
   have kC:=AA hkc;have Um:=AA hbc;have vk:=AA hdc
   have JE:base≤wc.heap.size:=Nat.le_trans hbase hkc.size
   have hx1:=hbc.q 2 rfl
   have vw:m.globs.length≤2147483647:=by have:=GZ.out;unfold BU at this;omega
   have oK:Hid ((L2++NZ m).length≤180388630000):=AA (by have h1:=Pg Cr GZ.out m.hosts.length m.hosts.length hlh;rw [List.take_length] at h1;have:=GZ.out;have:=yJ.out;rw [List.length_append];unfold NZ;omega)
   clear hkc hbc hdc ZL GN HB2 HD2 H0 hb2 JE hx0 H2
   have JE:base≤wc.heap.size:=Nat.le_trans hbase kC.out.size
   go_wp2_with fail
   refine(KG m.globs.length 64 (by omega) vk.out (by have:=oK.out;omega) JE).mono ?_
   rintro e w2 ⟨hk,hcase⟩
   have GN:Hid (Keep K w w2):=AA (kC.out.trans (hk.mono HKK.out.1))
   have HB2:=AA (Um.out.keep hk HKK.out.2)
   rcases hcase with⟨h0,rfl,hd⟩ | ⟨h0,rfl⟩
   case inr=>
    have H0:=AA h0;clear h0 hk
    go_wp2_with fail
    have hX:EE=Ab (decide (m.globs.length≤64)) 20:=by rw [←HE.out];exact Nk HT.out vv.out H0.out (by unfold Eu;rw [Bn H0.out])
    exact⟨rfl,GN.out,.inr ⟨by rw [hX];exact H0.out,by rw [hX]⟩⟩
   have H0:=AA h0;have HD2:=AA hd
   have hb2:base≤w2.heap.size:=Nat.le_trans JE hk.size
   clear h0 hd hk kC Um vk hx1 JE
   have hx0:=HB2.out.q 2 rfl
   generalize hL3:L2++NZ m=L3 at*
   have HL3e:=AA hL3
   clear hL3
   go_upto_block 4 with fail
   go_cut [] (fun wx=>Keep K w wx∧AQ wx w.heap.size 29 (KH A1 A2 A3 A4 A5 A6 c1 c2 c3 c4 c5 c6 m)∧Hd wx base g (w.heap.size+1) K1 m.first 0 m.types (L3++Na m)∧Aa m.globs.length (Gh m)=0)
   case first=>
    clear hx0
    go_wp2_with fail
    go_loopw [90] (fun i wr=> ∃k:Nat,k≤m.globs.length∧i= .int .i64 k∧Keep K w wr∧AQ wr w.heap.size 29 (KH A1 A2 A3 A4 A5 A6 c1 c2 c3 c4 c5 c6 m)∧Hd wr base g (w.heap.size+1) K1 m.first 0 m.types (L3++(enc m.globs.length++(m.globs.take k).flatMap FZ))∧Aa k (Gh m)=0)
     (fun i _=>m.globs.length-(intOf i).toNat)
    case atStart=>exact⟨0,Nat.zero_le _,rfl,GN.out,HB2.out,by simpa using HD2.out,rfl⟩
    case round=>
     obtain⟨k,hk,rfl,hkr,hbr,hdr,her⟩:=hrel
     have eu:=AA hkr;have M6:=AA hbr;have vY:=AA hdr;have Me:=AA her
     have Pk:base≤wr.heap.size:=Nat.le_trans hbase hkr.size
     clear hkr hbr hdr her
     by_cases hltk:k<m.globs.length
     ·obtain⟨x,hx⟩: ∃x,m.globs[k]?=some x:=⟨_,List.getElem?_eq_getElem hltk⟩
      have hr1:=Rd.CB H3.out eu.out hhi (fun j _ h=>Md.out j h)
      obtain⟨b,o,rfl,_,N7,hc0',hc1',hc2',hv64⟩:=Hw hr1 hx
      have Hx:=AA hx
      have hk0:(0:Int)≤k:=by omega
      have R5:Hid ((L3++(enc m.globs.length++(m.globs.take k).flatMap FZ)).length≤270582945000):=AA (by
       have h1:=Ph Cr GZ.out m.globs.length k vw (fun j y hj hy=>(Mc Me.out j y hj hy).2)
       have:=GZ.out
       have h2:=oK.out
       rw [List.length_append];omega)
      clear hr1 hx
      go_wp2_with fail
      generalize hw3:wr.alloc _=w3
      have hb3:Below wr.heap.size wr w3:=by rw [←hw3];exact(Below.refl _ _).alloc (Nat.le_refl _) _
      have GQ:=AA (eu.out.all hb3);have HB3:=AA (M6.out.below hb3 M6.out.lt);have HD3:=AA (vY.out.ES hb3)
      have NH:Hid (AQ w3 wr.heap.size 139 [.int .u8 (x.l.toNat:Int),.bool x.m,.int .u64 (x.v:Int)]):=by rw [←hw3];exact AA (AQ.new wr 139 [.int .u8 (x.l.toNat:Int),.bool x.m,.int .u64 (x.v:Int)])
      have R4:base≤w3.heap.size:=Nat.le_trans Pk hb3.size
      have hn0:=NH.out.q 0 rfl
      have hn1:=NH.out.q 1 rfl
      have hn2:=NH.out.q 2 rfl
      clear hw3 hb3 hc0' hc1' hc2'
      refine(Ko x.l.toNat (UInt8.toNat_lt x.l) w3).mono ?_
      rintro e w4 ⟨rfl,rfl⟩
      go_wp2_with fail
      refine(En _ 15 0 (by decide) _).mono ?_
      rintro e w4 ⟨rfl,⟨h0,rfl⟩ | ⟨h0,rfl⟩⟩
      case inr=>
       have hX:Hid (EE=Ab (MQ x.l.toNat) 15):=AA (by rw [←HE.out];exact Nk HT.out vv.out h0 (Uk H0.out Me.out Hx.out h0 (by rw [R3 Hx.out,Bn h0])))
       have fD:=AA h0;clear h0
       go_wp2_with fail
       exact⟨rfl,GQ.out,.inr ⟨by rw [hX.out];exact fD.out,by rw [hX.out]⟩⟩
      have H15:=AA h0;clear h0
      go_wp2_with fail
      refine(jY x w3).mono ?_
      rintro e w4 ⟨hb4,hcase⟩
      have LH:=AA (GQ.out.all hb4);have Ct:=AA (HB3.out.below hb4 HB3.out.lt);have HD4:=AA (HD3.out.ES hb4);have Qo:=AA (NH.out.below hb4 NH.out.lt)
      have Pm:base≤w4.heap.size:=Nat.le_trans R4 hb4.size
      clear hb4 hn0 hn1 hn2 GQ HB3 HD3 NH R4
      rcases hcase with⟨h0,rfl⟩ | ⟨h0,rfl⟩
      case inr=>
       have hX:Hid (EE=Ab (Du x.v x.l.toNat) 17):=AA (by rw [←HE.out];exact Nk HT.out vv.out h0 (Uk H0.out Me.out Hx.out h0 (by rw [R3 Hx.out,AX H15.out])))
       have fD:=AA h0;clear h0
       go_wp2_with fail
       exact⟨rfl,LH.out,.inr ⟨by rw [hX.out];exact fD.out,by rw [hX.out]⟩⟩
      have H17:=AA h0;clear h0
      have hn0:=Qo.out.q 0 rfl
      have hn1:=Qo.out.q 1 rfl
      have hn2:=Qo.out.q 2 rfl
      go_wp2_with fail
      go_quiet (fail)
      have AB9:Hid (x.v<18446744073709551616):=AA hv64
      have yK:Hid (MQ x.l.toNat=true∧Du x.v x.l.toNat=true):=AA ⟨DX (by decide) H15.out,DX (by decide) H17.out⟩
      generalize Pn:w4.drewN nq=w5
      have hb5:Below w4.heap.size w4 w5:=by rw [←Pn];exact below_drewN (Below.refl _ _) nq
      have Vp:=AA (LH.out.all hb5);have Dv:=AA (Ct.out.below hb5 Ct.out.lt);have HD5:=AA (HD4.out.ES hb5);have QO:=AA (Qo.out.below hb5 Qo.out.lt)
      have R6:base≤w5.heap.size:=Nat.le_trans Pm hb5.size
      have hy0:=QO.out.q 0 rfl
      have hy1:=QO.out.q 1 rfl
      have hy2:=QO.out.q 2 rfl
      clear Pn hb5 hn0 hn1 hn2 LH Ct HD4 Qo Pm hv64
      go_upto_if 104 with fail
      go_cut [11] (fun a wx=>a= .int .u8 (Tf x.m)∧wx=w5)
      case first=>
       cases hm:x.m with
       | true=>rw [hm] at hy1;go_wp2_with fail;go_meet;exact⟨by rw [hm];rfl,rfl⟩
       | false=>rw [hm] at hy1;go_wp2_with fail;go_meet;exact⟨by rw [hm];rfl,rfl⟩
      case rest=>
       obtain⟨rfl,rfl⟩:=hcut
       go_upto_if 107 with fail
       go_cut [12] (fun a wx=>a= .int .i64 (Ej x)∧wx=wc)
       case first=>
        rcases(show x.l.toNat=119∨x.l.toNat=108 from by have:=yK.out.1;unfold MQ at this;simp at this;omega)with hl | hl
        ·have hs:=AA (yF hl (by have:=yK.out.2;unfold Du at this;rw [hl] at this;simpa using this))
         have hb:((x.l.toNat:Int)==119)=true:=by rw [hl];rfl
         clear hl
         go_wp2_with fail
         go_meet
         exact⟨congrArg _ hs.out,rfl⟩
        ·have hs:=AA (j5 hl AB9.out)
         have hb:((x.l.toNat:Int)==119)=false:=by rw [hl];rfl
         clear hl
         go_wp2_with fail
         go_meet
         exact⟨congrArg _ hs.out,rfl⟩
       case rest=>
        obtain⟨rfl,rfl⟩:=hcut
        go_upto_region 31 with fail
        go_cut [] (fun wx=>Keep K w wx∧AQ wx w.heap.size 29 (KH A1 A2 (some ⟨b,o,none⟩) A4 A5 A6 c1 c2 c3 c4 c5 c6 m)∧Hd wx base g (w.heap.size+1) K1 m.first 0 m.types ((L3++(enc m.globs.length++(m.globs.take k).flatMap FZ))++ [x.l,if x.m then 1 else 0]))
        case first=>
         have HT0:=HD5.out
         obtain⟨T,d,s1,⟨A,c,s2⟩,s3,s4,s5⟩:=HT0
         have hg0:=s2.blk.q 2 rfl
         have hgl:g<wc.heap.size:=s2.blk.lt
         have hgf:=s2.blk.frozen 2
         have hwl:wr.heap.size<wc.heap.size:=QO.out.lt
         have oJ:=AA s1;have ak:=AA s2;have vg:=AA s4;have qV:=AA s5
         clear s1 s2 s4 s5 hy1 hy2
         generalize Tg:L3++(enc m.globs.length++(m.globs.take k).flatMap FZ)=LL at*
         have Vr:=AA Tg
         clear Tg
         obtain⟨i0,hi0,hz,hs',hby⟩:=info_parts Dt
         have R7:Below wc.heap.size wc (wc.drew.alloc (.cells #[.int .u8 (x.l.toNat:Int),.int .u8 (Tf x.m)] 5)):=Below.alloc (show Below wc.heap.size wc wc.drew from⟨rfl,rfl,rfl,Nat.le_refl _,fun _ _=>rfl⟩) (Nat.le_refl _) _
         have ZM:=AA (ak.out.ES R7)
         have AB_:=AA (oJ.out.keep (K:=K1) (Keep.DC R7))
         have EY:=AA (Vp.out.all R7)
         have LM:=AA (Dv.out.below R7 Dv.out.lt)
         have HNE:Hid ([.int .u8 (x.l.toNat:Int),.int .u8 (Tf x.m)]= [x.l,if x.m then 1 else 0].map bv):=AA (by rw [List.map_cons,List.map_cons,qR];rfl)
         have hrow2:Hid (Row (wc.drew.alloc (.cells #[.int .u8 (x.l.toNat:Int),.int .u8 (Tf x.m)] 5)) (wc.heap.size+1) (some ⟨wc.heap.size,0,none⟩) [.int .u8 (x.l.toNat:Int),.int .u8 (Tf x.m)]):=AA (by have:=(AQ.new wc.drew 5 [.int .u8 (x.l.toNat:Int),.int .u8 (Tf x.m)]).row 0 2;exact this)
         have hszA:base≤(wc.drew.alloc (.cells #[.int .u8 (x.l.toNat:Int),.int .u8 (Tf x.m)] 5)).heap.size:=Nat.le_trans R6 R7.size
         have hgA:=ZM.out.blk.lt
         clear R7
         generalize hwA:wc.drew.alloc (.cells #[.int .u8 (x.l.toNat:Int),.int .u8 (Tf x.m)] 5)=wA at ZM AB_ EY LM hrow2 hszA hgA
         have hcA:=ZM.out.blk.q 2 rfl
         go_region_law (refine F6 rfl (.tmp 116) (.tmp 120) 40 rfl base 5 i0 _ 1 underlying40 hi0 hz hs' hby rfl _ LL.length (LL.map bv) rfl (by exact ZM.out.own) _ (some ⟨wc.heap.size,0,none⟩) 2 2 [.int .u8 (x.l.toNat:Int),.int .u8 (Tf x.m)] (by omega) rfl rfl (by exact hrow2.out) (by intro u hu;simp at hu;rcases hu with rfl | rfl<;>rfl) (by have:=R5.out;unfold maxLen;omega) (by have:=R5.out;omega) (by exact hszA) ?_;intro A4 c4 w6 h2 h3 h4;rw [HNE.out] at h2;have HP:=AA (ZM.out.put (m:=2) rfl h3 h2 h4);have hb6:=Ay h3 ZM.out.blk (fun e=>(ZM.out.apart g e).2 rfl);have hf6:=hb6.frozen 2;have hc6:=hb6.cell 2;clear h2 h3 h4 hb6)
         all_goals
          have HH:=AA (Hd.of AB_.out s3 vg.out qV.out HP.out.1 HP.out.2)
          clear HP hf6 hc6
          go_wp2_with fail
          go_meet
          exact⟨EY.out.trans (HH.out.1.mono HKK.out.1),LM.out.keep HH.out.1 HKK.out.2,HH.out.2⟩
        case rest=>
         obtain⟨L8,hb6,hd6⟩:=hcut
         obtain⟨T,d,s1,⟨A,c,s2⟩,s3,s4,s5⟩:=hd6
         have Ul:=AA L8;have EL:=AA hb6
         generalize Tg:(L3++(enc m.globs.length++(m.globs.take k).flatMap FZ))++ [x.l,if x.m then 1 else 0]=LL at*
         have Vr:=AA Tg
         have HLn:Hid (LL.length≤270582945002):=AA (by rw [←Tg,List.length_append];have:=R5.out;simp only [List.length_cons,List.length_nil];omega)
         have hg2:=s2.blk.q 2 rfl
         have hgf:=s2.blk.frozen 2
         have Nl:base≤wc.heap.size:=Nat.le_trans hbase L8.size
         have oJ:=AA s1;have ak:=AA s2;have vg:=AA s4;have qV:=AA s5
         have hsb:=OW AB9.out yK.out.2
         have NI:=AY (folded (Ej x)) (Gq _ hsb.1 hsb.2)
         obtain⟨i0,hi0,hz,hs',hby⟩:=info_parts Dt
         clear Tg s1 s2 s4 s5 L8 hb6 Vp Dv HD5 QO R6
         go_wp2_with fail
         go_region_law (first
          | (go_simp;go_at_call 157;refine(Uf (Ej x) hsb.1 hsb.2 _).mono ?_;rintro e w7 ⟨A7,c7,rfl,h2,h3⟩;have Q9:Below wc.heap.size wc w7:=⟨h3.os,h3.tape,h3.output,h3.size,h3.block⟩;have QS:=AA (Row.own h2);have fE:=AA (ak.out.ES Q9);have Hs17:=AA (oJ.out.keep (K:=K1) (Keep.DC Q9));have vZ:=AA (Ul.out.all Q9);have TP:=AA (EL.out.below Q9 EL.out.lt);have j_:base≤w7.heap.size:=Nat.le_trans Nl Q9.size;have hc7:=fE.out.blk.q 2 rfl;have hf7:=fE.out.blk.frozen 2;clear h2 h3 Q9)
          | (refine F6 rfl (.tmp 128) (.tmp 130) 40 rfl base 5 i0 _ 1 underlying40 hi0 hz hs' hby rfl _ LL.length (LL.map bv) rfl (by exact fE.out.own) _ A7 (enc (folded (Ej x))).length c7 ((enc (folded (Ej x))).map bv) (FC _) rfl (by rw [List.length_map,Nat.mul_one]) (by exact QS.out) (Eh _) (by have:=HLn.out;unfold maxLen;omega) (by have:=HLn.out;omega) j_ ?_;intro A8 c8 w8 h2 h3 h4;have HP:=AA (fE.out.put rfl h3 h2 h4);have PE:=Ay h3 fE.out.blk (fun e=>(fE.out.apart g e).2 rfl);have hf8:=PE.frozen 2;have hc8:=PE.cell 2;clear h2 h3 h4 PE))
         all_goals
          have HH:=AA (Hd.of Hs17.out s3 vg.out qV.out HP.out.1 HP.out.2)
          have HN:Hid (Aa (k+1) (Gh m)=0):=AA (CQ Me.out (by rw [R3 Hx.out,AX H15.out];exact H17.out))
          have HF:Hid (LL++enc (folded (Ej x))=L3++(enc m.globs.length++(m.globs.take (k+1)).flatMap FZ)):=AA (by rw [EH Hx.out,←Vr.out];unfold FZ;simp only [List.append_assoc])
          clear HP hf8 hc8 hc7 hf7
          go_wp2_with fail
          refine⟨⟨k+1,by omega,by go_num,vZ.out.trans (HH.out.1.mono HKK.out.1),TP.out.keep HH.out.1 HKK.out.2,?_,HN.out⟩,by simp [intOf];omega⟩
          rw [←HF.out]
          exact HH.out.2
     ·obtain rfl:k=m.globs.length:=by omega
      go_wp2_with fail
      go_meet
      refine⟨eu.out,M6.out,?_,Me.out⟩
      have:=vY.out
      rw [List.take_length] at this
      exact this
   case rest=>
    obtain⟨hkc,hbc,hdc,ZL⟩:=hcut
    have oM:Hid (Eu m=0):=AA (by unfold Eu;rw [AX H0.out];exact ZL)
    have ZN:Hid (EE=FP m):=AA (by rw [←HE.out];exact ZK HT.out vv.out oM.out)
    have kC:=AA hkc;have Um:=AA hbc;have vk:=AA hdc
    have JE:base≤wc.heap.size:=Nat.le_trans hbase hkc.size
    have HL4:Hid ((L3++Na m).length≤270582945000):=AA (by have h1:=Ph Cr GZ.out m.globs.length m.globs.length vw (fun j y hj hy=>(Mc ZL j y hj hy).2);rw [List.take_length] at h1;have:=GZ.out;have:=oK.out;rw [List.length_append];unfold Na;omega)
    have hz3:=hbc.q 3 rfl
    have hz4:=hbc.q 4 rfl
    clear hkc hbc hdc ZL GN HB2 HD2 H0 hb2 hx0 H3
    by_cases hbad: ¬(0≤m.first∧m.first≤64)
    ·have hX:Hid (EE=17):=AA (by rw [ZN.out];unfold FP;exact Bw (decide_eq_false (fun h=>hbad ⟨h.1,h.2.1⟩)))
     by_cases hneg:m.first<0
     ·have d0:decide (0≤m.first)=false:=decide_eq_false (by omega)
      clear hbad
      go_wp2_with fail
      refine(DF 17 0 _).mono ?_
      rintro e w6 ⟨rfl,rfl⟩
      go_wp2_with fail
      exact⟨rfl,kC.out,.inr ⟨by rw [hX.out];decide,by rw [hX.out]⟩⟩
     ·have d0:decide (0≤m.first)=true:=decide_eq_true (by omega)
      have d1:decide (m.first≤64)=false:=decide_eq_false (by omega)
      have hnn:0≤m.first:=by omega
      clear hbad hneg
      go_wp2_with fail
      refine(DF 17 0 _).mono ?_
      rintro e w6 ⟨rfl,rfl⟩
      go_wp2_with fail
      exact⟨rfl,kC.out,.inr ⟨by rw [hX.out];decide,by rw [hX.out]⟩⟩
    have hfi:0≤m.first∧m.first≤64:=Decidable.not_not.1 hbad
    have d0:decide (0≤m.first)=true:=decide_eq_true hfi.1
    have d1:decide (m.first≤64)=true:=decide_eq_true hfi.2
    have hnn:=hfi.1
    obtain⟨n1,hn1⟩:=Int.eq_ofNat_of_zero_le hfi.1
    have xk:Hid (m.first=(n1:Int)∧n1≤64):=AA ⟨hn1,by omega⟩
    clear hn1
    clear hbad
    go_wp2_with fail
    refine(Dl 17 0 _).mono ?_
    rintro e w6 ⟨rfl,rfl⟩
    go_wp2_with fail
    have hcl:=Ma n1 (by have:=xk.out.2;omega) vk.out (by have:=HL4.out;omega) JE
    rw [←xk.out.1] at hcl
    refine hcl.mono ?_
    clear hcl
    rintro e w6 ⟨rfl,L8,hd6⟩
    have Ul:=AA (kC.out.trans (L8.mono HKK.out.1));have EL:=AA (Um.out.keep L8 HKK.out.2);have HD6:=AA hd6
    have Nl:base≤w6.heap.size:=Nat.le_trans JE L8.size
    have hy3:=EL.out.q 3 rfl
    have hy4:=EL.out.q 4 rfl
    clear L8 hd6 kC Um vk hz3 hz4
    by_cases hbad: ¬(m.first≤m.most∧m.most≤64)
    ·have hX:Hid (EE=17):=AA (by rw [ZN.out];unfold FP;exact Bw (decide_eq_false (fun h=>hbad ⟨h.2.2.1,h.2.2.2⟩)))
     by_cases hneg:m.most<m.first
     ·have e0:decide (m.first≤m.most)=false:=decide_eq_false (by omega)
      clear hbad
      go_wp2_with fail
      refine(DF 17 0 _).mono ?_
      rintro e w7 ⟨rfl,rfl⟩
      go_wp2_with fail
      exact⟨rfl,Ul.out,.inr ⟨by rw [hX.out];decide,by rw [hX.out]⟩⟩
     ·have e0:decide (m.first≤m.most)=true:=decide_eq_true (by omega)
      have e1:decide (m.most≤64)=false:=decide_eq_false (by omega)
      have hmm:m.first≤m.most:=by omega
      clear hbad hneg
      go_wp2_with fail
      refine(DF 17 0 _).mono ?_
      rintro e w7 ⟨rfl,rfl⟩
      go_wp2_with fail
      exact⟨rfl,Ul.out,.inr ⟨by rw [hX.out];decide,by rw [hX.out]⟩⟩
    have hmo:m.first≤m.most∧m.most≤64:=Decidable.not_not.1 hbad
    have hX:Hid (EE=0):=AA (by rw [ZN.out];unfold FP;exact BQ (decide_eq_true ⟨hfi.1,hfi.2,hmo.1,hmo.2⟩))
    have e0:decide (m.first≤m.most)=true:=decide_eq_true hmo.1
    have e1:decide (m.most≤64)=true:=decide_eq_true hmo.2
    have hmm:=hmo.1
    obtain⟨n2,hn2⟩:=Int.eq_ofNat_of_zero_le (show 0≤m.most by omega)
    have Hn2:Hid (m.most=(n2:Int)∧n2≤64):=AA ⟨hn2,by omega⟩
    clear hn2
    clear hbad
    go_wp2_with fail
    refine(Dl 17 0 _).mono ?_
    rintro e w7 ⟨rfl,rfl⟩
    go_wp2_with fail
    have hcl:=Ma n2 (by have:=Hn2.out.2;omega) HD6.out (by have:=HL4.out;have:=AY n1 (by have:=xk.out.2;omega);rw [List.length_append];omega) Nl
    rw [←Hn2.out.1] at hcl
    refine hcl.mono ?_
    clear hcl
    rintro e w7 ⟨rfl,Xj,hd7⟩
    have vZ:=AA (Ul.out.trans (Xj.mono HKK.out.1));have HD7:=AA (hd7.less HKK.out.1)
    clear Xj hd7 Ul EL HD6 hy3 hy4
    go_wp2_with fail
    go_end0
    refine⟨vZ.out,.inl ⟨hX.out,rfl,w.heap.size+1,?_⟩⟩
    have hfin:l++NA m=L3++Na m++enc n1++enc n2:=by
     unfold NA
     rw [xk.out.1,Hn2.out.1,←HL3e.out,←HL2.out]
     simp only [List.append_assoc,Int.toNat_natCast]
    rw [hfin]
    exact HD7.out
end Go.Proofs.YtlagonfamllgjaaGreatDoor
