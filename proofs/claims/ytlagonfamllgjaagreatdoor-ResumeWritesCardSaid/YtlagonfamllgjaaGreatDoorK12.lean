/- Part 12 of the proof: ModH -/
import Derived.Test.YtlagonfamllgjaaGreatDoorK08
import Derived.Test.YtlagonfamllgjaaGreatDoorK11
namespace Go.Proofs.YtlagonfamllgjaaGreatDoor
set_option linter.unusedVariables false
set_option linter.unusedSimpArgs false
set_option maxRecDepth 100000
set_option maxHeartbeats 4000000
open Go.RowKit Tryz
theorem Nr (v:Value) (s:ByteArray) (most:Int) (h47:s.size≤140737488351232) (w:World) (h:CK s most=0):
 Calls prog 152 #[v,.string s,.int .i64 most,.int .i64 0] w fun e w'=>Below w.heap.size w w'∧e= .returned (.tuple #[]):=
 (OJ v s most h47 w).mono fun e w' ⟨h1,h2⟩=>⟨h1,h2.elim (fun h3=>h3.2) (fun h3=>absurd h h3.1)⟩
theorem Ns (v:Value) (s:ByteArray) (most:Int) (h47:s.size≤140737488351232) (w:World) (h:CK s most≠0):
 Calls prog 152 #[v,.string s,.int .i64 most,.int .i64 0] w fun e w'=>Below w.heap.size w w'∧e= .panicked (thrown (CK s most) 0):=
 (OJ v s most h47 w).mono fun e w' ⟨h1,h2⟩=>⟨h1,h2.elim (fun h3=>absurd h3.1 h) (fun h3=>h3.2)⟩
theorem Da {b:Bool} {e:Int} (he:e≠0) (h:Ae b e=0):b=true:=by
 cases b with
 | true=>rfl
 | false=>exact absurd h he
theorem FP {s:ByteArray} {most:Int} (h:CK s most=0):(s.size:Int)≤most∧ZR s=true:=by
 unfold CK at h
 have:=AV h
 exact⟨of_decide_eq_true (Da (by decide) this.1),Da (by decide) this.2⟩
theorem OL {m:AP} {k:Nat} {x:Cg} (h0:Ae (decide (m.types.length≤64)) 20=0) (he:Aa k (ZA m.types)=0) (hx:m.types[k]?=some x) {v:Int} (hv:v≠0) (ht:ZA m.types k=v):I4 m=v:=by
 have hk:=(List.getElem?_eq_some_iff.1 hx).1
 have h1:Dl m=v:=by
  unfold Dl
  rw [AY h0,Dc he (by rw [ht];exact hv) _ hk,ht]
 unfold I4
 rw [Br (by rw [h1];exact hv),h1]
theorem Sb {m:AP} (ht:Dl m=0) {v:Int} (hv:v≠0) (hh:Dv m=v):I4 m=v:=by
 unfold I4
 rw [AY ht,Br (by rw [hh];exact hv),hh]
theorem Xx {m:AP} {k:Nat} {t:Int} (hx:m.hosts[k]?=some t):IE m k=Ae (decide (0≤t∧t<m.types.length)) 30:=by
 unfold IE;rw [hx]
theorem gD {m:AP} {k:Nat} {t:Int} (h0:Ae (decide (m.hosts.length≤32)) 20=0) (he:Aa k (IE m)=0) (hx:m.hosts[k]?=some t) (hv:IE m k≠0):Dv m=IE m k:=by
 unfold Dv
 rw [AY h0,Dc he hv _ (List.getElem?_eq_some_iff.1 hx).1]
theorem OM {m:AP} (ht:Dl m=0) (hh:Dv m=0) {v:Int} (hv:v≠0) (hg:FK m=v):I4 m=v:=by
 unfold I4
 rw [AY ht,AY hh,Br (by rw [hg];exact hv),hg]
theorem Sc {m:AP} {k:Nat} {x:ED} (hx:m.globs[k]?=some x):IG m k=Cq (Ae (M9 x.l.toNat) 15) (Ae (Dr x.v x.l.toNat) 17):=by
 unfold IG;rw [hx]
theorem U5 {m:AP} {k:Nat} {x:ED} (h0:Ae (decide (m.globs.length≤64)) 20=0) (he:Aa k (IG m)=0) (hx:m.globs[k]?=some x) {v:Int} (hv:v≠0) (hg:IG m k=v):FK m=v:=by
 unfold FK
 rw [AY h0,Dc he (by rw [hg];exact hv) _ (List.getElem?_eq_some_iff.1 hx).1,hg]
theorem Zq {m:AP} (ht:Dl m=0) (hh:Dv m=0) (hg:FK m=0):I4 m=Fu m:=by
 unfold I4
 rw [AY ht,AY hh,AY hg]
theorem QG {l:List Cg} {k:Nat} {x:Cg} (hx:l[k]?=some x):ZA l k=Cq (CK x.p 8) (Cq (CK x.r 8) (Ae (!(l.take k).any (fun y=>KW y x)) 16)):=by
 unfold ZA;rw [hx]
def UQ (b:Bool):Int:=if b then 1 else 0
theorem sj (b:Bool):bv (if b then 1 else 0)= .int .u8 (UQ b):=by cases b<;>rfl
theorem l7 {x:ED} (h:x.l.toNat=108) (hv:x.v<18446744073709551616):wrap64 (x.v:Int)=E_ x:=by
 unfold E_
 rw [if_neg (by omega)]
 unfold wrap64
 split<;>omega
theorem zx {x:ED} (h:x.l.toNat=119) (hv:x.v<4294967296):wrap64 (wrap32 (x.v:Int))=E_ x:=by
 unfold E_ wrap64 wrap32
 split
 ·omega
 ·split<;>omega
def Kj (A1 A2 A3 A4 A5 A6:Option Addr) (c1 c2 c3 c4 c5 c6:Nat) (m:AP):List Value:=
 [.slice A1 m.types.length c1,.slice A2 m.hosts.length c2,.slice A3 m.globs.length c3,.int .i64 m.first,.int .i64 m.most,.slice A4 m.fns.length c4,.slice A5 m.dat.length c5,.slice A6 m.Au.length c6]
def yD (first:Int):List Value:= [.slice none 0 0,.slice none 0 0,.slice none 0 0,.int .i64 first,.int .i64 0,.slice none 0 0,.slice none 0 0,.slice none 0 0]
theorem gF {w:World} {base g:Nat} {K:Nat→Prop} {all first:Int} {l:List UInt8} (cs:Array Value) (h:Wr w base g K (.pointer none) all l) (hbase:base≤w.heap.size) {W:World}
 (hW:(((w.setCell ⟨g,0,none⟩ (.pointer (some ⟨w.heap.size+1,0,none⟩))).alloc (.cells cs 29)).alloc (.cells (yD first).toArray 29))=W):
 Keep K w W∧AQ W w.heap.size 29 cs.toList∧Hd W base g (w.heap.size+1) (fun k=>K k∨k=w.heap.size) first all [] l∧w.heap.size≤W.heap.size:=by
 obtain⟨A,c,h⟩:=h
 have hg:=h.blk.lt
 have hs0:(w.setCell ⟨g,0,none⟩ (.pointer (some ⟨w.heap.size+1,0,none⟩))).heap.size=w.heap.size:=by simp [World.setCell]
 have hs:((w.setCell ⟨g,0,none⟩ (.pointer (some ⟨w.heap.size+1,0,none⟩))).alloc (.cells cs 29)).heap.size=w.heap.size+1:=by simp [World.setCell]
 have hsn:=AQ.new ((w.setCell ⟨g,0,none⟩ (.pointer (some ⟨w.heap.size+1,0,none⟩))).alloc (.cells cs 29)) 29 (yD first)
 have hbn:=AQ.new (w.setCell ⟨g,0,none⟩ (.pointer (some ⟨w.heap.size+1,0,none⟩))) 29 cs.toList
 rw [hs,hW] at hsn
 rw [hs0] at hbn
 have hWs:W.heap.size=w.heap.size+2:=by rw [←hW];simp [World.setCell]
 refine⟨by rw [←hW];exact(((Keep.refl K w).setCell h.kg _).alloc _).alloc _,by rw [←hW];exact hbn.alloc _,⟨none,0,⟨hsn,World.ownsRow_nil _ _ _ _,by simp⟩,⟨A,c,?_,?_,h.low,?_,?_,?_⟩,by omega,?_,by simp [Value.ownBlock]⟩,by omega⟩
 ·rw [←hW];exact((h.blk.set 0 _).alloc _).alloc _
 ·rw [←hW];exact((h.own.kW (fun e=>(h.apart g e).2 rfl) _).alloc _).alloc _
 ·rintro((e | e) | e | e)
  ·exact h.kg e
  ·omega
  ·omega
  ·cases e
 ·intro k hk
  refine⟨?_,(h.apart k hk).2⟩
  have:=(h.own.lt k hk).2
  rintro((e | e) | e | e)
  ·exact(h.apart k hk).1 e
  ·omega
  ·omega
  ·cases e
 ·intro k hk
  rw [hWs]
  rcases hk with(e | e) | e | e
  ·have:=h.lt k e;omega
  ·omega
  ·omega
  ·cases e
 ·rintro(e | e)
  ·have:=h.lt _ e;omega
  ·omega
theorem sw (cs:List Value) (hi base g:Nat) (K:Nat→Prop) (m:AP) (l:List UInt8) (w:World) (h:DJ.R w 0 hi cs m) (hhi:hi≤w.heap.size) (hK: ∀k,k<hi→K k) (hw:Wr w base g K (.pointer none) 0 l) (hbase:base≤w.heap.size) (hle:Bg m≤2147483647) (Df:FN m) (hl:l.length≤1000):
 Calls prog 128 #[.pointer (some ⟨g,0,none⟩),.agg cs.toArray] w fun e w'=>Keep K w w'∧MX (I4 m) e (∃gs,Hd w' base g gs K m.first 0 m.types (l++Nq m)):=by
 generalize Xk:I4 m=EE
 have HE:=AA Xk
 clear Xk
 obtain⟨v1,v2,v3,v4,v5,v6,rfl,h1,h2,h3,hf63,hm63,h4,h5,h6⟩:=Am.1 h
 obtain⟨A1,c1,rfl⟩:=AB h1
 obtain⟨A2,c2,rfl⟩:=AB h2
 obtain⟨A3,c3,rfl⟩:=AB h3
 obtain⟨A4,c4,rfl⟩:=AB h4
 obtain⟨A5,c5,rfl⟩:=AB h5
 obtain⟨A6,c6,rfl⟩:=AB h6
 have H1:=AA h1;have H2:=AA h2;have H3:=AA h3;have NM:=AA hK;have HW0:=AA hw;have I7:=AA hle
 clear h h1 h2 h3 h4 h5 h6 hK hle
 have hc0:w.cell? ⟨g,0,none⟩=some (.pointer none):=by obtain⟨A,c,hw⟩:=hw;exact hw.blk.cell 0
 have hg:g<w.heap.size:=by obtain⟨A,c,hw⟩:=hw;exact hw.blk.lt
 have hf0:w.frozen? ⟨g,0,none⟩=false:=by obtain⟨A,c,hw⟩:=hw;exact hw.blk.frozen 0
 clear hw
 go_enter func128,ntmps128
 go_wp2_with fail
 generalize hw1:((w.setCell _ _).alloc _).alloc _=w1
 obtain⟨i1,i2,i3,i4⟩:=gF _ HW0.out hbase hw1
 have Pt:=AA i1;have HB1:=AA i2;have HD1:=AA i3
 have hb1:base≤w1.heap.size:=Nat.le_trans hbase i4
 clear hw1 i1 i2 i3 i4
 generalize hK1:(fun k=>K k∨k=w.heap.size)=K1 at*
 have HKK:Hid ((∀k,K k→K1 k)∧K1 w.heap.size):=AA (by rw [←hK1];exact⟨fun k h=> .inl h,.inr rfl⟩)
 clear hK1
 have hlt:m.types.length≤2147483647:=by have:=I7.out;unfold Bg at this;omega
 refine(Ki m.types.length 64 (by omega) HD1.out (by omega) hb1).mono ?_
 rintro e w2 ⟨hk,hcase⟩
 have Iu:Hid (Keep K w w2):=AA (Pt.out.trans (hk.mono HKK.out.1))
 have HB2:=AA (HB1.out.keep hk HKK.out.2)
 rcases hcase with⟨h0,rfl,hd⟩ | ⟨h0,rfl⟩
 case inr=>
  have H0:=AA h0;clear h0 hk
  go_wp2_with fail
  have hX:=HE.out
  unfold I4 Dl at hX
  rw [Br (by rw [Br H0.out];exact H0.out),Br H0.out] at hX
  exact⟨rfl,Iu.out,.inr ⟨by rw [←hX];exact H0.out,by rw [←hX]⟩⟩
 have H0:=AA h0;have HD2:=AA hd
 have hb2:base≤w2.heap.size:=Nat.le_trans hb1 hk.size
 clear h0 hd hk Pt HB1 HD1
 have hx0:=HB2.out.cell 0
 go_upto_block 0 with fail
 go_cut [] (fun wx=>Keep K w wx∧AQ wx w.heap.size 29 (Kj A1 A2 A3 A4 A5 A6 c1 c2 c3 c4 c5 c6 m)∧Hd wx base g (w.heap.size+1) K1 m.first 0 m.types (l++N8 m)∧Aa m.types.length (ZA m.types)=0)
 case first=>
  clear hx0
  go_wp2_with fail
  go_loopw [28] (fun i wr=> ∃k:Nat,k≤m.types.length∧i= .int .i64 k∧Keep K w wr∧AQ wr w.heap.size 29 (Kj A1 A2 A3 A4 A5 A6 c1 c2 c3 c4 c5 c6 m)∧Hd wr base g (w.heap.size+1) K1 m.first 0 (m.types.take k) (l++(enc m.types.length++(m.types.take k).flatMap Lx))∧Aa k (ZA m.types)=0)
   (fun i _=>m.types.length-(intOf i).toNat)
  case atStart=>exact⟨0,Nat.zero_le _,rfl,Iu.out,HB2.out,by simpa using HD2.out,rfl⟩
  case round=>
   obtain⟨k,hk,rfl,hkr,hbr,hdr,her⟩:=hrel
   have gG:=AA hkr;have Nj:=AA hbr;have yE:=AA hdr;have NP:=AA her
   have QH:base≤wr.heap.size:=Nat.le_trans hbase hkr.size
   clear hkr hbr hdr her
   by_cases hltk:k<m.types.length
   ·obtain⟨x,hx⟩: ∃x,m.types[k]?=some x:=⟨_,List.getElem?_eq_getElem hltk⟩
    have hr1:=Rd.C8 H1.out gG.out hhi (fun j _ h=>NM.out j h)
    obtain⟨b,o,rfl,_,Oe,hc0',hc1',hop,hor⟩:=CZ hr1 hx
    have Hx:=AA hx
    have hk0:(0:Int)≤k:=by omega
    clear hr1 hx
    go_wp2_with fail
    generalize hw3:wr.alloc _=w3
    have hb3:Below wr.heap.size wr w3:=by rw [←hw3];exact(Below.refl _ _).alloc (Nat.le_refl _) _
    have Lp:=AA (gG.out.all hb3);have l8:=AA (Nj.out.below hb3 Nj.out.lt);have HD3:=AA (yE.out.box hb3 (by rw [←hw3];simp))
    generalize hK2:(fun j=>K1 j∨j=wr.heap.size)=K2 at HD3
    have EO:Hid ((∀j,K1 j→K2 j)∧K2 wr.heap.size):=AA (by rw [←hK2];exact⟨fun j h=> .inl h,.inr rfl⟩)
    have Sd:base≤w3.heap.size:=Nat.le_trans QH hb3.size
    clear hK2
    have Nt:Hid (AQ w3 wr.heap.size 93 [.string x.p,.string x.r]):=by rw [←hw3];exact AA (AQ.new wr 93 [.string x.p,.string x.r])
    have hn0:=Nt.out.q 0 rfl
    clear hw3 hb3 hc0' hc1'
    by_cases hp:CK x.p 8=0
    case neg=>
     have hX:Hid (EE=CK x.p 8):=AA (by rw [←HE.out];exact OL H0.out NP.out Hx.out hp (by rw [QG Hx.out,Br hp]))
     have Hp:=AA hp;clear hp
     go_region_dies
     all_goals
      refine(Ns _ x.p 8 hop _ Hp.out).mono ?_
      rintro e w4 ⟨hb4,rfl⟩
      exact⟨rfl,Lp.out.all (Ce hb4),.inr ⟨by rw [hX.out];exact Hp.out,by rw [hX.out]⟩⟩
    have Hp:=AA hp;clear hp
    go_region_held3 (fun w'=>w'.cell? ⟨wr.heap.size,0,none⟩=some (.string x.p)) (first | exact hn0 | assumption)
     (first | (go_at_call 152;refine(Nr _ x.p 8 hop _ Hp.out).mono ?_;rintro e w4 ⟨hb4,rfl⟩;have hb4:=Ce hb4;have C9:=AA hb4;have hn4:=(Nt.out.below hb4 Nt.out.lt).q 0 rfl;clear hb4))
    have UR:=AA (Lp.out.all C9.out);have HBy:=AA (l8.out.below C9.out l8.out.lt);have HD4:=AA (HD3.out.Ee C9.out);have RD:=AA (Nt.out.below C9.out Nt.out.lt)
    have QI:base≤w4.heap.size:=Nat.le_trans Sd C9.out.size
    have hsz:x.p.size≤8∧x.r.size≤2147483647:=⟨by have:=(FP Hp.out).1;omega,by have:=C_ (fun t:Cg=>t.p.size+t.r.size) m.types x (List.mem_of_getElem? Hx.out);have:=I7.out;unfold Bg at this;omega⟩
    have hLk:=QD Df I7.out m.types.length k hlt
    have hLE:=I7.out
    have Sg:Hid ((l++(enc m.types.length++(m.types.take k).flatMap Lx)).length≤90194315000):=AA (by rw [List.length_append];omega)
    have HLp:Hid ((Fp x.p).length≤20):=AA (by have:=Gf (s:=x.p) (by omega);omega)
    clear C9 Lp l8 HD3 Nt hLk hLE QH Sd hn0
    go_wp2_with fail
    refine(O5 x.p (by omega) HD4.out (by have:=Sg.out;omega) QI).mono ?_
    rintro e w5 ⟨rfl,hk5,hd5⟩
    have l9:=AA (UR.out.trans (hk5.mono fun j h=>EO.out.1 j (HKK.out.1 j h)));have HBz:=AA (HBy.out.keep hk5 (EO.out.1 _ HKK.out.2));have HD5:=AA hd5;have Qr:=AA (RD.out.keep hk5 EO.out.2)
    have Si:base≤w5.heap.size:=Nat.le_trans QI hk5.size
    have hm1:=Qr.out.q 1 rfl
    clear hk5 hd5 UR HBy HD4 RD QI hn4
    go_wp2_with fail
    by_cases hp:CK x.r 8=0
    case neg=>
     have hX:Hid (EE=CK x.r 8):=AA (by rw [←HE.out];exact OL H0.out NP.out Hx.out hp (by rw [QG Hx.out,AY Hp.out,Br hp]))
     have Hp:=AA hp;clear hp
     go_region_dies
     all_goals
      refine(Ns _ x.r 8 hor _ Hp.out).mono ?_
      rintro e w6 ⟨hb6,rfl⟩
      exact⟨rfl,l9.out.all (Ce hb6),.inr ⟨by rw [hX.out];exact Hp.out,by rw [hX.out]⟩⟩
    have Hr:=AA hp;clear hp
    go_region_held3 (fun w'=>w'.cell? ⟨wr.heap.size,1,none⟩=some (.string x.r)) (first | exact hm1 | assumption)
     (first | (go_at_call 152;refine(Nr _ x.r 8 hor _ Hr.out).mono ?_;rintro e w6 ⟨hb6,rfl⟩;have hb6:=Ce hb6;have FQ:=AA hb6;have gH:=(Qr.out.below hb6 Qr.out.lt).q 1 rfl;clear hb6))
    have bZ:=AA (l9.out.all FQ.out);have HBu:=AA (HBz.out.below FQ.out HBz.out.lt);have HD6:=AA (HD5.out.Ee FQ.out);have gI:=AA (Qr.out.below FQ.out Qr.out.lt)
    have OO:base≤w6.heap.size:=Nat.le_trans Si FQ.out.size
    have HLr:Hid ((Fp x.r).length≤2147483700):=AA (by have:=Gf (s:=x.r) (by omega);omega)
    clear FQ l9 HBz HD5 Qr Si hm1
    go_wp2_with fail
    refine(O5 x.r (by omega) HD6.out (by have:=Sg.out;have:=HLp.out;rw [List.length_append];omega) OO).mono ?_
    rintro e w7 ⟨rfl,Xy,hd7⟩
    have yF:=AA (bZ.out.trans (Xy.mono fun j h=>EO.out.1 j (HKK.out.1 j h)));have HBv:=AA (HBu.out.keep Xy (EO.out.1 _ HKK.out.2));have zy:=AA (gI.out.keep Xy EO.out.2)
    have HD7:=AA (hd7.less EO.out.1)
    have mD:base≤w7.heap.size:=Nat.le_trans OO Xy.size
    clear Xy hd7 bZ HBu HD6 gI OO gH EO
    have hq0:=zy.out.q 0 rfl
    have hq1:=zy.out.q 1 rfl
    have z8:(m.types.take k).length=k:=by rw [List.length_take];omega
    generalize hts:m.types.take k=ts at HD7 z8
    have Hts:=AA hts
    have hTk:=AA z8
    clear hts z8
    obtain⟨T,d,s1,s2,s3,s4,s5⟩:=HD7.out
    have hs0:=s1.blk.q 0 rfl
    have hsl:=s1.blk.lt
    have hsf:=s1.blk.frozen 0
    have qj:=AA s1;have ZC:=AA s2;have tC:=AA s5;have yG:=AA s4
    clear s1 s2 s4 s5 HD7
    obtain⟨i0,z0,hi0,hz,hs',hby,hzz⟩:=info_parts' Rx
    go_wp2_with (at_builtin;refine BP _ rfl (.tmp 53) (.tmp 55) 22 rfl base 93 i0 z0 2 32 underlying22 hi0 hz hs' hby hzz (by omega) (.slice T ts.length d) ts.length (ts.flatMap Ov) rfl (qj.out.own.alloc _) (w7.heap.size+1) (some ⟨w7.heap.size,0,none⟩) 1 1 (Ov x) rfl rfl (by have:=(AQ.new w7 93 (Ov x)).row 0 2;exact this) (by intro u hu;unfold Ov at hu;simp at hu;rcases hu with rfl | rfl<;>rfl) (by rw [hTk.out];unfold maxLen;omega) (by rw [hTk.out];omega) (by simp;omega) ?_;intro A8 c8 w8 g2 g3 g4;have Nk:=(g3.block (w.heap.size+1) (by simp;omega) (fun e=>(tC.out _ e.symm).2 rfl)).trans (qj.out.blk.alloc (.cells (Ov x).toArray 93));have hc8:=AQ.cell Nk 0;have hf8:=AQ.frozen Nk 0;have G2:=AA g2;have G3:=AA g3;have G4:=AA g4;clear g2 g3 g4 Nk)
    have mE:Below w7.heap.size w7 (w7.alloc (.cells (Ov x).toArray 93)):=(Below.refl _ _).alloc (Nat.le_refl _) _
    have HP:=AA (Hd.type (K:=K1) (qj.out.keep (K:=K1) (Keep.DK mE)) (ZC.out.Ee mE) s3 yG.out tC.out ⟨hop,hor⟩ G3.out G2.out G4.out)
    have Em:Hid (Keep K1 w7 (w7.alloc (.cells (Ov x).toArray 93))):=AA (Keep.DK mE)
    have HK8:Hid (Keep K w (w8.setCell ⟨w.heap.size+1,0,none⟩ (.slice A8 (ts.length+1) c8))):=AA (yF.out.trans ((Em.out.trans HP.out.1).mono HKK.out.1))
    have Xz:Hid (AQ (w8.setCell ⟨w.heap.size+1,0,none⟩ (.slice A8 (ts.length+1) c8)) w.heap.size 29 (Kj (some ⟨b,o,none⟩) A2 A3 A4 A5 A6 c1 c2 c3 c4 c5 c6 m)):=AA (HBv.out.keep (Em.out.trans HP.out.1) HKK.out.2)
    have HD8:=AA HP.out.2
    clear mE HP Em yF HBv zy qj ZC yG tC s3 hs0 hsl hsf hi0 hz hs' hby hzz hc8 hf8 G2 G3 G4 hq0 hq1
    generalize w8.setCell _ _=w9 at*
    have htx:Hid (ts++ [x]=m.types.take (k+1)):=AA (by rw [List.take_add_one,Hx.out,Hts.out];rfl)
    refine(lD k x HD8.out (by rw [List.length_append,hTk.out];rfl) (by rw [List.getElem?_append_right (by rw [hTk.out];exact Nat.le_refl _),hTk.out,Nat.sub_self];rfl) (by have:=(Da (by decide) H0.out);have:=of_decide_eq_true this;omega)).mono ?_
    rintro e Zr ⟨hbT,hT⟩
    have hany:(ts++ [x]).take k=m.types.take k:=by rw [List.take_append_of_le_length (by rw [hTk.out];exact Nat.le_refl _),←Hts.out,List.take_take,Nat.min_self]
    rw [hany] at hT
    have hty:ZA m.types k=Ae (!(m.types.take k).any (fun y=>KW y x)) 16:=by rw [QG Hx.out,AY Hp.out,AY Hr.out]
    rw [←hty] at hT
    have L8:=AA hT
    have HKT:=AA (HK8.out.all hbT);have HBT:=AA (Xz.out.below hbT Xz.out.lt);have HDT:=AA (HD8.out.Ee hbT)
    clear hT hbT hany hty HK8 Xz HD8
    rcases L8.out with⟨h0,rfl⟩ | ⟨h0,rfl⟩
    ·have HN:Hid (Aa (k+1) (ZA m.types)=0):=AA (Cc NP.out h0)
     have HF:Hid (l++(enc m.types.length++(m.types.take k).flatMap Lx)++Fp x.p++Fp x.r=l++(enc m.types.length++(m.types.take (k+1)).flatMap Lx)):=AA (by rw [EN Hx.out];unfold Lx;simp only [List.append_assoc])
     clear h0
     go_wp2_with fail
     refine⟨⟨k+1,by omega,by go_num,HKT.out,HBT.out,?_,HN.out⟩,by simp [intOf];omega⟩
     rw [←HF.out,←htx.out,Hts.out]
     exact HDT.out
    ·have hX:Hid (EE=ZA m.types k):=AA (by rw [←HE.out];exact OL H0.out NP.out Hx.out h0 rfl)
     have gJ:=AA h0;clear h0
     go_wp2_with fail
     exact⟨rfl,HKT.out,.inr ⟨by rw [hX.out];exact gJ.out,by rw [hX.out]⟩⟩
   ·obtain rfl:k=m.types.length:=by omega
    go_wp2_with fail
    go_meet
    refine⟨gG.out,Nj.out,?_,NP.out⟩
    have:=yE.out
    rw [List.take_length] at this
    exact this
 case rest=>
  obtain⟨hkc,hbc,hdc,Zt⟩:=hcut
  have mF:=AA hkc;have U6:=AA hbc;have yH:=AA hdc
  have HT:Hid (Dl m=0):=AA (by unfold Dl;rw [AY H0.out];exact Zt)
  have Ji:base≤wc.heap.size:=Nat.le_trans hbase hkc.size
  have hx1:=hbc.q 1 rfl
  have hlh:m.hosts.length≤2147483647:=by have:=I7.out;unfold Bg at this;omega
  have HLt:Hid ((l++N8 m).length≤90194315000):=AA (by have h1:=QD Df I7.out m.types.length m.types.length hlt;rw [List.take_length] at h1;have:=I7.out;rw [List.length_append];unfold N8;omega)
  clear hkc hbc hdc Zt Iu HB2 HD2 H0 hb2 hb1 hx0 H1
  go_wp2_with fail
  refine(Ki m.hosts.length 32 (by omega) yH.out (by have:=HLt.out;omega) Ji).mono ?_
  rintro e w2 ⟨hk,hcase⟩
  have Iu:Hid (Keep K w w2):=AA (mF.out.trans (hk.mono HKK.out.1))
  have HB2:=AA (U6.out.keep hk HKK.out.2)
  rcases hcase with⟨h0,rfl,hd⟩ | ⟨h0,rfl⟩
  case inr=>
   have H0:=AA h0;clear h0 hk
   go_wp2_with fail
   have hX:EE=Ae (decide (m.hosts.length≤32)) 20:=by rw [←HE.out];exact Sb HT.out H0.out (by unfold Dv;rw [Br H0.out])
   exact⟨rfl,Iu.out,.inr ⟨by rw [hX];exact H0.out,by rw [hX]⟩⟩
  have H0:=AA h0;have HD2:=AA hd
  have hb2:base≤w2.heap.size:=Nat.le_trans Ji hk.size
  clear h0 hd hk mF U6 yH hx1
  have hx0:=HB2.out.q 1 rfl
  generalize hL2:l++N8 m=L2 at*
  have HL2:=AA hL2
  clear hL2
  go_upto_block 2 with fail
  go_cut [] (fun wx=>Keep K w wx∧AQ wx w.heap.size 29 (Kj A1 A2 A3 A4 A5 A6 c1 c2 c3 c4 c5 c6 m)∧Hd wx base g (w.heap.size+1) K1 m.first 0 m.types (L2++N9 m)∧Aa m.hosts.length (IE m)=0)
  case first=>
   clear hx0
   go_wp2_with fail
   go_loopw [71] (fun i wr=> ∃k:Nat,k≤m.hosts.length∧i= .int .i64 k∧Keep K w wr∧AQ wr w.heap.size 29 (Kj A1 A2 A3 A4 A5 A6 c1 c2 c3 c4 c5 c6 m)∧Hd wr base g (w.heap.size+1) K1 m.first 0 m.types (L2++(enc m.hosts.length++(m.hosts.take k).flatMap (fun t=>enc t.toNat)))∧Aa k (IE m)=0)
    (fun i _=>m.hosts.length-(intOf i).toNat)
   case atStart=>exact⟨0,Nat.zero_le _,rfl,Iu.out,HB2.out,by simpa using HD2.out,rfl⟩
   case round=>
    obtain⟨k,hk,rfl,hkr,hbr,hdr,her⟩:=hrel
    have gG:=AA hkr;have Nj:=AA hbr;have yE:=AA hdr;have NP:=AA her
    have QH:base≤wr.heap.size:=Nat.le_trans hbase hkr.size
    have hy0:=hbr.q 0 rfl
    clear hkr hbr hdr her
    by_cases hltk:k<m.hosts.length
    ·obtain⟨x,hx⟩: ∃x,m.hosts[k]?=some x:=⟨_,List.getElem?_eq_getElem hltk⟩
     have hr1:=Rd.C8 H2.out gG.out hhi (fun j _ h=>NM.out j h)
     obtain⟨b,o,rfl,_,Oe,cs,hcs,hrd⟩:=DC hr1 hx
     obtain⟨rfl,hx63⟩:=hrd
     have hc0':wr.cell? ⟨b,o+k,none⟩=some (.int .i64 x):=by
      have:=hcs 0 _ rfl
      rwa [show Rd.i64.z=1 from rfl,Nat.mul_one,Nat.add_zero] at this
     have Hx:=AA hx
     have hk0:(0:Int)≤k:=by omega
     have Sg:Hid ((L2++(enc m.hosts.length++(m.hosts.take k).flatMap (fun t=>enc t.toNat))).length≤180388630000):=AA (by
      have h1:=QE Df I7.out m.hosts.length k hlh
      have:=I7.out
      have h2:=HLt.out
      rw [List.length_append];omega)
     clear hr1 hx hcs
     go_wp2_with fail
     refine(SI x m.types.length hx63.2 yE.out (by have:=Sg.out;omega) QH).mono ?_
     rintro e w3 ⟨hk3,hcase⟩
     have Lp:=AA (gG.out.trans (hk3.mono HKK.out.1));have HB3:=AA (Nj.out.keep hk3 HKK.out.2)
     rw [←Xx Hx.out] at hcase
     rcases hcase with⟨h0,rfl,hd⟩ | ⟨h0,rfl⟩
     ·have HN:Hid (Aa (k+1) (IE m)=0):=AA (Cc NP.out h0)
      have HD3:Hid (Hd w3 base g (w.heap.size+1) K1 m.first 0 m.types (L2++(enc m.hosts.length++(m.hosts.take (k+1)).flatMap (fun t=>enc t.toNat)))):=AA (by
       rw [EN Hx.out]
       simpa only [List.append_assoc] using hd)
      clear h0 hk3 hd
      go_wp2_with fail
      exact⟨⟨k+1,by omega,by go_num,Lp.out,HB3.out,HD3.out,HN.out⟩,by simp [intOf];omega⟩
     ·have hX:Hid (EE=IE m k):=AA (by rw [←HE.out];exact Sb HT.out h0 (gD H0.out NP.out Hx.out h0))
      have gJ:=AA h0;clear h0 hk3
      go_wp2_with fail
      exact⟨rfl,Lp.out,.inr ⟨by rw [hX.out];exact gJ.out,by rw [hX.out]⟩⟩
    ·obtain rfl:k=m.hosts.length:=by omega
     go_wp2_with fail
     go_meet
     refine⟨gG.out,Nj.out,?_,NP.out⟩
     have:=yE.out
     rw [List.take_length] at this
     exact this
  case rest=>
   obtain⟨hkc,hbc,hdc,Zt⟩:=hcut
   have yI:Hid (Dv m=0):=AA (by unfold Dv;rw [AY H0.out];exact Zt)
   have mF:=AA hkc;have U6:=AA hbc;have yH:=AA hdc
   have Ji:base≤wc.heap.size:=Nat.le_trans hbase hkc.size
   have hx1:=hbc.q 2 rfl
   have yJ:m.globs.length≤2147483647:=by have:=I7.out;unfold Bg at this;omega
   have qm:Hid ((L2++N9 m).length≤180388630000):=AA (by have h1:=QE Df I7.out m.hosts.length m.hosts.length hlh;rw [List.take_length] at h1;have:=I7.out;have:=HLt.out;rw [List.length_append];unfold N9;omega)
   clear hkc hbc hdc Zt Iu HB2 HD2 H0 hb2 Ji hx0 H2
   have Ji:base≤wc.heap.size:=Nat.le_trans hbase mF.out.size
   go_wp2_with fail
   refine(Ki m.globs.length 64 (by omega) yH.out (by have:=qm.out;omega) Ji).mono ?_
   rintro e w2 ⟨hk,hcase⟩
   have Iu:Hid (Keep K w w2):=AA (mF.out.trans (hk.mono HKK.out.1))
   have HB2:=AA (U6.out.keep hk HKK.out.2)
   rcases hcase with⟨h0,rfl,hd⟩ | ⟨h0,rfl⟩
   case inr=>
    have H0:=AA h0;clear h0 hk
    go_wp2_with fail
    have hX:EE=Ae (decide (m.globs.length≤64)) 20:=by rw [←HE.out];exact OM HT.out yI.out H0.out (by unfold FK;rw [Br H0.out])
    exact⟨rfl,Iu.out,.inr ⟨by rw [hX];exact H0.out,by rw [hX]⟩⟩
   have H0:=AA h0;have HD2:=AA hd
   have hb2:base≤w2.heap.size:=Nat.le_trans Ji hk.size
   clear h0 hd hk mF U6 yH hx1 Ji
   have hx0:=HB2.out.q 2 rfl
   generalize hL3:L2++N9 m=L3 at*
   have HL3e:=AA hL3
   clear hL3
   go_upto_block 4 with fail
   go_cut [] (fun wx=>Keep K w wx∧AQ wx w.heap.size 29 (Kj A1 A2 A3 A4 A5 A6 c1 c2 c3 c4 c5 c6 m)∧Hd wx base g (w.heap.size+1) K1 m.first 0 m.types (L3++N_ m)∧Aa m.globs.length (IG m)=0)
   case first=>
    clear hx0
    go_wp2_with fail
    go_loopw [90] (fun i wr=> ∃k:Nat,k≤m.globs.length∧i= .int .i64 k∧Keep K w wr∧AQ wr w.heap.size 29 (Kj A1 A2 A3 A4 A5 A6 c1 c2 c3 c4 c5 c6 m)∧Hd wr base g (w.heap.size+1) K1 m.first 0 m.types (L3++(enc m.globs.length++(m.globs.take k).flatMap F6))∧Aa k (IG m)=0)
     (fun i _=>m.globs.length-(intOf i).toNat)
    case atStart=>exact⟨0,Nat.zero_le _,rfl,Iu.out,HB2.out,by simpa using HD2.out,rfl⟩
    case round=>
     obtain⟨k,hk,rfl,hkr,hbr,hdr,her⟩:=hrel
     have gG:=AA hkr;have Nj:=AA hbr;have yE:=AA hdr;have NP:=AA her
     have QH:base≤wr.heap.size:=Nat.le_trans hbase hkr.size
     clear hkr hbr hdr her
     by_cases hltk:k<m.globs.length
     ·obtain⟨x,hx⟩: ∃x,m.globs[k]?=some x:=⟨_,List.getElem?_eq_getElem hltk⟩
      have hr1:=Rd.C8 H3.out gG.out hhi (fun j _ h=>NM.out j h)
      obtain⟨b,o,rfl,_,Oe,hc0',hc1',hc2',hv64⟩:=Eh hr1 hx
      have Hx:=AA hx
      have hk0:(0:Int)≤k:=by omega
      have Sg:Hid ((L3++(enc m.globs.length++(m.globs.take k).flatMap F6)).length≤270582945000):=AA (by
       have h1:=QF Df I7.out m.globs.length k yJ (fun j y hj hy=>(NK NP.out j y hj hy).2)
       have:=I7.out
       have h2:=qm.out
       rw [List.length_append];omega)
      clear hr1 hx
      go_wp2_with fail
      generalize hw3:wr.alloc _=w3
      have hb3:Below wr.heap.size wr w3:=by rw [←hw3];exact(Below.refl _ _).alloc (Nat.le_refl _) _
      have Lp:=AA (gG.out.all hb3);have HB3:=AA (Nj.out.below hb3 Nj.out.lt);have HD3:=AA (yE.out.Ee hb3)
      have Nt:Hid (AQ w3 wr.heap.size 139 [.int .u8 (x.l.toNat:Int),.bool x.m,.int .u64 (x.v:Int)]):=by rw [←hw3];exact AA (AQ.new wr 139 [.int .u8 (x.l.toNat:Int),.bool x.m,.int .u64 (x.v:Int)])
      have Sd:base≤w3.heap.size:=Nat.le_trans QH hb3.size
      have hn0:=Nt.out.q 0 rfl
      have hn1:=Nt.out.q 1 rfl
      have hn2:=Nt.out.q 2 rfl
      clear hw3 hb3 hc0' hc1' hc2'
      refine(LW x.l.toNat (UInt8.toNat_lt x.l) w3).mono ?_
      rintro e w4 ⟨rfl,rfl⟩
      go_wp2_with fail
      refine(FD _ 15 0 (by decide) _).mono ?_
      rintro e w4 ⟨rfl,⟨h0,rfl⟩ | ⟨h0,rfl⟩⟩
      case inr=>
       have hX:Hid (EE=Ae (M9 x.l.toNat) 15):=AA (by rw [←HE.out];exact OM HT.out yI.out h0 (U5 H0.out NP.out Hx.out h0 (by rw [Sc Hx.out,Br h0])))
       have gJ:=AA h0;clear h0
       go_wp2_with fail
       exact⟨rfl,Lp.out,.inr ⟨by rw [hX.out];exact gJ.out,by rw [hX.out]⟩⟩
      have H15:=AA h0;clear h0
      go_wp2_with fail
      refine(ko x w3).mono ?_
      rintro e w4 ⟨hb4,hcase⟩
      have UR:=AA (Lp.out.all hb4);have C9:=AA (HB3.out.below hb4 HB3.out.lt);have HD4:=AA (HD3.out.Ee hb4);have RD:=AA (Nt.out.below hb4 Nt.out.lt)
      have QI:base≤w4.heap.size:=Nat.le_trans Sd hb4.size
      clear hb4 hn0 hn1 hn2 Lp HB3 HD3 Nt Sd
      rcases hcase with⟨h0,rfl⟩ | ⟨h0,rfl⟩
      case inr=>
       have hX:Hid (EE=Ae (Dr x.v x.l.toNat) 17):=AA (by rw [←HE.out];exact OM HT.out yI.out h0 (U5 H0.out NP.out Hx.out h0 (by rw [Sc Hx.out,AY H15.out])))
       have gJ:=AA h0;clear h0
       go_wp2_with fail
       exact⟨rfl,UR.out,.inr ⟨by rw [hX.out];exact gJ.out,by rw [hX.out]⟩⟩
      have H17:=AA h0;clear h0
      have hn0:=RD.out.q 0 rfl
      have hn1:=RD.out.q 1 rfl
      have hn2:=RD.out.q 2 rfl
      go_wp2_with fail
      go_quiet (fail)
      have ADB:Hid (x.v<18446744073709551616):=AA hv64
      have z_:Hid (M9 x.l.toNat=true∧Dr x.v x.l.toNat=true):=AA ⟨Da (by decide) H15.out,Da (by decide) H17.out⟩
      generalize Rf:w4.drewN nq=w5
      have hb5:Below w4.heap.size w4 w5:=by rw [←Rf];exact below_drewN (Below.refl _ _) nq
      have l9:=AA (UR.out.all hb5);have D8:=AA (C9.out.below hb5 C9.out.lt);have HD5:=AA (HD4.out.Ee hb5);have Qr:=AA (RD.out.below hb5 RD.out.lt)
      have Si:base≤w5.heap.size:=Nat.le_trans QI hb5.size
      have hy0:=Qr.out.q 0 rfl
      have hy1:=Qr.out.q 1 rfl
      have hy2:=Qr.out.q 2 rfl
      clear Rf hb5 hn0 hn1 hn2 UR C9 HD4 RD QI hv64
      go_upto_if 104 with fail
      go_cut [11] (fun a wx=>a= .int .u8 (UQ x.m)∧wx=w5)
      case first=>
       cases hm:x.m with
       | true=>rw [hm] at hy1;go_wp2_with fail;go_meet;exact⟨by rw [hm];rfl,rfl⟩
       | false=>rw [hm] at hy1;go_wp2_with fail;go_meet;exact⟨by rw [hm];rfl,rfl⟩
      case rest=>
       obtain⟨rfl,rfl⟩:=hcut
       go_upto_if 107 with fail
       go_cut [12] (fun a wx=>a= .int .i64 (E_ x)∧wx=wc)
       case first=>
        rcases(show x.l.toNat=119∨x.l.toNat=108 from by have:=z_.out.1;unfold M9 at this;simp at this;omega)with hl | hl
        ·have hs:=AA (zx hl (by have:=z_.out.2;unfold Dr at this;rw [hl] at this;simpa using this))
         have hb:((x.l.toNat:Int)==119)=true:=by rw [hl];rfl
         clear hl
         go_wp2_with fail
         go_meet
         exact⟨congrArg _ hs.out,rfl⟩
        ·have hs:=AA (l7 hl ADB.out)
         have hb:((x.l.toNat:Int)==119)=false:=by rw [hl];rfl
         clear hl
         go_wp2_with fail
         go_meet
         exact⟨congrArg _ hs.out,rfl⟩
       case rest=>
        obtain⟨rfl,rfl⟩:=hcut
        go_upto_region 31 with fail
        go_cut [] (fun wx=>Keep K w wx∧AQ wx w.heap.size 29 (Kj A1 A2 (some ⟨b,o,none⟩) A4 A5 A6 c1 c2 c3 c4 c5 c6 m)∧Hd wx base g (w.heap.size+1) K1 m.first 0 m.types ((L3++(enc m.globs.length++(m.globs.take k).flatMap F6))++ [x.l,if x.m then 1 else 0]))
        case first=>
         have HT0:=HD5.out
         obtain⟨T,d,s1,⟨A,c,s2⟩,s3,s4,s5⟩:=HT0
         have hg0:=s2.blk.q 2 rfl
         have hgl:g<wc.heap.size:=s2.blk.lt
         have hgf:=s2.blk.frozen 2
         have hwl:wr.heap.size<wc.heap.size:=Qr.out.lt
         have qj:=AA s1;have ZC:=AA s2;have yG:=AA s4;have tC:=AA s5
         clear s1 s2 s4 s5 hy1 hy2
         generalize Qs:L3++(enc m.globs.length++(m.globs.take k).flatMap F6)=LL at*
         have RF:=AA Qs
         clear Qs
         obtain⟨i0,hi0,hz,hs',hby⟩:=info_parts EJ
         have mE:Below wc.heap.size wc (wc.drew.alloc (.cells #[.int .u8 (x.l.toNat:Int),.int .u8 (UQ x.m)] 5)):=Below.alloc (show Below wc.heap.size wc wc.drew from⟨rfl,rfl,rfl,Nat.le_refl _,fun _ _=>rfl⟩) (Nat.le_refl _) _
         have Zu:=AA (ZC.out.Ee mE)
         have ADC:=AA (qj.out.keep (K:=K1) (Keep.DK mE))
         have Em:=AA (l9.out.all mE)
         have Nl:=AA (D8.out.below mE D8.out.lt)
         have HNE:Hid ([.int .u8 (x.l.toNat:Int),.int .u8 (UQ x.m)]= [x.l,if x.m then 1 else 0].map bv):=AA (by rw [List.map_cons,List.map_cons,sj];rfl)
         have hrow2:Hid (Row (wc.drew.alloc (.cells #[.int .u8 (x.l.toNat:Int),.int .u8 (UQ x.m)] 5)) (wc.heap.size+1) (some ⟨wc.heap.size,0,none⟩) [.int .u8 (x.l.toNat:Int),.int .u8 (UQ x.m)]):=AA (by have:=(AQ.new wc.drew 5 [.int .u8 (x.l.toNat:Int),.int .u8 (UQ x.m)]).row 0 2;exact this)
         have hszA:base≤(wc.drew.alloc (.cells #[.int .u8 (x.l.toNat:Int),.int .u8 (UQ x.m)] 5)).heap.size:=Nat.le_trans Si mE.size
         have hgA:=Zu.out.blk.lt
         clear mE
         generalize hwA:wc.drew.alloc (.cells #[.int .u8 (x.l.toNat:Int),.int .u8 (UQ x.m)] 5)=wA at Zu ADC Em Nl hrow2 hszA hgA
         have hcA:=Zu.out.blk.q 2 rfl
         go_region_law (refine Gc rfl (.tmp 116) (.tmp 120) 40 rfl base 5 i0 _ 1 underlying40 hi0 hz hs' hby rfl _ LL.length (LL.map bv) rfl (by exact Zu.out.own) _ (some ⟨wc.heap.size,0,none⟩) 2 2 [.int .u8 (x.l.toNat:Int),.int .u8 (UQ x.m)] (by omega) rfl rfl (by exact hrow2.out) (by intro u hu;simp at hu;rcases hu with rfl | rfl<;>rfl) (by have:=Sg.out;unfold maxLen;omega) (by have:=Sg.out;omega) (by exact hszA) ?_;intro A4 c4 w6 h2 h3 h4;rw [HNE.out] at h2;have HP:=AA (Zu.out.put (m:=2) rfl h3 h2 h4);have hb6:=Av h3 Zu.out.blk (fun e=>(Zu.out.apart g e).2 rfl);have hf6:=hb6.frozen 2;have hc6:=hb6.cell 2;clear h2 h3 h4 hb6)
         all_goals
          have HH:=AA (Hd.of ADC.out s3 yG.out tC.out HP.out.1 HP.out.2)
          clear HP hf6 hc6
          go_wp2_with fail
          go_meet
          exact⟨Em.out.trans (HH.out.1.mono HKK.out.1),Nl.out.keep HH.out.1 HKK.out.2,HH.out.2⟩
        case rest=>
         obtain⟨T_,hb6,hd6⟩:=hcut
         obtain⟨T,d,s1,⟨A,c,s2⟩,s3,s4,s5⟩:=hd6
         have bZ:=AA T_;have FQ:=AA hb6
         generalize Qs:(L3++(enc m.globs.length++(m.globs.take k).flatMap F6))++ [x.l,if x.m then 1 else 0]=LL at*
         have RF:=AA Qs
         have HLn:Hid (LL.length≤270582945002):=AA (by rw [←Qs,List.length_append];have:=Sg.out;simp only [List.length_cons,List.length_nil];omega)
         have hg2:=s2.blk.q 2 rfl
         have hgf:=s2.blk.frozen 2
         have OO:base≤wc.heap.size:=Nat.le_trans hbase T_.size
         have qj:=AA s1;have ZC:=AA s2;have yG:=AA s4;have tC:=AA s5
         have hsb:=O9 ADB.out z_.out.2
         have Me:=AU (folded (E_ x)) (IK _ hsb.1 hsb.2)
         obtain⟨i0,hi0,hz,hs',hby⟩:=info_parts EJ
         clear Qs s1 s2 s4 s5 T_ hb6 l9 D8 HD5 Qr Si
         go_wp2_with fail
         go_region_law (first
          | (go_simp;go_at_call 157;refine(U2 (E_ x) hsb.1 hsb.2 _).mono ?_;rintro e w7 ⟨A7,c7,rfl,h2,h3⟩;have Mf:Below wc.heap.size wc w7:=⟨h3.os,h3.tape,h3.output,h3.size,h3.block⟩;have Qt:=AA (Row.own h2);have gK:=AA (ZC.out.Ee Mf);have Hs17:=AA (qj.out.keep (K:=K1) (Keep.DK Mf));have yF:=AA (bZ.out.all Mf);have UA:=AA (FQ.out.below Mf FQ.out.lt);have mD:base≤w7.heap.size:=Nat.le_trans OO Mf.size;have hc7:=gK.out.blk.q 2 rfl;have hf7:=gK.out.blk.frozen 2;clear h2 h3 Mf)
          | (refine Gc rfl (.tmp 128) (.tmp 130) 40 rfl base 5 i0 _ 1 underlying40 hi0 hz hs' hby rfl _ LL.length (LL.map bv) rfl (by exact gK.out.own) _ A7 (enc (folded (E_ x))).length c7 ((enc (folded (E_ x))).map bv) (E9 _) rfl (by rw [List.length_map,Nat.mul_one]) (by exact Qt.out) (Ew _) (by have:=HLn.out;unfold maxLen;omega) (by have:=HLn.out;omega) mD ?_;intro A8 c8 w8 h2 h3 h4;have HP:=AA (gK.out.put rfl h3 h2 h4);have Nk:=Av h3 gK.out.blk (fun e=>(gK.out.apart g e).2 rfl);have hf8:=Nk.frozen 2;have hc8:=Nk.cell 2;clear h2 h3 h4 Nk))
         all_goals
          have HH:=AA (Hd.of Hs17.out s3 yG.out tC.out HP.out.1 HP.out.2)
          have HN:Hid (Aa (k+1) (IG m)=0):=AA (Cc NP.out (by rw [Sc Hx.out,AY H15.out];exact H17.out))
          have HF:Hid (LL++enc (folded (E_ x))=L3++(enc m.globs.length++(m.globs.take (k+1)).flatMap F6)):=AA (by rw [EN Hx.out,←RF.out];unfold F6;simp only [List.append_assoc])
          clear HP hf8 hc8 hc7 hf7
          go_wp2_with fail
          refine⟨⟨k+1,by omega,by go_num,yF.out.trans (HH.out.1.mono HKK.out.1),UA.out.keep HH.out.1 HKK.out.2,?_,HN.out⟩,by simp [intOf];omega⟩
          rw [←HF.out]
          exact HH.out.2
     ·obtain rfl:k=m.globs.length:=by omega
      go_wp2_with fail
      go_meet
      refine⟨gG.out,Nj.out,?_,NP.out⟩
      have:=yE.out
      rw [List.take_length] at this
      exact this
   case rest=>
    obtain⟨hkc,hbc,hdc,Zt⟩:=hcut
    have qo:Hid (FK m=0):=AA (by unfold FK;rw [AY H0.out];exact Zt)
    have Zv:Hid (EE=Fu m):=AA (by rw [←HE.out];exact Zq HT.out yI.out qo.out)
    have mF:=AA hkc;have U6:=AA hbc;have yH:=AA hdc
    have Ji:base≤wc.heap.size:=Nat.le_trans hbase hkc.size
    have HL4:Hid ((L3++N_ m).length≤270582945000):=AA (by have h1:=QF Df I7.out m.globs.length m.globs.length yJ (fun j y hj hy=>(NK Zt j y hj hy).2);rw [List.take_length] at h1;have:=I7.out;have:=qm.out;rw [List.length_append];unfold N_;omega)
    have hz3:=hbc.q 3 rfl
    have hz4:=hbc.q 4 rfl
    clear hkc hbc hdc Zt Iu HB2 HD2 H0 hb2 hx0 H3
    by_cases hbad: ¬(0≤m.first∧m.first≤64)
    ·have hX:Hid (EE=17):=AA (by rw [Zv.out];unfold Fu;exact CJ (decide_eq_false (fun h=>hbad ⟨h.1,h.2.1⟩)))
     by_cases hneg:m.first<0
     ·have d0:decide (0≤m.first)=false:=decide_eq_false (by omega)
      clear hbad
      go_wp2_with fail
      refine(DT 17 0 _).mono ?_
      rintro e w6 ⟨rfl,rfl⟩
      go_wp2_with fail
      exact⟨rfl,mF.out,.inr ⟨by rw [hX.out];decide,by rw [hX.out]⟩⟩
     ·have d0:decide (0≤m.first)=true:=decide_eq_true (by omega)
      have d1:decide (m.first≤64)=false:=decide_eq_false (by omega)
      have hnn:0≤m.first:=by omega
      clear hbad hneg
      go_wp2_with fail
      refine(DT 17 0 _).mono ?_
      rintro e w6 ⟨rfl,rfl⟩
      go_wp2_with fail
      exact⟨rfl,mF.out,.inr ⟨by rw [hX.out];decide,by rw [hX.out]⟩⟩
    have hfi:0≤m.first∧m.first≤64:=Decidable.not_not.1 hbad
    have d0:decide (0≤m.first)=true:=decide_eq_true hfi.1
    have d1:decide (m.first≤64)=true:=decide_eq_true hfi.2
    have hnn:=hfi.1
    obtain⟨n1,hn1⟩:=Int.eq_ofNat_of_zero_le hfi.1
    have zh:Hid (m.first=(n1:Int)∧n1≤64):=AA ⟨hn1,by omega⟩
    clear hn1
    clear hbad
    go_wp2_with fail
    refine(Dp 17 0 _).mono ?_
    rintro e w6 ⟨rfl,rfl⟩
    go_wp2_with fail
    have hcl:=NI n1 (by have:=zh.out.2;omega) yH.out (by have:=HL4.out;omega) Ji
    rw [←zh.out.1] at hcl
    refine hcl.mono ?_
    clear hcl
    rintro e w6 ⟨rfl,T_,hd6⟩
    have bZ:=AA (mF.out.trans (T_.mono HKK.out.1));have FQ:=AA (U6.out.keep T_ HKK.out.2);have HD6:=AA hd6
    have OO:base≤w6.heap.size:=Nat.le_trans Ji T_.size
    have hy3:=FQ.out.q 3 rfl
    have hy4:=FQ.out.q 4 rfl
    clear T_ hd6 mF U6 yH hz3 hz4
    by_cases hbad: ¬(m.first≤m.most∧m.most≤64)
    ·have hX:Hid (EE=17):=AA (by rw [Zv.out];unfold Fu;exact CJ (decide_eq_false (fun h=>hbad ⟨h.2.2.1,h.2.2.2⟩)))
     by_cases hneg:m.most<m.first
     ·have e0:decide (m.first≤m.most)=false:=decide_eq_false (by omega)
      clear hbad
      go_wp2_with fail
      refine(DT 17 0 _).mono ?_
      rintro e w7 ⟨rfl,rfl⟩
      go_wp2_with fail
      exact⟨rfl,bZ.out,.inr ⟨by rw [hX.out];decide,by rw [hX.out]⟩⟩
     ·have e0:decide (m.first≤m.most)=true:=decide_eq_true (by omega)
      have e1:decide (m.most≤64)=false:=decide_eq_false (by omega)
      have hmm:m.first≤m.most:=by omega
      clear hbad hneg
      go_wp2_with fail
      refine(DT 17 0 _).mono ?_
      rintro e w7 ⟨rfl,rfl⟩
      go_wp2_with fail
      exact⟨rfl,bZ.out,.inr ⟨by rw [hX.out];decide,by rw [hX.out]⟩⟩
    have hmo:m.first≤m.most∧m.most≤64:=Decidable.not_not.1 hbad
    have hX:Hid (EE=0):=AA (by rw [Zv.out];unfold Fu;exact BX (decide_eq_true ⟨hfi.1,hfi.2,hmo.1,hmo.2⟩))
    have e0:decide (m.first≤m.most)=true:=decide_eq_true hmo.1
    have e1:decide (m.most≤64)=true:=decide_eq_true hmo.2
    have hmm:=hmo.1
    obtain⟨n2,hn2⟩:=Int.eq_ofNat_of_zero_le (show 0≤m.most by omega)
    have Hn2:Hid (m.most=(n2:Int)∧n2≤64):=AA ⟨hn2,by omega⟩
    clear hn2
    clear hbad
    go_wp2_with fail
    refine(Dp 17 0 _).mono ?_
    rintro e w7 ⟨rfl,rfl⟩
    go_wp2_with fail
    have hcl:=NI n2 (by have:=Hn2.out.2;omega) HD6.out (by have:=HL4.out;have:=AU n1 (by have:=zh.out.2;omega);rw [List.length_append];omega) OO
    rw [←Hn2.out.1] at hcl
    refine hcl.mono ?_
    clear hcl
    rintro e w7 ⟨rfl,Xy,hd7⟩
    have yF:=AA (bZ.out.trans (Xy.mono HKK.out.1));have HD7:=AA (hd7.less HKK.out.1)
    clear Xy hd7 bZ FQ HD6 hy3 hy4
    go_wp2_with fail
    go_end0
    refine⟨yF.out,.inl ⟨hX.out,rfl,w.heap.size+1,?_⟩⟩
    have hfin:l++Nq m=L3++N_ m++enc n1++enc n2:=by
     unfold Nq
     rw [zh.out.1,Hn2.out.1,←HL3e.out,←HL2.out]
     simp only [List.append_assoc,Int.toNat_natCast]
    rw [hfin]
    exact HD7.out
end Go.Proofs.YtlagonfamllgjaaGreatDoor
