/- Part 16 of the proof: ModH -/
import Derived.Test.YtebgikflpgcnlaaGreatDoorT15
namespace Go.Proofs.YtebgikflpgcnlaaGreatDoor
set_option linter.unusedVariables false
set_option linter.unusedSimpArgs false
set_option maxRecDepth 100000
set_option maxHeartbeats 4000000
open Go.RowKit Tryz
theorem wr_letters_ok (v:Value) (s:ByteArray) (most:Int) (h47:s.size≤140737488351232) (w:World) (h:letErr s most=0):
 Calls prog 114 #[v,.string s,.int .i64 most,.int .i64 0] w fun e w'=>Below w.heap.size w w'∧e= .returned (.tuple #[]):=
 (wr_letters v s most h47 w).mono fun e w' ⟨h1,h2⟩=>⟨h1,h2.elim (fun h3=>h3.2) (fun h3=>absurd h h3.1)⟩
theorem wr_letters_no (v:Value) (s:ByteArray) (most:Int) (h47:s.size≤140737488351232) (w:World) (h:letErr s most≠0):
 Calls prog 114 #[v,.string s,.int .i64 most,.int .i64 0] w fun e w'=>Below w.heap.size w w'∧e= .panicked (thrown (letErr s most) 0):=
 (wr_letters v s most h47 w).mono fun e w' ⟨h1,h2⟩=>⟨h1,h2.elim (fun h3=>absurd h3.1 h) (fun h3=>h3.2)⟩
theorem askE_zero {b:Bool} {e:Int} (he:e≠0) (h:askE b e=0):b=true:=by
 cases b with
 | true=>rfl
 | false=>exact absurd h he
theorem letErr_zero {s:ByteArray} {most:Int} (h:letErr s most=0):(s.size:Int)≤most∧letS s=true:=by
 unfold letErr at h
 have:=orE_zero h
 exact⟨of_decide_eq_true (askE_zero (by decide) this.1),askE_zero (by decide) this.2⟩
theorem head_types {m:ModV} {k:Nat} {x:SigV} (h0:askE (decide (m.types.length≤64)) 20=0) (he:firstE k (tyE m.types)=0) (hx:m.types[k]?=some x) {v:Int} (hv:v≠0) (ht:tyE m.types k=v):headE m=v:=by
 have hk:=(List.getElem?_eq_some_iff.1 hx).1
 have h1:typesE m=v:=by
  unfold typesE
  rw [orE_r h0,firstE_hit he (by rw [ht];exact hv) _ hk,ht]
 unfold headE
 rw [orE_l (by rw [h1];exact hv),h1]
theorem head_hosts {m:ModV} (ht:typesE m=0) {v:Int} (hv:v≠0) (hh:hostsE m=v):headE m=v:=by
 unfold headE
 rw [orE_r ht,orE_l (by rw [hh];exact hv),hh]
theorem hostE_at {m:ModV} {k:Nat} {t:Int} (hx:m.hosts[k]?=some t):hostE m k=askE (decide (0≤t∧t<m.types.length)) 30:=by
 unfold hostE;rw [hx]
theorem hostE_hit {m:ModV} {k:Nat} {t:Int} (h0:askE (decide (m.hosts.length≤32)) 20=0) (he:firstE k (hostE m)=0) (hx:m.hosts[k]?=some t) (hv:hostE m k≠0):hostsE m=hostE m k:=by
 unfold hostsE
 rw [orE_r h0,firstE_hit he hv _ (List.getElem?_eq_some_iff.1 hx).1]
theorem head_globs {m:ModV} (ht:typesE m=0) (hh:hostsE m=0) {v:Int} (hv:v≠0) (hg:globsE m=v):headE m=v:=by
 unfold headE
 rw [orE_r ht,orE_r hh,orE_l (by rw [hg];exact hv),hg]
theorem globE_at {m:ModV} {k:Nat} {x:GlobV} (hx:m.globs[k]?=some x):globE m k=orE (askE (isN x.l.toNat) 15) (askE (fitN x.v x.l.toNat) 17):=by
 unfold globE;rw [hx]
theorem globE_hit {m:ModV} {k:Nat} {x:GlobV} (h0:askE (decide (m.globs.length≤64)) 20=0) (he:firstE k (globE m)=0) (hx:m.globs[k]?=some x) {v:Int} (hv:v≠0) (hg:globE m k=v):globsE m=v:=by
 unfold globsE
 rw [orE_r h0,firstE_hit he (by rw [hg];exact hv) _ (List.getElem?_eq_some_iff.1 hx).1,hg]
theorem head_pages {m:ModV} (ht:typesE m=0) (hh:hostsE m=0) (hg:globsE m=0):headE m=pagesE m:=by
 unfold headE
 rw [orE_r ht,orE_r hh,orE_r hg]
theorem tyE_at {l:List SigV} {k:Nat} {x:SigV} (hx:l[k]?=some x):tyE l k=orE (letErr x.p 8) (orE (letErr x.r 8) (askE (!(l.take k).any (fun y=>sigEq y x)) 16)):=by
 unfold tyE;rw [hx]
def mutI (b:Bool):Int:=if b then 1 else 0
theorem mutI_bv (b:Bool):bv (if b then 1 else 0)= .int .u8 (mutI b):=by cases b<;>rfl
theorem sign_l {x:GlobV} (h:x.l.toNat=108) (hv:x.v<18446744073709551616):wrap64 (x.v:Int)=signB x:=by
 unfold signB
 rw [if_neg (by omega)]
 unfold wrap64
 split<;>omega
theorem sign_w {x:GlobV} (h:x.l.toNat=119) (hv:x.v<4294967296):wrap64 (wrap32 (x.v:Int))=signB x:=by
 unfold signB wrap64 wrap32
 split
 ·omega
 ·split<;>omega
def modC (A1 A2 A3 A4 A5 A6:Option Addr) (c1 c2 c3 c4 c5 c6:Nat) (m:ModV):List Value:=
 [.slice A1 m.types.length c1,.slice A2 m.hosts.length c2,.slice A3 m.globs.length c3,.int .i64 m.first,.int .i64 m.most,.slice A4 m.fns.length c4,.slice A5 m.dat.length c5,.slice A6 m.exps.length c6]
def seenC (first:Int):List Value:= [.slice none 0 0,.slice none 0 0,.slice none 0 0,.int .i64 first,.int .i64 0,.slice none 0 0,.slice none 0 0,.slice none 0 0]
theorem head_init {w:World} {base g:Nat} {K:Nat→Prop} {all first:Int} {l:List UInt8} (cs:Array Value) (h:Wr w base g K (.pointer none) all l) (hbase:base≤w.heap.size) {W:World}
 (hW:(((w.setCell ⟨g,0,none⟩ (.pointer (some ⟨w.heap.size+1,0,none⟩))).alloc (.cells cs 29)).alloc (.cells (seenC first).toArray 29))=W):
 Keep K w W∧Blk W w.heap.size 29 cs.toList∧Hd W base g (w.heap.size+1) (fun k=>K k∨k=w.heap.size) first all [] l∧w.heap.size≤W.heap.size:=by
 obtain⟨A,c,h⟩:=h
 have hg:=h.blk.lt
 have hs0:(w.setCell ⟨g,0,none⟩ (.pointer (some ⟨w.heap.size+1,0,none⟩))).heap.size=w.heap.size:=by simp [World.setCell]
 have hs:((w.setCell ⟨g,0,none⟩ (.pointer (some ⟨w.heap.size+1,0,none⟩))).alloc (.cells cs 29)).heap.size=w.heap.size+1:=by simp [World.setCell]
 have hsn:=Blk.new ((w.setCell ⟨g,0,none⟩ (.pointer (some ⟨w.heap.size+1,0,none⟩))).alloc (.cells cs 29)) 29 (seenC first)
 have hbn:=Blk.new (w.setCell ⟨g,0,none⟩ (.pointer (some ⟨w.heap.size+1,0,none⟩))) 29 cs.toList
 rw [hs,hW] at hsn
 rw [hs0] at hbn
 have hWs:W.heap.size=w.heap.size+2:=by rw [←hW];simp [World.setCell]
 refine⟨by rw [←hW];exact(((Keep.refl K w).setCell h.kg _).alloc _).alloc _,by rw [←hW];exact hbn.alloc _,⟨none,0,⟨hsn,World.ownsRow_nil _ _ _ _,by simp⟩,⟨A,c,?_,?_,h.low,?_,?_,?_⟩,by omega,?_,by simp [Value.ownBlock]⟩,by omega⟩
 ·rw [←hW];exact((h.blk.set 0 _).alloc _).alloc _
 ·rw [←hW];exact((h.own.set_ne (fun e=>(h.apart g e).2 rfl) _).alloc _).alloc _
 ·rintro((e | e) | e | e)
  ·exact h.kg e
  ·omega
  ·omega
  ·cases e
 ·intro k hk
  refine⟨?_,(h.apart k hk).2⟩
  have:=(h.own.lt k hk).2
  rintro((e | e) | e | e)
  ·exact(h.apart k hk).1 e
  ·omega
  ·omega
  ·cases e
 ·intro k hk
  rw [hWs]
  rcases hk with(e | e) | e | e
  ·have:=h.lt k e;omega
  ·omega
  ·omega
  ·cases e
 ·rintro(e | e)
  ·have:=h.lt _ e;omega
  ·omega
theorem wr_head (cs:List Value) (hi base g:Nat) (K:Nat→Prop) (m:ModV) (l:List UInt8) (w:World) (h:rMod.R w 0 hi cs m) (hhi:hi≤w.heap.size) (hK: ∀k,k<hi→K k) (hw:Wr w base g K (.pointer none) 0 l) (hbase:base≤w.heap.size) (hle:szMod m≤2147483647) (hnum:ModNum m) (hl:l.length≤1000):
 Calls prog 66 #[.pointer (some ⟨g,0,none⟩),.agg cs.toArray] w fun e w'=>Keep K w w'∧WEnds (headE m) e (∃gs,Hd w' base g gs K m.first 0 m.types (l++headB m)):=by
 generalize hEE:headE m=EE
 have HE:=hideIt hEE
 clear hEE
 obtain⟨v1,v2,v3,v4,v5,v6,rfl,h1,h2,h3,hf63,hm63,h4,h5,h6⟩:=rMod_iff.1 h
 obtain⟨A1,c1,rfl⟩:=sl_form h1
 obtain⟨A2,c2,rfl⟩:=sl_form h2
 obtain⟨A3,c3,rfl⟩:=sl_form h3
 obtain⟨A4,c4,rfl⟩:=sl_form h4
 obtain⟨A5,c5,rfl⟩:=sl_form h5
 obtain⟨A6,c6,rfl⟩:=sl_form h6
 have H1:=hideIt h1;have H2:=hideIt h2;have H3:=hideIt h3;have HK0:=hideIt hK;have HW0:=hideIt hw;have HLE:=hideIt hle
 clear h h1 h2 h3 h4 h5 h6 hK hle
 have hc0:w.cell? ⟨g,0,none⟩=some (.pointer none):=by obtain⟨A,c,hw⟩:=hw;exact hw.blk.cell 0
 have hg:g<w.heap.size:=by obtain⟨A,c,hw⟩:=hw;exact hw.blk.lt
 have hf0:w.frozen? ⟨g,0,none⟩=false:=by obtain⟨A,c,hw⟩:=hw;exact hw.blk.frozen 0
 clear hw
 go_enter func66,ntmps66
 go_wp2_with fail
 generalize hw1:((w.setCell _ _).alloc _).alloc _=w1
 obtain⟨i1,i2,i3,i4⟩:=head_init _ HW0.out hbase hw1
 have HK1:=hideIt i1;have HB1:=hideIt i2;have HD1:=hideIt i3
 have hb1:base≤w1.heap.size:=Nat.le_trans hbase i4
 clear hw1 i1 i2 i3 i4
 generalize hK1:(fun k=>K k∨k=w.heap.size)=K1 at*
 have HKK:Hid ((∀k,K k→K1 k)∧K1 w.heap.size):=hideIt (by rw [←hK1];exact⟨fun k h=> .inl h,.inr rfl⟩)
 clear hK1
 have hlt:m.types.length≤2147483647:=by have:=HLE.out;unfold szMod at this;omega
 refine(hd_count m.types.length 64 (by omega) HD1.out (by omega) hb1).mono ?_
 rintro e w2 ⟨hk,hcase⟩
 have HK2:Hid (Keep K w w2):=hideIt (HK1.out.trans (hk.mono HKK.out.1))
 have HB2:=hideIt (HB1.out.keep hk HKK.out.2)
 rcases hcase with⟨h0,rfl,hd⟩ | ⟨h0,rfl⟩
 case inr=>
  have H0:=hideIt h0;clear h0 hk
  go_wp2_with fail
  have hX:=HE.out
  unfold headE typesE at hX
  rw [orE_l (by rw [orE_l H0.out];exact H0.out),orE_l H0.out] at hX
  exact⟨rfl,HK2.out,.inr ⟨by rw [←hX];exact H0.out,by rw [←hX]⟩⟩
 have H0:=hideIt h0;have HD2:=hideIt hd
 have hb2:base≤w2.heap.size:=Nat.le_trans hb1 hk.size
 clear h0 hd hk HK1 HB1 HD1
 have hx0:=HB2.out.cell 0
 go_upto_block 0 with fail
 go_cut [] (fun wx=>Keep K w wx∧Blk wx w.heap.size 29 (modC A1 A2 A3 A4 A5 A6 c1 c2 c3 c4 c5 c6 m)∧Hd wx base g (w.heap.size+1) K1 m.first 0 m.types (l++typesB m)∧firstE m.types.length (tyE m.types)=0)
 case first=>
  clear hx0
  go_wp2_with fail
  go_loopw [28] (fun i wr=> ∃k:Nat,k≤m.types.length∧i= .int .i64 k∧Keep K w wr∧Blk wr w.heap.size 29 (modC A1 A2 A3 A4 A5 A6 c1 c2 c3 c4 c5 c6 m)∧Hd wr base g (w.heap.size+1) K1 m.first 0 (m.types.take k) (l++(enc m.types.length++(m.types.take k).flatMap sigB))∧firstE k (tyE m.types)=0)
   (fun i _=>m.types.length-(intOf i).toNat)
  case atStart=>exact⟨0,Nat.zero_le _,rfl,HK2.out,HB2.out,by simpa using HD2.out,rfl⟩
  case round=>
   obtain⟨k,hk,rfl,hkr,hbr,hdr,her⟩:=hrel
   have HKr:=hideIt hkr;have HBr:=hideIt hbr;have HDr:=hideIt hdr;have HEr:=hideIt her
   have hbaser:base≤wr.heap.size:=Nat.le_trans hbase hkr.size
   clear hkr hbr hdr her
   by_cases hltk:k<m.types.length
   ·obtain⟨x,hx⟩: ∃x,m.types[k]?=some x:=⟨_,List.getElem?_eq_getElem hltk⟩
    have hr1:=Rd.keepK H1.out HKr.out hhi (fun j _ h=>HK0.out j h)
    obtain⟨b,o,rfl,_,hbh,hc0',hc1',hop,hor⟩:=rSig_at hr1 hx
    have Hx:=hideIt hx
    have hk0:(0:Int)≤k:=by omega
    clear hr1 hx
    go_wp2_with fail
    generalize hw3:wr.alloc _=w3
    have hb3:Below wr.heap.size wr w3:=by rw [←hw3];exact(Below.refl _ _).alloc (Nat.le_refl _) _
    have HK3:=hideIt (HKr.out.all hb3);have HBx:=hideIt (HBr.out.below hb3 HBr.out.lt);have HD3:=hideIt (HDr.out.box hb3 (by rw [←hw3];simp))
    generalize hK2:(fun j=>K1 j∨j=wr.heap.size)=K2 at HD3
    have HKK2:Hid ((∀j,K1 j→K2 j)∧K2 wr.heap.size):=hideIt (by rw [←hK2];exact⟨fun j h=> .inl h,.inr rfl⟩)
    have hbase3:base≤w3.heap.size:=Nat.le_trans hbaser hb3.size
    clear hK2
    have Hn3:Hid (Blk w3 wr.heap.size 51 [.string x.p,.string x.r]):=by rw [←hw3];exact hideIt (Blk.new wr 51 [.string x.p,.string x.r])
    have hn0:=Hn3.out.q 0 rfl
    clear hw3 hb3 hc0' hc1'
    by_cases hp:letErr x.p 8=0
    case neg=>
     have hX:Hid (EE=letErr x.p 8):=hideIt (by rw [←HE.out];exact head_types H0.out HEr.out Hx.out hp (by rw [tyE_at Hx.out,orE_l hp]))
     have Hp:=hideIt hp;clear hp
     go_region_dies
     all_goals
      refine(wr_letters_no _ x.p 8 hop _ Hp.out).mono ?_
      rintro e w4 ⟨hb4,rfl⟩
      exact⟨rfl,HK3.out.all (below_of_drew hb4),.inr ⟨by rw [hX.out];exact Hp.out,by rw [hX.out]⟩⟩
    have Hp:=hideIt hp;clear hp
    go_region_held3 (fun w'=>w'.cell? ⟨wr.heap.size,0,none⟩=some (.string x.p)) (first | exact hn0 | assumption)
     (first | (go_at_call 114;refine(wr_letters_ok _ x.p 8 hop _ Hp.out).mono ?_;rintro e w4 ⟨hb4,rfl⟩;have hb4:=below_of_drew hb4;have HB4:=hideIt hb4;have hn4:=(Hn3.out.below hb4 Hn3.out.lt).q 0 rfl;clear hb4))
    have HK4:=hideIt (HK3.out.all HB4.out);have HBy:=hideIt (HBx.out.below HB4.out HBx.out.lt);have HD4:=hideIt (HD3.out.all_ HB4.out);have Hn4:=hideIt (Hn3.out.below HB4.out Hn3.out.lt)
    have hbase4:base≤w4.heap.size:=Nat.le_trans hbase3 HB4.out.size
    have hsz:x.p.size≤8∧x.r.size≤2147483647:=⟨by have:=(letErr_zero Hp.out).1;omega,by have:=sumBy_mem (fun t:SigV=>t.p.size+t.r.size) m.types x (List.mem_of_getElem? Hx.out);have:=HLE.out;unfold szMod at this;omega⟩
    have hLk:=types_len hnum HLE.out m.types.length k hlt
    have hLE:=HLE.out
    have HLk:Hid ((l++(enc m.types.length++(m.types.take k).flatMap sigB)).length≤90194315000):=hideIt (by rw [List.length_append];omega)
    have HLp:Hid ((textB x.p).length≤20):=hideIt (by have:=textB_len (s:=x.p) (by omega);omega)
    clear HB4 HK3 HBx HD3 Hn3 hLk hLE hbaser hbase3 hn0
    go_wp2_with fail
    refine(hd_text x.p (by omega) HD4.out (by have:=HLk.out;omega) hbase4).mono ?_
    rintro e w5 ⟨rfl,hk5,hd5⟩
    have HK5:=hideIt (HK4.out.trans (hk5.mono fun j h=>HKK2.out.1 j (HKK.out.1 j h)));have HBz:=hideIt (HBy.out.keep hk5 (HKK2.out.1 _ HKK.out.2));have HD5:=hideIt hd5;have Hn5:=hideIt (Hn4.out.keep hk5 HKK2.out.2)
    have hbase5:base≤w5.heap.size:=Nat.le_trans hbase4 hk5.size
    have hm1:=Hn5.out.q 1 rfl
    clear hk5 hd5 HK4 HBy HD4 Hn4 hbase4 hn4
    go_wp2_with fail
    by_cases hp:letErr x.r 8=0
    case neg=>
     have hX:Hid (EE=letErr x.r 8):=hideIt (by rw [←HE.out];exact head_types H0.out HEr.out Hx.out hp (by rw [tyE_at Hx.out,orE_r Hp.out,orE_l hp]))
     have Hp:=hideIt hp;clear hp
     go_region_dies
     all_goals
      refine(wr_letters_no _ x.r 8 hor _ Hp.out).mono ?_
      rintro e w6 ⟨hb6,rfl⟩
      exact⟨rfl,HK5.out.all (below_of_drew hb6),.inr ⟨by rw [hX.out];exact Hp.out,by rw [hX.out]⟩⟩
    have Hr:=hideIt hp;clear hp
    go_region_held3 (fun w'=>w'.cell? ⟨wr.heap.size,1,none⟩=some (.string x.r)) (first | exact hm1 | assumption)
     (first | (go_at_call 114;refine(wr_letters_ok _ x.r 8 hor _ Hr.out).mono ?_;rintro e w6 ⟨hb6,rfl⟩;have hb6:=below_of_drew hb6;have HB6:=hideIt hb6;have hm6:=(Hn5.out.below hb6 Hn5.out.lt).q 1 rfl;clear hb6))
    have HK6:=hideIt (HK5.out.all HB6.out);have HBu:=hideIt (HBz.out.below HB6.out HBz.out.lt);have HD6:=hideIt (HD5.out.all_ HB6.out);have Hn6:=hideIt (Hn5.out.below HB6.out Hn5.out.lt)
    have hbase6:base≤w6.heap.size:=Nat.le_trans hbase5 HB6.out.size
    have HLr:Hid ((textB x.r).length≤2147483700):=hideIt (by have:=textB_len (s:=x.r) (by omega);omega)
    clear HB6 HK5 HBz HD5 Hn5 hbase5 hm1
    go_wp2_with fail
    refine(hd_text x.r (by omega) HD6.out (by have:=HLk.out;have:=HLp.out;rw [List.length_append];omega) hbase6).mono ?_
    rintro e w7 ⟨rfl,hk7,hd7⟩
    have HK7:=hideIt (HK6.out.trans (hk7.mono fun j h=>HKK2.out.1 j (HKK.out.1 j h)));have HBv:=hideIt (HBu.out.keep hk7 (HKK2.out.1 _ HKK.out.2));have Hn7:=hideIt (Hn6.out.keep hk7 HKK2.out.2)
    have HD7:=hideIt (hd7.less HKK2.out.1)
    have hbase7:base≤w7.heap.size:=Nat.le_trans hbase6 hk7.size
    clear hk7 hd7 HK6 HBu HD6 Hn6 hbase6 hm6 HKK2
    have hq0:=Hn7.out.q 0 rfl
    have hq1:=Hn7.out.q 1 rfl
    have hTk0:(m.types.take k).length=k:=by rw [List.length_take];omega
    generalize hts:m.types.take k=ts at HD7 hTk0
    have Hts:=hideIt hts
    have hTk:=hideIt hTk0
    clear hts hTk0
    obtain⟨T,d,s1,s2,s3,s4,s5⟩:=HD7.out
    have hs0:=s1.blk.q 0 rfl
    have hsl:=s1.blk.lt
    have hsf:=s1.blk.frozen 0
    have Hs1:=hideIt s1;have Hs2:=hideIt s2;have Hs5:=hideIt s5;have Hs4:=hideIt s4
    clear s1 s2 s4 s5 HD7
    obtain⟨i0,z0,hi0,hz,hs',hby,hzz⟩:=info_parts' infoc_sigs
    go_wp2_with (at_builtin;refine wpList_appz _ rfl (.tmp 53) (.tmp 55) 22 rfl base 51 i0 z0 2 32 underlying22 hi0 hz hs' hby hzz (by omega) (.slice T ts.length d) ts.length (ts.flatMap sigC) rfl (Hs1.out.own.alloc _) (w7.heap.size+1) (some ⟨w7.heap.size,0,none⟩) 1 1 (sigC x) rfl rfl (by have:=(Blk.new w7 51 (sigC x)).row 0 2;exact this) (by intro u hu;unfold sigC at hu;simp at hu;rcases hu with rfl | rfl<;>rfl) (by rw [hTk.out];unfold maxLen;omega) (by rw [hTk.out];omega) (by simp;omega) ?_;intro A8 c8 w8 g2 g3 g4;have hb8:=(g3.block (w.heap.size+1) (by simp;omega) (fun e=>(Hs5.out _ e.symm).2 rfl)).trans (Hs1.out.blk.alloc (.cells (sigC x).toArray 51));have hc8:=Blk.cell hb8 0;have hf8:=Blk.frozen hb8 0;have G2:=hideIt g2;have G3:=hideIt g3;have G4:=hideIt g4;clear g2 g3 g4 hb8)
    have hbA:Below w7.heap.size w7 (w7.alloc (.cells (sigC x).toArray 51)):=(Below.refl _ _).alloc (Nat.le_refl _) _
    have HP:=hideIt (Hd.type (K:=K1) (Hs1.out.keep (K:=K1) (Keep.of_all hbA)) (Hs2.out.all_ hbA) s3 Hs4.out Hs5.out ⟨hop,hor⟩ G3.out G2.out G4.out)
    have HKA:Hid (Keep K1 w7 (w7.alloc (.cells (sigC x).toArray 51))):=hideIt (Keep.of_all hbA)
    have HK8:Hid (Keep K w (w8.setCell ⟨w.heap.size+1,0,none⟩ (.slice A8 (ts.length+1) c8))):=hideIt (HK7.out.trans ((HKA.out.trans HP.out.1).mono HKK.out.1))
    have HB8:Hid (Blk (w8.setCell ⟨w.heap.size+1,0,none⟩ (.slice A8 (ts.length+1) c8)) w.heap.size 29 (modC (some ⟨b,o,none⟩) A2 A3 A4 A5 A6 c1 c2 c3 c4 c5 c6 m)):=hideIt (HBv.out.keep (HKA.out.trans HP.out.1) HKK.out.2)
    have HD8:=hideIt HP.out.2
    clear hbA HP HKA HK7 HBv Hn7 Hs1 Hs2 Hs4 Hs5 s3 hs0 hsl hsf hi0 hz hs' hby hzz hc8 hf8 G2 G3 G4 hq0 hq1
    generalize w8.setCell _ _=w9 at*
    have htx:Hid (ts++ [x]=m.types.take (k+1)):=hideIt (by rw [List.take_add_one,Hx.out,Hts.out];rfl)
    refine(hd_twice k x HD8.out (by rw [List.length_append,hTk.out];rfl) (by rw [List.getElem?_append_right (by rw [hTk.out];exact Nat.le_refl _),hTk.out,Nat.sub_self];rfl) (by have:=(askE_zero (by decide) H0.out);have:=of_decide_eq_true this;omega)).mono ?_
    rintro e w10 ⟨hbT,hT⟩
    have hany:(ts++ [x]).take k=m.types.take k:=by rw [List.take_append_of_le_length (by rw [hTk.out];exact Nat.le_refl _),←Hts.out,List.take_take,Nat.min_self]
    rw [hany] at hT
    have hty:tyE m.types k=askE (!(m.types.take k).any (fun y=>sigEq y x)) 16:=by rw [tyE_at Hx.out,orE_r Hp.out,orE_r Hr.out]
    rw [←hty] at hT
    have HTY:=hideIt hT
    have HKT:=hideIt (HK8.out.all hbT);have HBT:=hideIt (HB8.out.below hbT HB8.out.lt);have HDT:=hideIt (HD8.out.all_ hbT)
    clear hT hbT hany hty HK8 HB8 HD8
    rcases HTY.out with⟨h0,rfl⟩ | ⟨h0,rfl⟩
    ·have HN:Hid (firstE (k+1) (tyE m.types)=0):=hideIt (firstE_next HEr.out h0)
     have HF:Hid (l++(enc m.types.length++(m.types.take k).flatMap sigB)++textB x.p++textB x.r=l++(enc m.types.length++(m.types.take (k+1)).flatMap sigB)):=hideIt (by rw [flat_next Hx.out];unfold sigB;simp only [List.append_assoc])
     clear h0
     go_wp2_with fail
     refine⟨⟨k+1,by omega,by go_num,HKT.out,HBT.out,?_,HN.out⟩,by simp [intOf];omega⟩
     rw [←HF.out,←htx.out,Hts.out]
     exact HDT.out
    ·have hX:Hid (EE=tyE m.types k):=hideIt (by rw [←HE.out];exact head_types H0.out HEr.out Hx.out h0 rfl)
     have H00:=hideIt h0;clear h0
     go_wp2_with fail
     exact⟨rfl,HKT.out,.inr ⟨by rw [hX.out];exact H00.out,by rw [hX.out]⟩⟩
   ·obtain rfl:k=m.types.length:=by omega
    go_wp2_with fail
    go_meet
    refine⟨HKr.out,HBr.out,?_,HEr.out⟩
    have:=HDr.out
    rw [List.take_length] at this
    exact this
 case rest=>
  obtain⟨hkc,hbc,hdc,hec⟩:=hcut
  have HKc:=hideIt hkc;have HBc:=hideIt hbc;have HDc:=hideIt hdc
  have HT:Hid (typesE m=0):=hideIt (by unfold typesE;rw [orE_r H0.out];exact hec)
  have hbasec:base≤wc.heap.size:=Nat.le_trans hbase hkc.size
  have hx1:=hbc.q 1 rfl
  have hlh:m.hosts.length≤2147483647:=by have:=HLE.out;unfold szMod at this;omega
  have HLt:Hid ((l++typesB m).length≤90194315000):=hideIt (by have h1:=types_len hnum HLE.out m.types.length m.types.length hlt;rw [List.take_length] at h1;have:=HLE.out;rw [List.length_append];unfold typesB;omega)
  clear hkc hbc hdc hec HK2 HB2 HD2 H0 hb2 hb1 hx0 H1
  go_wp2_with fail
  refine(hd_count m.hosts.length 32 (by omega) HDc.out (by have:=HLt.out;omega) hbasec).mono ?_
  rintro e w2 ⟨hk,hcase⟩
  have HK2:Hid (Keep K w w2):=hideIt (HKc.out.trans (hk.mono HKK.out.1))
  have HB2:=hideIt (HBc.out.keep hk HKK.out.2)
  rcases hcase with⟨h0,rfl,hd⟩ | ⟨h0,rfl⟩
  case inr=>
   have H0:=hideIt h0;clear h0 hk
   go_wp2_with fail
   have hX:EE=askE (decide (m.hosts.length≤32)) 20:=by rw [←HE.out];exact head_hosts HT.out H0.out (by unfold hostsE;rw [orE_l H0.out])
   exact⟨rfl,HK2.out,.inr ⟨by rw [hX];exact H0.out,by rw [hX]⟩⟩
  have H0:=hideIt h0;have HD2:=hideIt hd
  have hb2:base≤w2.heap.size:=Nat.le_trans hbasec hk.size
  clear h0 hd hk HKc HBc HDc hx1
  have hx0:=HB2.out.q 1 rfl
  generalize hL2:l++typesB m=L2 at*
  have HL2:=hideIt hL2
  clear hL2
  go_upto_block 2 with fail
  go_cut [] (fun wx=>Keep K w wx∧Blk wx w.heap.size 29 (modC A1 A2 A3 A4 A5 A6 c1 c2 c3 c4 c5 c6 m)∧Hd wx base g (w.heap.size+1) K1 m.first 0 m.types (L2++hostsB m)∧firstE m.hosts.length (hostE m)=0)
  case first=>
   clear hx0
   go_wp2_with fail
   go_loopw [71] (fun i wr=> ∃k:Nat,k≤m.hosts.length∧i= .int .i64 k∧Keep K w wr∧Blk wr w.heap.size 29 (modC A1 A2 A3 A4 A5 A6 c1 c2 c3 c4 c5 c6 m)∧Hd wr base g (w.heap.size+1) K1 m.first 0 m.types (L2++(enc m.hosts.length++(m.hosts.take k).flatMap (fun t=>enc t.toNat)))∧firstE k (hostE m)=0)
    (fun i _=>m.hosts.length-(intOf i).toNat)
   case atStart=>exact⟨0,Nat.zero_le _,rfl,HK2.out,HB2.out,by simpa using HD2.out,rfl⟩
   case round=>
    obtain⟨k,hk,rfl,hkr,hbr,hdr,her⟩:=hrel
    have HKr:=hideIt hkr;have HBr:=hideIt hbr;have HDr:=hideIt hdr;have HEr:=hideIt her
    have hbaser:base≤wr.heap.size:=Nat.le_trans hbase hkr.size
    have hy0:=hbr.q 0 rfl
    clear hkr hbr hdr her
    by_cases hltk:k<m.hosts.length
    ·obtain⟨x,hx⟩: ∃x,m.hosts[k]?=some x:=⟨_,List.getElem?_eq_getElem hltk⟩
     have hr1:=Rd.keepK H2.out HKr.out hhi (fun j _ h=>HK0.out j h)
     obtain⟨b,o,rfl,_,hbh,cs,hcs,hrd⟩:=sl_at hr1 hx
     obtain⟨rfl,hx63⟩:=hrd
     have hc0':wr.cell? ⟨b,o+k,none⟩=some (.int .i64 x):=by
      have:=hcs 0 _ rfl
      rwa [show Rd.i64.z=1 from rfl,Nat.mul_one,Nat.add_zero] at this
     have Hx:=hideIt hx
     have hk0:(0:Int)≤k:=by omega
     have HLk:Hid ((L2++(enc m.hosts.length++(m.hosts.take k).flatMap (fun t=>enc t.toNat))).length≤180388630000):=hideIt (by
      have h1:=hosts_len hnum HLE.out m.hosts.length k hlh
      have:=HLE.out
      have h2:=HLt.out
      rw [List.length_append];omega)
     clear hr1 hx hcs
     go_wp2_with fail
     refine(hd_index x m.types.length hx63.2 HDr.out (by have:=HLk.out;omega) hbaser).mono ?_
     rintro e w3 ⟨hk3,hcase⟩
     have HK3:=hideIt (HKr.out.trans (hk3.mono HKK.out.1));have HB3:=hideIt (HBr.out.keep hk3 HKK.out.2)
     rw [←hostE_at Hx.out] at hcase
     rcases hcase with⟨h0,rfl,hd⟩ | ⟨h0,rfl⟩
     ·have HN:Hid (firstE (k+1) (hostE m)=0):=hideIt (firstE_next HEr.out h0)
      have HD3:Hid (Hd w3 base g (w.heap.size+1) K1 m.first 0 m.types (L2++(enc m.hosts.length++(m.hosts.take (k+1)).flatMap (fun t=>enc t.toNat)))):=hideIt (by
       rw [flat_next Hx.out]
       simpa only [List.append_assoc] using hd)
      clear h0 hk3 hd
      go_wp2_with fail
      exact⟨⟨k+1,by omega,by go_num,HK3.out,HB3.out,HD3.out,HN.out⟩,by simp [intOf];omega⟩
     ·have hX:Hid (EE=hostE m k):=hideIt (by rw [←HE.out];exact head_hosts HT.out h0 (hostE_hit H0.out HEr.out Hx.out h0))
      have H00:=hideIt h0;clear h0 hk3
      go_wp2_with fail
      exact⟨rfl,HK3.out,.inr ⟨by rw [hX.out];exact H00.out,by rw [hX.out]⟩⟩
    ·obtain rfl:k=m.hosts.length:=by omega
     go_wp2_with fail
     go_meet
     refine⟨HKr.out,HBr.out,?_,HEr.out⟩
     have:=HDr.out
     rw [List.take_length] at this
     exact this
  case rest=>
   obtain⟨hkc,hbc,hdc,hec⟩:=hcut
   have HHE:Hid (hostsE m=0):=hideIt (by unfold hostsE;rw [orE_r H0.out];exact hec)
   have HKc:=hideIt hkc;have HBc:=hideIt hbc;have HDc:=hideIt hdc
   have hbasec:base≤wc.heap.size:=Nat.le_trans hbase hkc.size
   have hx1:=hbc.q 2 rfl
   have hlg:m.globs.length≤2147483647:=by have:=HLE.out;unfold szMod at this;omega
   have HL3:Hid ((L2++hostsB m).length≤180388630000):=hideIt (by have h1:=hosts_len hnum HLE.out m.hosts.length m.hosts.length hlh;rw [List.take_length] at h1;have:=HLE.out;have:=HLt.out;rw [List.length_append];unfold hostsB;omega)
   clear hkc hbc hdc hec HK2 HB2 HD2 H0 hb2 hbasec hx0 H2
   have hbasec:base≤wc.heap.size:=Nat.le_trans hbase HKc.out.size
   go_wp2_with fail
   refine(hd_count m.globs.length 64 (by omega) HDc.out (by have:=HL3.out;omega) hbasec).mono ?_
   rintro e w2 ⟨hk,hcase⟩
   have HK2:Hid (Keep K w w2):=hideIt (HKc.out.trans (hk.mono HKK.out.1))
   have HB2:=hideIt (HBc.out.keep hk HKK.out.2)
   rcases hcase with⟨h0,rfl,hd⟩ | ⟨h0,rfl⟩
   case inr=>
    have H0:=hideIt h0;clear h0 hk
    go_wp2_with fail
    have hX:EE=askE (decide (m.globs.length≤64)) 20:=by rw [←HE.out];exact head_globs HT.out HHE.out H0.out (by unfold globsE;rw [orE_l H0.out])
    exact⟨rfl,HK2.out,.inr ⟨by rw [hX];exact H0.out,by rw [hX]⟩⟩
   have H0:=hideIt h0;have HD2:=hideIt hd
   have hb2:base≤w2.heap.size:=Nat.le_trans hbasec hk.size
   clear h0 hd hk HKc HBc HDc hx1 hbasec
   have hx0:=HB2.out.q 2 rfl
   generalize hL3:L2++hostsB m=L3 at*
   have HL3e:=hideIt hL3
   clear hL3
   go_upto_block 4 with fail
   go_cut [] (fun wx=>Keep K w wx∧Blk wx w.heap.size 29 (modC A1 A2 A3 A4 A5 A6 c1 c2 c3 c4 c5 c6 m)∧Hd wx base g (w.heap.size+1) K1 m.first 0 m.types (L3++globsB m)∧firstE m.globs.length (globE m)=0)
   case first=>
    clear hx0
    go_wp2_with fail
    go_loopw [90] (fun i wr=> ∃k:Nat,k≤m.globs.length∧i= .int .i64 k∧Keep K w wr∧Blk wr w.heap.size 29 (modC A1 A2 A3 A4 A5 A6 c1 c2 c3 c4 c5 c6 m)∧Hd wr base g (w.heap.size+1) K1 m.first 0 m.types (L3++(enc m.globs.length++(m.globs.take k).flatMap globB))∧firstE k (globE m)=0)
     (fun i _=>m.globs.length-(intOf i).toNat)
    case atStart=>exact⟨0,Nat.zero_le _,rfl,HK2.out,HB2.out,by simpa using HD2.out,rfl⟩
    case round=>
     obtain⟨k,hk,rfl,hkr,hbr,hdr,her⟩:=hrel
     have HKr:=hideIt hkr;have HBr:=hideIt hbr;have HDr:=hideIt hdr;have HEr:=hideIt her
     have hbaser:base≤wr.heap.size:=Nat.le_trans hbase hkr.size
     clear hkr hbr hdr her
     by_cases hltk:k<m.globs.length
     ·obtain⟨x,hx⟩: ∃x,m.globs[k]?=some x:=⟨_,List.getElem?_eq_getElem hltk⟩
      have hr1:=Rd.keepK H3.out HKr.out hhi (fun j _ h=>HK0.out j h)
      obtain⟨b,o,rfl,_,hbh,hc0',hc1',hc2',hv64⟩:=rGlob_at hr1 hx
      have Hx:=hideIt hx
      have hk0:(0:Int)≤k:=by omega
      have HLk:Hid ((L3++(enc m.globs.length++(m.globs.take k).flatMap globB)).length≤270582945000):=hideIt (by
       have h1:=globs_len hnum HLE.out m.globs.length k hlg (fun j y hj hy=>(globE_fit HEr.out j y hj hy).2)
       have:=HLE.out
       have h2:=HL3.out
       rw [List.length_append];omega)
      clear hr1 hx
      go_wp2_with fail
      generalize hw3:wr.alloc _=w3
      have hb3:Below wr.heap.size wr w3:=by rw [←hw3];exact(Below.refl _ _).alloc (Nat.le_refl _) _
      have HK3:=hideIt (HKr.out.all hb3);have HB3:=hideIt (HBr.out.below hb3 HBr.out.lt);have HD3:=hideIt (HDr.out.all_ hb3)
      have Hn3:Hid (Blk w3 wr.heap.size 82 [.int .u8 (x.l.toNat:Int),.bool x.m,.int .u64 (x.v:Int)]):=by rw [←hw3];exact hideIt (Blk.new wr 82 [.int .u8 (x.l.toNat:Int),.bool x.m,.int .u64 (x.v:Int)])
      have hbase3:base≤w3.heap.size:=Nat.le_trans hbaser hb3.size
      have hn0:=Hn3.out.q 0 rfl
      have hn1:=Hn3.out.q 1 rfl
      have hn2:=Hn3.out.q 2 rfl
      clear hw3 hb3 hc0' hc1' hc2'
      refine(types_Letter x.l.toNat (UInt8.toNat_lt x.l) w3).mono ?_
      rintro e w4 ⟨rfl,rfl⟩
      go_wp2_with fail
      refine(mod_ask _ 15 0 (by decide) _).mono ?_
      rintro e w4 ⟨rfl,⟨h0,rfl⟩ | ⟨h0,rfl⟩⟩
      case inr=>
       have hX:Hid (EE=askE (isN x.l.toNat) 15):=hideIt (by rw [←HE.out];exact head_globs HT.out HHE.out h0 (globE_hit H0.out HEr.out Hx.out h0 (by rw [globE_at Hx.out,orE_l h0])))
       have H00:=hideIt h0;clear h0
       go_wp2_with fail
       exact⟨rfl,HK3.out,.inr ⟨by rw [hX.out];exact H00.out,by rw [hX.out]⟩⟩
      have H15:=hideIt h0;clear h0
      go_wp2_with fail
      refine(wr_value x w3).mono ?_
      rintro e w4 ⟨hb4,hcase⟩
      have HK4:=hideIt (HK3.out.all hb4);have HB4:=hideIt (HB3.out.below hb4 HB3.out.lt);have HD4:=hideIt (HD3.out.all_ hb4);have Hn4:=hideIt (Hn3.out.below hb4 Hn3.out.lt)
      have hbase4:base≤w4.heap.size:=Nat.le_trans hbase3 hb4.size
      clear hb4 hn0 hn1 hn2 HK3 HB3 HD3 Hn3 hbase3
      rcases hcase with⟨h0,rfl⟩ | ⟨h0,rfl⟩
      case inr=>
       have hX:Hid (EE=askE (fitN x.v x.l.toNat) 17):=hideIt (by rw [←HE.out];exact head_globs HT.out HHE.out h0 (globE_hit H0.out HEr.out Hx.out h0 (by rw [globE_at Hx.out,orE_r H15.out])))
       have H00:=hideIt h0;clear h0
       go_wp2_with fail
       exact⟨rfl,HK4.out,.inr ⟨by rw [hX.out];exact H00.out,by rw [hX.out]⟩⟩
      have H17:=hideIt h0;clear h0
      have hn0:=Hn4.out.q 0 rfl
      have hn1:=Hn4.out.q 1 rfl
      have hn2:=Hn4.out.q 2 rfl
      go_wp2_with fail
      go_quiet (fail)
      have HB64:Hid (x.v<18446744073709551616):=hideIt hv64
      have HISN:Hid (isN x.l.toNat=true∧fitN x.v x.l.toNat=true):=hideIt ⟨askE_zero (by decide) H15.out,askE_zero (by decide) H17.out⟩
      generalize hw5:w4.drewN nq=w5
      have hb5:Below w4.heap.size w4 w5:=by rw [←hw5];exact below_drewN (Below.refl _ _) nq
      have HK5:=hideIt (HK4.out.all hb5);have HB5:=hideIt (HB4.out.below hb5 HB4.out.lt);have HD5:=hideIt (HD4.out.all_ hb5);have Hn5:=hideIt (Hn4.out.below hb5 Hn4.out.lt)
      have hbase5:base≤w5.heap.size:=Nat.le_trans hbase4 hb5.size
      have hy0:=Hn5.out.q 0 rfl
      have hy1:=Hn5.out.q 1 rfl
      have hy2:=Hn5.out.q 2 rfl
      clear hw5 hb5 hn0 hn1 hn2 HK4 HB4 HD4 Hn4 hbase4 hv64
      go_upto_if 104 with fail
      go_cut [11] (fun a wx=>a= .int .u8 (mutI x.m)∧wx=w5)
      case first=>
       cases hm:x.m with
       | true=>rw [hm] at hy1;go_wp2_with fail;go_meet;exact⟨by rw [hm];rfl,rfl⟩
       | false=>rw [hm] at hy1;go_wp2_with fail;go_meet;exact⟨by rw [hm];rfl,rfl⟩
      case rest=>
       obtain⟨rfl,rfl⟩:=hcut
       go_upto_if 107 with fail
       go_cut [12] (fun a wx=>a= .int .i64 (signB x)∧wx=wc)
       case first=>
        rcases(show x.l.toNat=119∨x.l.toNat=108 from by have:=HISN.out.1;unfold isN at this;simp at this;omega)with hl | hl
        ·have hs:=hideIt (sign_w hl (by have:=HISN.out.2;unfold fitN at this;rw [hl] at this;simpa using this))
         have hb:((x.l.toNat:Int)==119)=true:=by rw [hl];rfl
         clear hl
         go_wp2_with fail
         go_meet
         exact⟨congrArg _ hs.out,rfl⟩
        ·have hs:=hideIt (sign_l hl HB64.out)
         have hb:((x.l.toNat:Int)==119)=false:=by rw [hl];rfl
         clear hl
         go_wp2_with fail
         go_meet
         exact⟨congrArg _ hs.out,rfl⟩
       case rest=>
        obtain⟨rfl,rfl⟩:=hcut
        go_upto_region 31 with fail
        go_cut [] (fun wx=>Keep K w wx∧Blk wx w.heap.size 29 (modC A1 A2 (some ⟨b,o,none⟩) A4 A5 A6 c1 c2 c3 c4 c5 c6 m)∧Hd wx base g (w.heap.size+1) K1 m.first 0 m.types ((L3++(enc m.globs.length++(m.globs.take k).flatMap globB))++ [x.l,if x.m then 1 else 0]))
        case first=>
         have HT0:=HD5.out
         obtain⟨T,d,s1,⟨A,c,s2⟩,s3,s4,s5⟩:=HT0
         have hg0:=s2.blk.q 2 rfl
         have hgl:g<wc.heap.size:=s2.blk.lt
         have hgf:=s2.blk.frozen 2
         have hwl:wr.heap.size<wc.heap.size:=Hn5.out.lt
         have Hs1:=hideIt s1;have Hs2:=hideIt s2;have Hs4:=hideIt s4;have Hs5:=hideIt s5
         clear s1 s2 s4 s5 hy1 hy2
         generalize hLL:L3++(enc m.globs.length++(m.globs.take k).flatMap globB)=LL at*
         have HLL:=hideIt hLL
         clear hLL
         obtain⟨i0,hi0,hz,hs',hby⟩:=info_parts info_u8
         have hbA:Below wc.heap.size wc (wc.drew.alloc (.cells #[.int .u8 (x.l.toNat:Int),.int .u8 (mutI x.m)] 5)):=Below.alloc (show Below wc.heap.size wc wc.drew from⟨rfl,rfl,rfl,Nat.le_refl _,fun _ _=>rfl⟩) (Nat.le_refl _) _
         have Hs2A:=hideIt (Hs2.out.all_ hbA)
         have Hs1A:=hideIt (Hs1.out.keep (K:=K1) (Keep.of_all hbA))
         have HKA:=hideIt (HK5.out.all hbA)
         have HBA:=hideIt (HB5.out.below hbA HB5.out.lt)
         have HNE:Hid ([.int .u8 (x.l.toNat:Int),.int .u8 (mutI x.m)]= [x.l,if x.m then 1 else 0].map bv):=hideIt (by rw [List.map_cons,List.map_cons,mutI_bv];rfl)
         have hrow2:Hid (Row (wc.drew.alloc (.cells #[.int .u8 (x.l.toNat:Int),.int .u8 (mutI x.m)] 5)) (wc.heap.size+1) (some ⟨wc.heap.size,0,none⟩) [.int .u8 (x.l.toNat:Int),.int .u8 (mutI x.m)]):=hideIt (by have:=(Blk.new wc.drew 5 [.int .u8 (x.l.toNat:Int),.int .u8 (mutI x.m)]).row 0 2;exact this)
         have hszA:base≤(wc.drew.alloc (.cells #[.int .u8 (x.l.toNat:Int),.int .u8 (mutI x.m)] 5)).heap.size:=Nat.le_trans hbase5 hbA.size
         have hgA:=Hs2A.out.blk.lt
         clear hbA
         generalize hwA:wc.drew.alloc (.cells #[.int .u8 (x.l.toNat:Int),.int .u8 (mutI x.m)] 5)=wA at Hs2A Hs1A HKA HBA hrow2 hszA hgA
         have hcA:=Hs2A.out.blk.q 2 rfl
         go_region_law (refine step_appB rfl (.tmp 116) (.tmp 120) 41 rfl base 5 i0 _ 1 underlying41 hi0 hz hs' hby rfl _ LL.length (LL.map bv) rfl (by exact Hs2A.out.own) _ (some ⟨wc.heap.size,0,none⟩) 2 2 [.int .u8 (x.l.toNat:Int),.int .u8 (mutI x.m)] (by omega) rfl rfl (by exact hrow2.out) (by intro u hu;simp at hu;rcases hu with rfl | rfl<;>rfl) (by have:=HLk.out;unfold maxLen;omega) (by have:=HLk.out;omega) (by exact hszA) ?_;intro A4 c4 w6 h2 h3 h4;rw [HNE.out] at h2;have HP:=hideIt (Hs2A.out.put (m:=2) rfl h3 h2 h4);have hb6:=grown_blk h3 Hs2A.out.blk (fun e=>(Hs2A.out.apart g e).2 rfl);have hf6:=hb6.frozen 2;have hc6:=hb6.cell 2;clear h2 h3 h4 hb6)
         all_goals
          have HH:=hideIt (Hd.of Hs1A.out s3 Hs4.out Hs5.out HP.out.1 HP.out.2)
          clear HP hf6 hc6
          go_wp2_with fail
          go_meet
          exact⟨HKA.out.trans (HH.out.1.mono HKK.out.1),HBA.out.keep HH.out.1 HKK.out.2,HH.out.2⟩
        case rest=>
         obtain⟨hk6,hb6,hd6⟩:=hcut
         obtain⟨T,d,s1,⟨A,c,s2⟩,s3,s4,s5⟩:=hd6
         have HK6:=hideIt hk6;have HB6:=hideIt hb6
         generalize hLL:(L3++(enc m.globs.length++(m.globs.take k).flatMap globB))++ [x.l,if x.m then 1 else 0]=LL at*
         have HLL:=hideIt hLL
         have HLn:Hid (LL.length≤270582945002):=hideIt (by rw [←hLL,List.length_append];have:=HLk.out;simp only [List.length_cons,List.length_nil];omega)
         have hg2:=s2.blk.q 2 rfl
         have hgf:=s2.blk.frozen 2
         have hbase6:base≤wc.heap.size:=Nat.le_trans hbase hk6.size
         have Hs1:=hideIt s1;have Hs2:=hideIt s2;have Hs4:=hideIt s4;have Hs5:=hideIt s5
         have hsb:=signB_lt HB64.out HISN.out.2
         have HFL:=enc_len10 (folded (signB x)) (folded_lt _ hsb.1 hsb.2)
         obtain⟨i0,hi0,hz,hs',hby⟩:=info_parts info_u8
         clear hLL s1 s2 s4 s5 hk6 hb6 HK5 HB5 HD5 Hn5 hbase5
         go_wp2_with fail
         go_region_law (first
          | (go_simp;go_at_call 118;refine(wire_Svar (signB x) hsb.1 hsb.2 _).mono ?_;rintro e w7 ⟨A7,c7,rfl,h2,h3⟩;have hb7:Below wc.heap.size wc w7:=⟨h3.os,h3.tape,h3.output,h3.size,h3.block⟩;have HR7:=hideIt (Row.own h2);have Hs27:=hideIt (Hs2.out.all_ hb7);have Hs17:=hideIt (Hs1.out.keep (K:=K1) (Keep.of_all hb7));have HK7:=hideIt (HK6.out.all hb7);have HB7:=hideIt (HB6.out.below hb7 HB6.out.lt);have hbase7:base≤w7.heap.size:=Nat.le_trans hbase6 hb7.size;have hc7:=Hs27.out.blk.q 2 rfl;have hf7:=Hs27.out.blk.frozen 2;clear h2 h3 hb7)
          | (refine step_appB rfl (.tmp 128) (.tmp 130) 41 rfl base 5 i0 _ 1 underlying41 hi0 hz hs' hby rfl _ LL.length (LL.map bv) rfl (by exact Hs27.out.own) _ A7 (enc (folded (signB x))).length c7 ((enc (folded (signB x))).map bv) (enc_pos _) rfl (by rw [List.length_map,Nat.mul_one]) (by exact HR7.out) (bv_one _) (by have:=HLn.out;unfold maxLen;omega) (by have:=HLn.out;omega) hbase7 ?_;intro A8 c8 w8 h2 h3 h4;have HP:=hideIt (Hs27.out.put rfl h3 h2 h4);have hb8:=grown_blk h3 Hs27.out.blk (fun e=>(Hs27.out.apart g e).2 rfl);have hf8:=hb8.frozen 2;have hc8:=hb8.cell 2;clear h2 h3 h4 hb8))
         all_goals
          have HH:=hideIt (Hd.of Hs17.out s3 Hs4.out Hs5.out HP.out.1 HP.out.2)
          have HN:Hid (firstE (k+1) (globE m)=0):=hideIt (firstE_next HEr.out (by rw [globE_at Hx.out,orE_r H15.out];exact H17.out))
          have HF:Hid (LL++enc (folded (signB x))=L3++(enc m.globs.length++(m.globs.take (k+1)).flatMap globB)):=hideIt (by rw [flat_next Hx.out,←HLL.out];unfold globB;simp only [List.append_assoc])
          clear HP hf8 hc8 hc7 hf7
          go_wp2_with fail
          refine⟨⟨k+1,by omega,by go_num,HK7.out.trans (HH.out.1.mono HKK.out.1),HB7.out.keep HH.out.1 HKK.out.2,?_,HN.out⟩,by simp [intOf];omega⟩
          rw [←HF.out]
          exact HH.out.2
     ·obtain rfl:k=m.globs.length:=by omega
      go_wp2_with fail
      go_meet
      refine⟨HKr.out,HBr.out,?_,HEr.out⟩
      have:=HDr.out
      rw [List.take_length] at this
      exact this
   case rest=>
    obtain⟨hkc,hbc,hdc,hec⟩:=hcut
    have HGE:Hid (globsE m=0):=hideIt (by unfold globsE;rw [orE_r H0.out];exact hec)
    have HPG:Hid (EE=pagesE m):=hideIt (by rw [←HE.out];exact head_pages HT.out HHE.out HGE.out)
    have HKc:=hideIt hkc;have HBc:=hideIt hbc;have HDc:=hideIt hdc
    have hbasec:base≤wc.heap.size:=Nat.le_trans hbase hkc.size
    have HL4:Hid ((L3++globsB m).length≤270582945000):=hideIt (by have h1:=globs_len hnum HLE.out m.globs.length m.globs.length hlg (fun j y hj hy=>(globE_fit hec j y hj hy).2);rw [List.take_length] at h1;have:=HLE.out;have:=HL3.out;rw [List.length_append];unfold globsB;omega)
    have hz3:=hbc.q 3 rfl
    have hz4:=hbc.q 4 rfl
    clear hkc hbc hdc hec HK2 HB2 HD2 H0 hb2 hx0 H3
    by_cases hbad: ¬(0≤m.first∧m.first≤64)
    ·have hX:Hid (EE=17):=hideIt (by rw [HPG.out];unfold pagesE;exact askE_f (decide_eq_false (fun h=>hbad ⟨h.1,h.2.1⟩)))
     by_cases hneg:m.first<0
     ·have d0:decide (0≤m.first)=false:=decide_eq_false (by omega)
      clear hbad
      go_wp2_with fail
      refine(mod_ask_no 17 0 _).mono ?_
      rintro e w6 ⟨rfl,rfl⟩
      go_wp2_with fail
      exact⟨rfl,HKc.out,.inr ⟨by rw [hX.out];decide,by rw [hX.out]⟩⟩
     ·have d0:decide (0≤m.first)=true:=decide_eq_true (by omega)
      have d1:decide (m.first≤64)=false:=decide_eq_false (by omega)
      have hnn:0≤m.first:=by omega
      clear hbad hneg
      go_wp2_with fail
      refine(mod_ask_no 17 0 _).mono ?_
      rintro e w6 ⟨rfl,rfl⟩
      go_wp2_with fail
      exact⟨rfl,HKc.out,.inr ⟨by rw [hX.out];decide,by rw [hX.out]⟩⟩
    have hfi:0≤m.first∧m.first≤64:=Decidable.not_not.1 hbad
    have d0:decide (0≤m.first)=true:=decide_eq_true hfi.1
    have d1:decide (m.first≤64)=true:=decide_eq_true hfi.2
    have hnn:=hfi.1
    obtain⟨n1,hn1⟩:=Int.eq_ofNat_of_zero_le hfi.1
    have Hn1:Hid (m.first=(n1:Int)∧n1≤64):=hideIt ⟨hn1,by omega⟩
    clear hn1
    clear hbad
    go_wp2_with fail
    refine(mod_ask_yes 17 0 _).mono ?_
    rintro e w6 ⟨rfl,rfl⟩
    go_wp2_with fail
    have hcl:=hd_number n1 (by have:=Hn1.out.2;omega) HDc.out (by have:=HL4.out;omega) hbasec
    rw [←Hn1.out.1] at hcl
    refine hcl.mono ?_
    clear hcl
    rintro e w6 ⟨rfl,hk6,hd6⟩
    have HK6:=hideIt (HKc.out.trans (hk6.mono HKK.out.1));have HB6:=hideIt (HBc.out.keep hk6 HKK.out.2);have HD6:=hideIt hd6
    have hbase6:base≤w6.heap.size:=Nat.le_trans hbasec hk6.size
    have hy3:=HB6.out.q 3 rfl
    have hy4:=HB6.out.q 4 rfl
    clear hk6 hd6 HKc HBc HDc hz3 hz4
    by_cases hbad: ¬(m.first≤m.most∧m.most≤64)
    ·have hX:Hid (EE=17):=hideIt (by rw [HPG.out];unfold pagesE;exact askE_f (decide_eq_false (fun h=>hbad ⟨h.2.2.1,h.2.2.2⟩)))
     by_cases hneg:m.most<m.first
     ·have e0:decide (m.first≤m.most)=false:=decide_eq_false (by omega)
      clear hbad
      go_wp2_with fail
      refine(mod_ask_no 17 0 _).mono ?_
      rintro e w7 ⟨rfl,rfl⟩
      go_wp2_with fail
      exact⟨rfl,HK6.out,.inr ⟨by rw [hX.out];decide,by rw [hX.out]⟩⟩
     ·have e0:decide (m.first≤m.most)=true:=decide_eq_true (by omega)
      have e1:decide (m.most≤64)=false:=decide_eq_false (by omega)
      have hmm:m.first≤m.most:=by omega
      clear hbad hneg
      go_wp2_with fail
      refine(mod_ask_no 17 0 _).mono ?_
      rintro e w7 ⟨rfl,rfl⟩
      go_wp2_with fail
      exact⟨rfl,HK6.out,.inr ⟨by rw [hX.out];decide,by rw [hX.out]⟩⟩
    have hmo:m.first≤m.most∧m.most≤64:=Decidable.not_not.1 hbad
    have hX:Hid (EE=0):=hideIt (by rw [HPG.out];unfold pagesE;exact askE_t (decide_eq_true ⟨hfi.1,hfi.2,hmo.1,hmo.2⟩))
    have e0:decide (m.first≤m.most)=true:=decide_eq_true hmo.1
    have e1:decide (m.most≤64)=true:=decide_eq_true hmo.2
    have hmm:=hmo.1
    obtain⟨n2,hn2⟩:=Int.eq_ofNat_of_zero_le (show 0≤m.most by omega)
    have Hn2:Hid (m.most=(n2:Int)∧n2≤64):=hideIt ⟨hn2,by omega⟩
    clear hn2
    clear hbad
    go_wp2_with fail
    refine(mod_ask_yes 17 0 _).mono ?_
    rintro e w7 ⟨rfl,rfl⟩
    go_wp2_with fail
    have hcl:=hd_number n2 (by have:=Hn2.out.2;omega) HD6.out (by have:=HL4.out;have:=enc_len10 n1 (by have:=Hn1.out.2;omega);rw [List.length_append];omega) hbase6
    rw [←Hn2.out.1] at hcl
    refine hcl.mono ?_
    clear hcl
    rintro e w7 ⟨rfl,hk7,hd7⟩
    have HK7:=hideIt (HK6.out.trans (hk7.mono HKK.out.1));have HD7:=hideIt (hd7.less HKK.out.1)
    clear hk7 hd7 HK6 HB6 HD6 hy3 hy4
    go_wp2_with fail
    go_end0
    refine⟨HK7.out,.inl ⟨hX.out,rfl,w.heap.size+1,?_⟩⟩
    have hfin:l++headB m=L3++globsB m++enc n1++enc n2:=by
     unfold headB
     rw [Hn1.out.1,Hn2.out.1,←HL3e.out,←HL2.out]
     simp only [List.append_assoc,Int.toNat_natCast]
    rw [hfin]
    exact HD7.out
end Go.Proofs.YtebgikflpgcnlaaGreatDoor
