/- Part 39 of the proof: RefI RefJ RefK Ldg -/
import Derived.Test.YtlagonfamllgjaaGreatDoorR37
namespace Go.Proofs.YtlagonfamllgjaaGreatDoor
set_option linter.unusedVariables false
set_option linter.unusedSimpArgs false
set_option maxRecDepth 100000
set_option maxHeartbeats 4000000
open Go.RowKit Tryz
def OB (W:World) (base:Nat) (A:Option Addr) (n c:Nat):Prop:= ∃xs,FJ W base 5 (.slice A n c) n xs
theorem OB.below {W W':World} {base:Nat} {A:Option Addr} {n c:Nat} (h:OB W base A n c) (hb:Below W.heap.size W W'):OB W' base A n c:=by
 obtain⟨xs,h⟩:=h
 exact⟨xs,h.XU hb⟩
def Zt (w w':World):Prop:= ∀(g:Nat) (t:TypeId) (xs:List Value),t≠5→AQ w g t xs→AQ w' g t xs
theorem Zt.DC {w w':World} (h:Below w.heap.size w w'):Zt w w':=fun g t xs _ hb=>hb.below h hb.lt
theorem Zt.trans {w w' w'':World} (h:Zt w w') (h':Zt w' w''):Zt w w'':=fun g t xs ht hb=>h' g t xs ht (h g t xs ht hb)
theorem FJ.ne {w:World} {base:Nat} {v:Value} {n:Nat} {xs ys:List Value} {g:Nat} {t:TypeId} (h:FJ w base 5 v n xs) (hb:AQ w g t ys) (ht:t≠5):v.ownBlock≠some g:=by
 rcases h with h | ⟨k,fz,rfl,_,hh,_⟩
 ·exact A_ h hb (Ne.symm ht)
 ·intro e
  injection e with e
  have e:k=g:=e
  subst e
  unfold AQ at hb
  rw [hh] at hb
  injection hb with hb
  injection hb with _ h2
  exact ht h2.symm
theorem JL {w:World} {ops:Array Oper} {rest:List Oper} {o:Oper} {a:Act} {Q:Exit→Act→World→Prop} (hgd:o.guard=none) (s x:Operand)
 (ho:o.op= .call {callee:= .builtin .append,args:= #[s,x],argTypes:= #[40,40]}) (base:Nat) (A:Option Addr) (n c:Nat) (hs:a.eval s= .slice A n c) (hown:OB w base A n c)
 (B:Nat) (A2:Option Addr) (m c2:Nat) (news:List UInt8) (hx:a.eval x= .slice A2 m c2) (hm0:0<m) (hm:m=news.length) (hr:Row w B A2 (news.map bv)) (h47:n+m≤140000000000000) (hbase:base≤w.heap.size)
 (h: ∀A' c' w',OB w' base A' (n+m) c'→Below base w w'→Zt w w'→wpList prog ops Q rest (a.put o.dst (.slice A' (n+m) c')) w'):wpList prog ops Q (o::rest) a w:=by
 obtain⟨xs,hown⟩:=hown
 obtain⟨i0,hi,hz,hs',hb⟩:=info_parts Dt
 refine QN w hgd s x 40 ho base 5 i0 _ 1 underlying40 hi hz hs' hb rfl _ n xs hs hown B A2 m c2 (news.map bv) hm0 hx (by rw [List.length_map,Nat.mul_one];exact hm.symm) hr (Eh news) (by unfold maxLen;omega) (by omega) hbase ?_
 intro A' c' w' h2 h3 _
 refine h A' c' w' ⟨_,.inl h2⟩ ⟨h3.os,h3.tape,h3.output,h3.size,fun k hk=>h3.block k (by omega) (fun e=> ?_)⟩ ?_
 ·have:=(hown.lt k e.symm).1
  omega
 ·exact fun g t ys ht hb=>Ay h3 hb (hown.ne hb ht)
theorem Jd (base:Nat) (A:Option Addr) (n c v:Nat) (w:World) (hown:OB w base A n c) (hbase:base≤w.heap.size) (hv:v<9223372036854775808) (hn:n≤100000000000000):
 Calls prog 140 #[.slice A n c,.int .i64 v] w fun e w'=> ∃A' c',e= .returned (.slice A' (n+(enc v).length) c')∧OB w' base A' (n+(enc v).length) c'∧Below base w w'∧Zt w w':=by
 have HO:=AA hown
 have hl:=AY v (by omega)
 have hpos:=FC v
 clear hown
 go_enter func140,ntmps140
 go_wp2_with fail
 refine(KC v (by omega) w).mono ?_
 rintro e w1 ⟨A1,c1,rfl,ho1,hb1⟩
 have HO1:=AA (Row.own ho1)
 have HB1:=AA hb1
 have hz:=hb1.size
 clear ho1 hb1
 go_wp2_with (at_builtin;refine JL rfl (.tmp 5) (.tmp 8) rfl base A n c rfl (HO.out.below HB1.out) _ A1 (enc v).length c1 (enc v) rfl hpos rfl HO1.out (by omega) (by omega) ?_;intro A2 c2 w2 h2 h3 h4;have H2:=AA h2;have H3:=AA h3;have H4:=AA h4;clear h2 h3 h4)
 go_ret
 exact⟨A2,c2,rfl,H2.out,(HB1.out.mono hbase).trans H3.out,(Zt.DC HB1.out).trans H4.out⟩
theorem KV (base:Nat) (A:Option Addr) (n c:Nat) (v:Int) (w:World) (hown:OB w base A n c) (hbase:base≤w.heap.size) (h0:0≤v∧v<9223372036854775808) (hn:n≤100000000000000):
 Calls prog 140 #[.slice A n c,.int .i64 v] w fun e w'=> ∃A' c',e= .returned (.slice A' (n+(enc v.toNat).length) c')∧OB w' base A' (n+(enc v.toNat).length) c'∧Below base w w'∧Zt w w':=by
 obtain⟨k,rfl⟩:=Int.eq_ofNat_of_zero_le h0.1
 exact Jd base A n c k w hown hbase (by omega) hn
theorem KW (s:ByteArray):(enc s.size).length+s.size=(enc s.size++s.data.toList).length:=by rw [List.length_append];simp
theorem gZ (x:Ei) (w:World) (hl:MQ x.l.toNat=true) (hf:Du x.v x.l.toNat=true) (hv:x.v<18446744073709551616):
 Calls prog 143 #[.agg #[.int .u8 (x.l.toNat:Int),.bool x.m,.int .u64 (x.v:Int)]] w fun e w'=>Below w.heap.size w w'∧e= .returned (.int .i64 (Ej x)):=by
 have box: ∀w1,w.alloc (.cells #[.int .u8 (x.l.toNat:Int),.bool x.m,.int .u64 (x.v:Int)] 139)=w1→Below w.heap.size w w1∧w1.cell? ⟨w.heap.size,0,none⟩=some (.int .u8 (x.l.toNat:Int))∧w1.cell? ⟨w.heap.size,2,none⟩=some (.int .u64 (x.v:Int)):=fun w1 h=>by
  have hb:=AQ.new w 139 [.int .u8 (x.l.toNat:Int),.bool x.m,.int .u64 (x.v:Int)]
  change AQ (w.alloc (.cells #[.int .u8 (x.l.toNat:Int),.bool x.m,.int .u64 (x.v:Int)] 139)) _ _ _ at hb
  rw [h] at hb
  exact⟨by rw [←h];exact(Below.refl _ _).alloc (Nat.le_refl _) _,hb.cell 0,hb.cell 2⟩
 have FQ:=AA box
 clear box
 by_cases h1:x.l.toNat=119
 ·have hv32:x.v<4294967296:=by
   unfold Du at hf;rw [h1] at hf;simpa using hf
  have q1:((x.l.toNat:Int)==119)=true:=by rw [beq_iff_eq];omega
  by_cases h2:2147483648≤x.v
  ·have q2:decide ((2147483648:Int)≤(x.v:Int))=true:=decide_eq_true (by omega)
   have HS:Hid (Ej x=(x.v:Int)-4294967296):=AA (by unfold Ej;rw [if_pos ⟨h1,h2⟩])
   clear hl hf h1
   go_enter func143,ntmps143
   go_upto_region 1 with fail
   generalize hw1:w.alloc (.cells #[.int .u8 (x.l.toNat:Int),.bool x.m,.int .u64 (x.v:Int)] 139)=w1
   obtain⟨hb1,c0,c2⟩:=FQ.out w1 hw1
   have HB1:=AA hb1
   clear hw1 hb1
   go_wp2_with fail
   go_ret
   exact⟨HB1.out,by rw [HS.out];rfl⟩
  ·have q2:decide ((2147483648:Int)≤(x.v:Int))=false:=decide_eq_false (by omega)
   have HS:Hid (Ej x=(x.v:Int)):=AA (by unfold Ej;rw [if_neg (fun h=>h2 h.2),if_pos (by omega)])
   clear hl hf h1
   go_enter func143,ntmps143
   go_upto_region 1 with fail
   generalize hw1:w.alloc (.cells #[.int .u8 (x.l.toNat:Int),.bool x.m,.int .u64 (x.v:Int)] 139)=w1
   obtain⟨hb1,c0,c2⟩:=FQ.out w1 hw1
   have HB1:=AA hb1
   clear hw1 hb1
   go_wp2_with fail
   go_ret
   exact⟨HB1.out,by rw [HS.out];rfl⟩
 ·have q1:((x.l.toNat:Int)==119)=false:=by rw [beq_eq_false_iff_ne];omega
  have ADZ:x.l.toNat=108:=by
   unfold MQ at hl;simp at hl;omega
  have HS:=AA (j5 ADZ hv)
  clear hl hf h1 ADZ
  go_enter func143,ntmps143
  go_upto_region 1 with fail
  generalize hw1:w.alloc (.cells #[.int .u8 (x.l.toNat:Int),.bool x.m,.int .u64 (x.v:Int)] 139)=w1
  obtain⟨hb1,c0,c2⟩:=FQ.out w1 hw1
  have HB1:=AA hb1
  clear hw1 hb1
  go_wp2_with fail
  go_ret
  exact⟨HB1.out,by rw [←HS.out];rfl⟩
def LaC (w1:World) (N:Nat) (v:Value) (wx:World):Prop:= ∃(n:Nat) (A:Option Addr) (c:Nat),n=N∧v= .slice A n c∧OB wx w1.heap.size A n c∧Below w1.heap.size w1 wx
def zk {α:Type} (w1:World) (N:Nat) (f:α→List UInt8) (l:List α) (v i:Value) (wr:World):Prop:= ∃(k n:Nat) (A:Option Addr) (c:Nat),k≤l.length∧i= .int .i64 k∧v= .slice A n c∧n=N+((l.take k).flatMap f).length∧OB wr w1.heap.size A n c∧Below w1.heap.size w1 wr
theorem K5 {α:Type} {f:α→List UInt8} {l:List α} {k:Nat} {x:α} (h:l[k]?=some x):((l.take (k+1)).flatMap f).length=((l.take k).flatMap f).length+(f x).length∧((l.take k).flatMap f).length+(f x).length≤(l.flatMap f).length:=by
 have h1:=congrArg List.length (EH (f:=f) h)
 rw [List.length_append] at h1
 refine⟨h1,?_⟩
 have h2:(l.flatMap f).length=((l.take (k+1)).flatMap f).length+((l.drop (k+1)).flatMap f).length:=by
  rw [←List.length_append,←List.flatMap_append,List.take_append_drop]
 omega
theorem Nw {α:Type} {f:α→List UInt8} {l:List α} {k:Nat} (h:k=l.length):((l.take k).flatMap f).length=(l.flatMap f).length:=by rw [jH h]
theorem Ov (s:ByteArray):(FM s).length=(enc s.size).length+s.size:=by
 unfold FM;rw [List.length_append];simp
structure ADa (m:AP):Prop where
 types: ∀t∈m.types,t.p.size≤8∧t.r.size≤8
 hosts: ∀t∈m.hosts,0≤t∧t<9223372036854775808
 globs: ∀x∈m.globs,MQ x.l.toNat=true∧Du x.v x.l.toNat=true∧x.v<18446744073709551616
 f0:0≤m.first∧m.first≤64
 m0:0≤m.most∧m.most≤64
 fns: ∀f∈m.fns,(0≤f.t∧f.t<9223372036854775808)∧f.loc.size≤300000∧f.code.length≤2048∧ ∀x∈f.code,Aq x=0
 dat: ∀d∈m.dat,(0≤d.at_∧d.at_<9223372036854775808)∧d.b.length≤300000
 Aw: ∀x∈m.Aw,(0≤x.f∧x.f<9223372036854775808)∧x.n.size≤300000
 few:m.types.length≤1000000∧m.hosts.length≤1000000∧m.globs.length≤1000000∧m.fns.length≤1000000∧m.dat.length≤1000000∧m.Aw.length≤1000000
 tot:(J5 m).length≤10000000000000
set_option maxHeartbeats 8000000 in
theorem tO (cs:List Value) (hi:Nat) (m:AP) (w:World) (h:Db.R w 0 hi cs m) (hhi:hi≤w.heap.size) (hin:ADa m):
 Calls prog 112 #[.agg cs.toArray] w fun e w'=>Below w.heap.size w w'∧ ∃A c,e= .returned (.slice A (J5 m).length c):=by
 obtain⟨v1,v2,v3,v4,v5,v6,rfl,h0,h1,h2,_,_,h5,h6,h7⟩:=Av.1 h
 obtain⟨A0,c0,rfl⟩:=AJ h0
 obtain⟨A1,c1,rfl⟩:=AJ h1
 obtain⟨A2,c2,rfl⟩:=AJ h2
 obtain⟨A5,c5,rfl⟩:=AJ h5
 obtain⟨A6,c6,rfl⟩:=AJ h6
 obtain⟨A7,c7,rfl⟩:=AJ h7
 have H0:=AA h0;have H1:=AA h1;have H2:=AA h2;have H5:=AA h5;have H6:=AA h6;have H7:=AA h7;have CJ:=AA hhi;have EU:=AA hin
 obtain⟨w0',w1',w2',w5',w6',w7'⟩:=hin.few
 have HT:Hid (5+((enc m.types.length).length+(m.types.flatMap LD).length+((enc m.hosts.length).length+(m.hosts.flatMap (fun t=>enc t.toNat)).length+((enc m.globs.length).length+(m.globs.flatMap FZ).length+((enc m.first.toNat).length+(enc m.most.toNat).length))))+((enc m.fns.length).length+(m.fns.flatMap UY).length+((enc m.dat.length).length+(m.dat.flatMap I9).length+((enc m.Aw.length).length+(m.Aw.flatMap Jl).length)))=(J5 m).length):=AA (by
  unfold J5 NA Rj NY NZ Na
  simp only [List.length_append]
  have:Ll.length=5:=rfl
  omega)
 have htot:=hin.tot
 rw [←HT.out] at htot
 clear h h0 h1 h2 h5 h6 h7 hhi hin
 go_enter func112,ntmps112
 go_upto_region 1 with fail
 generalize hw1:w.alloc (.cells #[.slice A0 m.types.length c0,.slice A1 m.hosts.length c1,.slice A2 m.globs.length c2,.int .i64 m.first,.int .i64 m.most,.slice A5 m.fns.length c5,.slice A6 m.dat.length c6,.slice A7 m.Aw.length c7] 29)=w1
 obtain⟨hb1,hx1⟩:=Pp hw1
 have hz1:w1.heap.size=w.heap.size+1:=by rw [←hw1];simp
 have HZ:Hid (w.heap.size<w1.heap.size):=AA (by omega)
 have Bh:Hid (∀W,Below w1.heap.size w1 W→AQ W w.heap.size 29 [.slice A0 m.types.length c0,.slice A1 m.hosts.length c1,.slice A2 m.globs.length c2,.int .i64 m.first,.int .i64 m.most,.slice A5 m.fns.length c5,.slice A6 m.dat.length c6,.slice A7 m.Aw.length c7]):=AA (fun W hW=>hx1.below hW hx1.lt)
 have KX:Hid (∀W,Below w1.heap.size w1 W→Below w.heap.size w W):=AA (fun W hW=>hb1.trans (hW.mono hb1.size))
 clear hw1 hb1 hx1 hz1
 have kc:=Lib.run_convert_bytes_const (P:=prog) w1 40 5 #[.int .u8 70,.int .u8 76,.int .u8 71,.int .u8 78,.int .u8 1] 5 5 underlying40 underlying5
 go_upto_region 2 with fail
 generalize hw2:World.alloc w1 _=wc
 have hb2:Below w1.heap.size w1 wc:=by rw [←hw2];exact(Below.refl _ _).alloc (Nat.le_refl _) _
 have ho2:OB wc w1.heap.size (some ⟨w1.heap.size,0,none⟩) 5 5:=⟨[.int .u8 70,.int .u8 76,.int .u8 71,.int .u8 78,.int .u8 1],.inr ⟨w1.heap.size,(5,6),rfl,Nat.le_refl _,by rw [←hw2];exact heap_alloc_new w1 _,rfl⟩⟩
 have HO:=AA ho2;have HQ:=AA hb2
 clear kc hw2 ho2 hb2
 have q0:=(Bh.out wc HQ.out).q 0 rfl
 go_wp2_with fail
 refine(Jd w1.heap.size _ _ _ m.types.length wc HO.out HQ.out.size (by omega) (by omega)).mono ?_
 rintro e yp0 ⟨Cp0,Kp0,rfl,ho,hb,hkt⟩
 have HTp0:=AA hkt
 have ADb:=AA ho
 have zl:Hid (Below w1.heap.size w1 yp0):=AA (HQ.out.trans hb)
 clear ho hb hkt
 clear q0 HO HQ
 go_upto_block 0 with fail
 obtain⟨N0,hN⟩: ∃N,N=5+(enc m.types.length).length:=⟨_,rfl⟩
 have OA:=AA hN
 have hbd:N0+(m.types.flatMap (LD)).length≤10000000000000:=by have:=OA.out;omega
 clear hN
 go_cut [3] from 22 to 46 (fun v wx=>LaC w1 (N0+(m.types.flatMap (LD)).length) v wx)
 case first=>
  have q0:=(Bh.out yp0 zl.out).q 0 rfl
  go_wp2_with fail
  go_loopw [3,4] (fun v i wr=>zk w1 N0 (LD) m.types v i wr) (fun _ i _=>m.types.length-(intOf i).toNat)
  case atStart=>exact⟨0,_,_,_,Nat.zero_le _,rfl,rfl,by simp [OA.out],ADb.out,zl.out⟩
  case round=>
   obtain⟨k,n,A,c,hk,rfl,rfl,hn,ho,hb⟩:=hrel
   have HO:=AA ho;have HQ:=AA hb;have hsz:=hb.size;have HN:=AA hn
   clear ho hb q0 hn
   have q0:=(Bh.out wr HQ.out).q 0 rfl
   by_cases hlt:k<m.types.length
   ·obtain⟨x,hx⟩: ∃x,m.types[k]?=some x:=⟨_,List.getElem?_eq_getElem hlt⟩
    obtain⟨b,o,rfl,_,hbb,d0,d1,_,_⟩:=DN H0.out hx
    have lb:b<w.heap.size:=Nat.lt_of_lt_of_le hbb CJ.out
    have hk0:(0:Int)≤k:=by omega
    have hk1:(k:Int)<m.types.length:=by omega
    obtain⟨hfl,hfm⟩:=K5 (f:=LD) hx
    have NI:=AA hfl
    have hnb:n+(LD x).length≤10000000000000:=by have:=HN.out;omega
    clear hfl hfm
    have zm:=EU.out.types x (List.mem_of_getElem? hx)
    have hln:(LD x).length=((enc x.p.size).length+x.p.size)+((enc x.r.size).length+x.r.size):=by unfold LD;rw [List.length_append,Ov,Ov]
    rw [hln] at hnb
    have bS:=AA hln;clear hln
    have pp:=FC x.p.size;have pr:=FC x.r.size
    have e0:wr.cell? ⟨b,o+k*2,none⟩=some (.string x.p):=((KX.out wr HQ.out).cell lb (p:=⟨b,o+k*2,none⟩)).trans d0
    clear hx hbb
    go_wp2_with fail
    refine(Lp x.p (by omega) wr).mono ?_
    rintro e xa ⟨Ba,da,rfl,ho,hb⟩
    have HNa:=AA (Row.own ho)
    have HOa:=AA (HO.out.below hb)
    have HQa:Hid (Below w1.heap.size w1 xa):=AA (HQ.out.trans (hb.mono HQ.out.size))
    have T9:=AA (Zt.DC hb)
    have hsz:=HQa.out.size
    clear ho hb
    go_upto_region 7 with(at_builtin;refine JL rfl (.tmp 29) (.tmp 36) rfl w1.heap.size _ _ _ rfl HOa.out _ Ba _ _ (enc (x.p).size++(x.p).data.toList) rfl (by omega) (KW _) HNa.out (by omega) hsz ?_;intro Ca Ka ya h2 h3 h4;have ig:=AA h2;have Qu:=AA (HQa.out.trans h3);have zn:=AA h4;clear h2 h3 h4)
    clear q0 e0
    have q0:=(Bh.out ya Qu.out).q 0 rfl
    have e1:ya.cell? ⟨b,o+k*2+1,none⟩=some (.string x.r):=((KX.out ya Qu.out).cell lb (p:=⟨b,o+k*2+1,none⟩)).trans d1
    go_wp2_with fail
    refine(Lp x.r (by omega) ya).mono ?_
    rintro e xb ⟨Bb,db,rfl,ho,hb⟩
    have HNb:=AA (Row.own ho)
    have HOb:=AA (ig.out.below hb)
    have tQ:Hid (Below w1.heap.size w1 xb):=AA (Qu.out.trans (hb.mono Qu.out.size))
    have HXb:=AA (Zt.DC hb)
    have hsz:=tQ.out.size
    clear ho hb
    go_wp2_with (at_builtin;refine JL rfl (.tmp 38) (.tmp 45) rfl w1.heap.size _ _ _ rfl HOb.out _ Bb _ _ (enc (x.r).size++(x.r).data.toList) rfl (by omega) (KW _) HNb.out (by omega) hsz ?_;intro Cb Kb yb h2 h3 h4;have oh:=AA h2;have iq:=AA (tQ.out.trans h3);have om:=AA h4;clear h2 h3 h4)
    exact⟨⟨k+1,_,_,_,by omega,by go_num,rfl,by have:=HN.out;have:=NI.out;have:=bS.out;omega,oh.out,iq.out⟩,by simp [intOf];omega⟩
   ·go_wp2_with fail
    go_meet
    exact⟨_,_,_,by have:=Nw (f:=LD) (show k=m.types.length by omega);have:=HN.out;omega,rfl,HO.out,HQ.out⟩
 case rest=>
  obtain⟨n,A,c,hn,rfl,ho,hb⟩:=hcut
  have HO:=AA ho;have HQ:=AA hb;have hsz:=hb.size
  have RD:=AA hn
  have hnb:n≤10000000000000:=by omega
  clear ho hb hn hbd ADb zl
  have q0:=(Bh.out wc HQ.out).q 1 rfl
  go_wp2_with fail
  refine(Jd w1.heap.size _ _ _ m.hosts.length wc HO.out HQ.out.size (by omega) (by omega)).mono ?_
  rintro e yp1 ⟨Cp1,Kp1,rfl,ho,hb,hkt⟩
  have HTp1:=AA hkt
  have ADd:=AA ho
  have zo:Hid (Below w1.heap.size w1 yp1):=AA (HQ.out.trans hb)
  clear ho hb hkt
  clear q0 HO HQ
  go_upto_block 2 with fail
  obtain⟨N1,hN⟩: ∃N,N=n+(enc m.hosts.length).length:=⟨_,rfl⟩
  have Xq:=AA hN
  have hbd:N1+(m.hosts.flatMap (fun t:Int=>enc t.toNat)).length≤10000000000000:=by have:=OA.out;have:=RD.out;have:=Xq.out;omega
  clear hN
  go_cut [3] from 52 to 65 (fun v wx=>LaC w1 (N1+(m.hosts.flatMap (fun t:Int=>enc t.toNat)).length) v wx)
  case first=>
   have q0:=(Bh.out yp1 zo.out).q 1 rfl
   go_wp2_with fail
   go_loopw [3,5] (fun v i wr=>zk w1 N1 (fun t:Int=>enc t.toNat) m.hosts v i wr) (fun _ i _=>m.hosts.length-(intOf i).toNat)
   case atStart=>exact⟨0,_,_,_,Nat.zero_le _,rfl,rfl,by simp [Xq.out],ADd.out,zo.out⟩
   case round=>
    obtain⟨k,n,A,c,hk,rfl,rfl,hn,ho,hb⟩:=hrel
    have HO:=AA ho;have HQ:=AA hb;have hsz:=hb.size;have HN:=AA hn
    clear ho hb q0 hn
    have q0:=(Bh.out wr HQ.out).q 1 rfl
    by_cases hlt:k<m.hosts.length
    ·obtain⟨x,hx⟩: ∃x,m.hosts[k]?=some x:=⟨_,List.getElem?_eq_getElem hlt⟩
     obtain⟨b,o,rfl,hbb,d0,_⟩:=wB H1.out hx
     have lb:b<w.heap.size:=Nat.lt_of_lt_of_le hbb CJ.out
     have hk0:(0:Int)≤k:=by omega
     have hk1:(k:Int)<m.hosts.length:=by omega
     obtain⟨hfl,hfm⟩:=K5 (f:=fun t:Int=>enc t.toNat) hx
     have NI:=AA hfl
     have hnb:n+(enc x.toNat).length≤10000000000000:=by have:=HN.out;omega
     clear hfl hfm
     have zm:=EU.out.hosts x (List.mem_of_getElem? hx)
     have e0:wr.cell? ⟨b,o+k,none⟩=some (.int .i64 x):=((KX.out wr HQ.out).cell lb (p:=⟨b,o+k,none⟩)).trans d0
     clear hx hbb
     go_wp2_with fail
     refine(KV w1.heap.size _ _ _ x wr HO.out HQ.out.size zm (by omega)).mono ?_
     rintro e ya ⟨Ca,Ka,rfl,ho,hb,hkt⟩
     have zn:=AA hkt
     have ig:=AA ho
     have Qu:Hid (Below w1.heap.size w1 ya):=AA (HQ.out.trans hb)
     clear ho hb hkt
     go_wp2_with fail
     exact⟨⟨k+1,_,_,_,by omega,by go_num,rfl,by have:=HN.out;have:=NI.out;omega,ig.out,Qu.out⟩,by simp [intOf];omega⟩
    ·go_wp2_with fail
     go_meet
     exact⟨_,_,_,by have:=Nw (f:=fun t:Int=>enc t.toNat) (show k=m.hosts.length by omega);have:=HN.out;omega,rfl,HO.out,HQ.out⟩
  case rest=>
   obtain⟨n,A,c,hn,rfl,ho,hb⟩:=hcut
   have HO:=AA ho;have HQ:=AA hb;have hsz:=hb.size
   have gq:=AA hn
   have hnb:n≤10000000000000:=by omega
   clear ho hb hn hbd ADd zo
   have q0:=(Bh.out wc HQ.out).q 2 rfl
   go_wp2_with fail
   refine(Jd w1.heap.size _ _ _ m.globs.length wc HO.out HQ.out.size (by omega) (by omega)).mono ?_
   rintro e yp2 ⟨Cp2,Kp2,rfl,ho,hb,hkt⟩
   have HTp2:=AA hkt
   have ADe:=AA ho
   have zq:Hid (Below w1.heap.size w1 yp2):=AA (HQ.out.trans hb)
   clear ho hb hkt
   clear q0 HO HQ
   go_upto_block 4 with fail
   obtain⟨N2,hN⟩: ∃N,N=n+(enc m.globs.length).length:=⟨_,rfl⟩
   have HE2:=AA hN
   have hbd:N2+(m.globs.flatMap (FZ)).length≤10000000000000:=by have:=OA.out;have:=RD.out;have:=Xq.out;have:=gq.out;have:=HE2.out;omega
   clear hN
   go_cut [3] from 71 to 100 (fun v wx=>LaC w1 (N2+(m.globs.flatMap (FZ)).length) v wx)
   case first=>
    have q0:=(Bh.out yp2 zq.out).q 2 rfl
    go_wp2_with fail
    go_loopw [3,6,7] (fun v i _ wr=>zk w1 N2 (FZ) m.globs v i wr) (fun _ i _ _=>m.globs.length-(intOf i).toNat)
    case atStart=>exact⟨0,_,_,_,Nat.zero_le _,rfl,rfl,by simp [HE2.out],ADe.out,zq.out⟩
    case round=>
     obtain⟨k,n,A,c,hk,rfl,rfl,hn,ho,hb⟩:=hrel
     have HO:=AA ho;have HQ:=AA hb;have hsz:=hb.size;have HN:=AA hn
     clear ho hb q0 hn
     have q0:=(Bh.out wr HQ.out).q 2 rfl
     by_cases hlt:k<m.globs.length
     ·obtain⟨x,hx⟩: ∃x,m.globs[k]?=some x:=⟨_,List.getElem?_eq_getElem hlt⟩
      obtain⟨b,o,rfl,_,hbb,d0,d1,d2,_⟩:=Hw H2.out hx
      have lb:b<w.heap.size:=Nat.lt_of_lt_of_le hbb CJ.out
      have hk0:(0:Int)≤k:=by omega
      have hk1:(k:Int)<m.globs.length:=by omega
      obtain⟨hfl,hfm⟩:=K5 (f:=FZ) hx
      have NI:=AA hfl
      have hnb:n+(FZ x).length≤10000000000000:=by have:=HN.out;omega
      clear hfl hfm
      have zm:=EU.out.globs x (List.mem_of_getElem? hx)
      have HS8:=AA zm
      have hsb:=OW zm.2.2 zm.2.1
      have hln:(FZ x).length=2+(enc (folded (Ej x))).length:=by unfold FZ;rw [List.length_append];rfl
      rw [hln] at hnb
      have bS:=AA hln;clear hln
      have pp:=FC (folded (Ej x))
      have e0:wr.cell? ⟨b,o+k*3,none⟩=some (.int .u8 (x.l.toNat:Int)):=((KX.out wr HQ.out).cell lb (p:=⟨b,o+k*3,none⟩)).trans d0
      have e1:wr.cell? ⟨b,o+k*3+1,none⟩=some (.bool x.m):=((KX.out wr HQ.out).cell lb (p:=⟨b,o+k*3+1,none⟩)).trans d1
      have e2:wr.cell? ⟨b,o+k*3+2,none⟩=some (.int .u64 (x.v:Int)):=((KX.out wr HQ.out).cell lb (p:=⟨b,o+k*3+2,none⟩)).trans d2
      clear hx hbb zm
      go_upto_region 18 with fail
      generalize hwg:wr.alloc (.cells #[.int .u8 (x.l.toNat:Int),.bool x.m,.int .u64 (x.v:Int)] 139)=wg
      have hbg:Below wr.heap.size wr wg:=by rw [←hwg];exact(Below.refl _ _).alloc (Nat.le_refl _) _
      have HGX:Hid (AQ wg wr.heap.size 139 [.int .u8 (x.l.toNat:Int),.bool x.m,.int .u64 (x.v:Int)]):=AA (by rw [←hwg];exact AQ.new wr 139 _)
      have HOg:=AA (HO.out.below hbg)
      have HQg:Hid (Below w1.heap.size w1 wg):=AA (HQ.out.trans (hbg.mono HQ.out.size))
      clear hwg hbg e0 e1 e2 q0 hsz
      have hc0:=HGX.out.q 0 rfl
      have zu:Hid (Below wg.heap.size wg (wg.alloc (.cells #[.int .u8 (x.l.toNat:Int)] 5))):=AA ((Below.refl _ _).alloc (Nat.le_refl _) _)
      have HOAa:=AA (HOg.out.below zu.out)
      have ADg:Hid (Below w1.heap.size w1 (wg.alloc (.cells #[.int .u8 (x.l.toNat:Int)] 5))):=AA (HQg.out.trans (zu.out.mono HQg.out.size))
      have HRWa:Hid (Row (wg.alloc (.cells #[.int .u8 (x.l.toNat:Int)] 5)) (wg.heap.size+1) (some ⟨wg.heap.size,0,none⟩) ([x.l].map bv)):=AA (row_one wg (.int .u8 (x.l.toNat:Int)) 5)
      have hsz:=ADg.out.size
      go_upto_region 19 with(at_builtin;refine JL rfl (.tmp 83) (.tmp 86) rfl w1.heap.size _ _ _ rfl HOAa.out _ _ _ _ ([x.l]) rfl (by decide) rfl HRWa.out (by omega) hsz ?_;intro Ca Ka ya h2 h3 h4;have ig:=AA h2;have Qu:=AA (ADg.out.trans h3);have zn:=AA h4;clear h2 h3 h4)
      have wu:=AA (zn.out _ _ _ (by decide) (HGX.out.below zu.out HGX.out.lt))
      clear hc0
      have hc1:=wu.out.q 1 rfl
      cases hxm:x.m
      case' false=>
       rw [hxm] at hc1
       have WY:Hid (Below ya.heap.size ya (ya.alloc (.cells #[.int .u8 0] 5))):=AA ((Below.refl _ _).alloc (Nat.le_refl _) _)
       have mM:=AA (ig.out.below WY.out)
       have Zw:Hid (Below w1.heap.size w1 (ya.alloc (.cells #[.int .u8 0] 5))):=AA (Qu.out.trans (WY.out.mono Qu.out.size))
       have mO:Hid (Row (ya.alloc (.cells #[.int .u8 0] 5)) (ya.heap.size+1) (some ⟨ya.heap.size,0,none⟩) ([0].map bv)):=AA (row_one ya (.int .u8 0) 5)
       have hsz:=Zw.out.size
       go_upto_region 22 with(at_builtin;refine JL rfl (.tmp 93) (.tmp 94) rfl w1.heap.size _ _ _ rfl mM.out _ _ _ _ ([0]) rfl (by decide) rfl mO.out (by omega) hsz ?_;intro Cb Kb yb h2 h3 h4;have oh:=AA h2;have iq:=AA (Zw.out.trans h3);have om:=AA h4;clear h2 h3 h4)
       have ADh:=AA (om.out _ _ _ (by decide) (wu.out.below WY.out wu.out.lt))
       clear hxm hc1 WY mM Zw mO om
      case' true=>
       rw [hxm] at hc1
       have WY:Hid (Below ya.heap.size ya (ya.alloc (.cells #[.int .u8 1] 5))):=AA ((Below.refl _ _).alloc (Nat.le_refl _) _)
       have mM:=AA (ig.out.below WY.out)
       have Zw:Hid (Below w1.heap.size w1 (ya.alloc (.cells #[.int .u8 1] 5))):=AA (Qu.out.trans (WY.out.mono Qu.out.size))
       have mO:Hid (Row (ya.alloc (.cells #[.int .u8 1] 5)) (ya.heap.size+1) (some ⟨ya.heap.size,0,none⟩) ([1].map bv)):=AA (row_one ya (.int .u8 1) 5)
       have hsz:=Zw.out.size
       go_upto_region 22 with(at_builtin;refine JL rfl (.tmp 90) (.tmp 91) rfl w1.heap.size _ _ _ rfl mM.out _ _ _ _ ([1]) rfl (by decide) rfl mO.out (by omega) hsz ?_;intro Cb Kb yb h2 h3 h4;have oh:=AA h2;have iq:=AA (Zw.out.trans h3);have om:=AA h4;clear h2 h3 h4)
       have ADh:=AA (om.out _ _ _ (by decide) (wu.out.below WY.out wu.out.lt))
       clear hxm hc1 WY mM Zw mO om
      all_goals
       have HGb:Hid (AQ yb wr.heap.size 139 [.int .u8 (x.l.toNat:Int),.bool x.m,.int .u64 (x.v:Int)]):=ADh
       have hc0:=HGb.out.q 0 rfl
       have hc1:=HGb.out.q 1 rfl
       have hc2:=HGb.out.q 2 rfl
       go_wp2_with fail
       refine(gZ x yb HS8.out.1 HS8.out.2.1 HS8.out.2.2).mono ?_
       rintro e xs ⟨hbs,rfl⟩
       have HOs:=AA (oh.out.below hbs)
       have HQs:Hid (Below w1.heap.size w1 xs):=AA (iq.out.trans (hbs.mono iq.out.size))
       clear hbs hc0 hc1 hc2
       go_wp2_with fail
       refine(XY (Ej x) hsb.1 hsb.2 xs).mono ?_
       rintro e xc ⟨Bc,dc,rfl,ho,hb⟩
       have HNc:=AA (Row.own ho)
       have HOc:=AA (HOs.out.below hb)
       have HQc:Hid (Below w1.heap.size w1 xc):=AA (HQs.out.trans (hb.mono HQs.out.size))
       have hsz:=HQc.out.size
       clear ho hb
       go_wp2_with (at_builtin;refine JL rfl (.tmp 96) (.tmp 99) rfl w1.heap.size _ _ _ rfl HOc.out _ Bc _ _ (enc (folded (Ej x))) rfl pp rfl HNc.out (by omega) hsz ?_;intro Cd Kd yd h2 h3 h4;have HPd:=AA h2;have HRd:=AA (HQc.out.trans h3);have HTd:=AA h4;clear h2 h3 h4)
       exact⟨⟨k+1,_,_,_,by omega,by go_num,rfl,by have:=HN.out;have:=NI.out;have:=bS.out;omega,HPd.out,HRd.out⟩,by simp [intOf];omega⟩
     ·go_wp2_with fail
      go_meet
      exact⟨_,_,_,by have:=Nw (f:=FZ) (show k=m.globs.length by omega);have:=HN.out;omega,rfl,HO.out,HQ.out⟩
   case rest=>
    obtain⟨n,A,c,hn,rfl,ho,hb⟩:=hcut
    have HO:=AA ho;have HQ:=AA hb;have hsz:=hb.size
    have Jo:=AA hn
    have hnb:n≤10000000000000:=by omega
    clear ho hb hn hbd ADe zq
    have q3:=(Bh.out wc HQ.out).q 3 rfl
    go_wp2_with fail
    refine(KV w1.heap.size _ _ _ m.first wc HO.out HQ.out.size ⟨EU.out.f0.1,by have:=EU.out.f0.2;omega⟩ (by omega)).mono ?_
    rintro e yu ⟨Cu,Ku,rfl,ho,hb,hkt⟩
    have HTu:=AA hkt
    have HPu:=AA ho
    have HRu:Hid (Below w1.heap.size w1 yu):=AA (HQ.out.trans hb)
    clear ho hb hkt
    have q4:=(Bh.out yu HRu.out).q 4 rfl
    go_wp2_with fail
    refine(KV w1.heap.size _ _ _ m.most yu HPu.out HRu.out.size ⟨EU.out.m0.1,by have:=EU.out.m0.2;omega⟩ (by omega)).mono ?_
    rintro e yv ⟨Cv,Kv,rfl,ho,hb,hkt⟩
    have HTv:=AA hkt
    have HPv:=AA ho
    have HRv:Hid (Below w1.heap.size w1 yv):=AA (HRu.out.trans hb)
    clear ho hb hkt
    have q5:=(Bh.out yv HRv.out).q 5 rfl
    go_wp2_with fail
    refine(Jd w1.heap.size _ _ _ m.fns.length yv HPv.out HRv.out.size (by omega) (by omega)).mono ?_
    rintro e yp3 ⟨Cp3,Kp3,rfl,ho,hb,hkt⟩
    have HTp3:=AA hkt
    have ADi:=AA ho
    have zw:Hid (Below w1.heap.size w1 yp3):=AA (HRv.out.trans hb)
    clear ho hb hkt
    clear q3 q4 q5 HO HQ HPu HRu HPv HRv
    go_upto_block 6 with fail
    obtain⟨N3,hN⟩: ∃N,N=n+(enc m.first.toNat).length+(enc m.most.toNat).length+(enc m.fns.length).length:=⟨_,rfl⟩
    have l6:=AA hN
    have hbd:N3+(m.fns.flatMap (UY)).length≤10000000000000:=by have:=OA.out;have:=RD.out;have:=Xq.out;have:=gq.out;have:=HE2.out;have:=Jo.out;have:=l6.out;omega
    clear hN
    go_cut [3] from 114 to 158 (fun v wx=>LaC w1 (N3+(m.fns.flatMap (UY)).length) v wx)
    case first=>
     have q0:=(Bh.out yp3 zw.out).q 5 rfl
     go_wp2_with fail
     go_loopw [3,8,9,10,11,12] (fun v i _ _ _ _ wr=>zk w1 N3 (UY) m.fns v i wr) (fun _ i _ _ _ _ _=>m.fns.length-(intOf i).toNat)
     case atStart=>exact⟨0,_,_,_,Nat.zero_le _,rfl,rfl,by simp [l6.out],ADi.out,zw.out⟩
     case round=>
      obtain⟨k,n,A,c,hk,rfl,rfl,hn,ho,hb⟩:=hrel
      have HO:=AA ho;have HQ:=AA hb;have hsz:=hb.size;have HN:=AA hn
      clear ho hb q0 hn
      have q0:=(Bh.out wr HQ.out).q 5 rfl
      by_cases hlt:k<m.fns.length
      ·obtain⟨x,hx⟩: ∃x,m.fns[k]?=some x:=⟨_,List.getElem?_eq_getElem hlt⟩
       obtain⟨b,o,Jm,KP,rfl,_,hbb,d0,d1,d2,_,_,hcd⟩:=FN H5.out hx
       have lb:b<w.heap.size:=Nat.lt_of_lt_of_le hbb CJ.out
       have hk0:(0:Int)≤k:=by omega
       have hk1:(k:Int)<m.fns.length:=by omega
       obtain⟨hfl,hfm⟩:=K5 (f:=UY) hx
       have NI:=AA hfl
       have hnb:n+(UY x).length≤10000000000000:=by have:=HN.out;omega
       clear hfl hfm
       obtain⟨⟨ft0,ft1⟩,flz,fcl,fck⟩:=EU.out.fns x (List.mem_of_getElem? hx)
       have HCK:=AA fck;have yY:=AA hcd
       have hln:(UY x).length=(enc x.t.toNat).length+((enc x.loc.size).length+x.loc.size)+(enc x.code.length).length+(x.code.flatMap Gc).length:=by unfold UY;simp only [List.length_append,Ov]
       rw [hln] at hnb
       have bS:=AA hln
       have pp:=FC x.loc.size
       have e0:wr.cell? ⟨b,o+k*3,none⟩=some (.int .i64 x.t):=((KX.out wr HQ.out).cell lb (p:=⟨b,o+k*3,none⟩)).trans d0
       have e1:wr.cell? ⟨b,o+k*3+1,none⟩=some (.string x.loc):=((KX.out wr HQ.out).cell lb (p:=⟨b,o+k*3+1,none⟩)).trans d1
       have e2:wr.cell? ⟨b,o+k*3+2,none⟩=some (.slice Jm x.code.length KP):=((KX.out wr HQ.out).cell lb (p:=⟨b,o+k*3+2,none⟩)).trans d2
       clear hx hbb hln fck hcd
       go_upto_region 30 with fail
       generalize hwg:wr.alloc (.cells #[.int .i64 x.t,.string x.loc,.slice Jm x.code.length KP] 96)=wg
       have hbg:Below wr.heap.size wr wg:=by rw [←hwg];exact(Below.refl _ _).alloc (Nat.le_refl _) _
       have HGX:Hid (AQ wg wr.heap.size 96 [.int .i64 x.t,.string x.loc,.slice Jm x.code.length KP]):=AA (by rw [←hwg];exact AQ.new wr 96 _)
       have HOg:=AA (HO.out.below hbg)
       have HQg:Hid (Below w1.heap.size w1 wg):=AA (HQ.out.trans (hbg.mono HQ.out.size))
       clear hwg hbg e0 e1 e2 q0 hsz
       have hc0:=HGX.out.q 0 rfl
       go_wp2_with fail
       refine(KV w1.heap.size _ _ _ x.t wg HOg.out HQg.out.size ⟨ft0,ft1⟩ (by omega)).mono ?_
       rintro e ya ⟨Ca,Ka,rfl,ho,hb,hkt⟩
       have zn:=AA hkt
       have ig:=AA ho
       have Qu:Hid (Below w1.heap.size w1 ya):=AA (HQg.out.trans hb)
       clear ho hb hkt
       have wu:=AA (zn.out _ _ _ (by decide) HGX.out)
       clear hc0
       have hc1:=wu.out.q 1 rfl
       go_wp2_with fail
       refine(Lp x.loc (by omega) ya).mono ?_
       rintro e xb ⟨Bb,db,rfl,ho,hb⟩
       have HNb:=AA (Row.own ho)
       have HOb:=AA (ig.out.below hb)
       have tQ:Hid (Below w1.heap.size w1 xb):=AA (Qu.out.trans (hb.mono Qu.out.size))
       have HXb:=AA (Zt.DC hb)
       have hsz:=tQ.out.size
       clear ho hb
       go_upto_region 32 with(at_builtin;refine JL rfl (.tmp 130) (.tmp 133) rfl w1.heap.size _ _ _ rfl HOb.out _ Bb _ _ (enc (x.loc).size++(x.loc).data.toList) rfl (by omega) (KW _) HNb.out (by omega) hsz ?_;intro Cb Kb yb h2 h3 h4;have oh:=AA h2;have iq:=AA (tQ.out.trans h3);have om:=AA h4;clear h2 h3 h4)
       have HGb:=AA (om.out _ _ _ (by decide) (HXb.out _ _ _ (by decide) wu.out))
       clear hc1
       have hc2:=HGb.out.q 2 rfl
       go_wp2_with fail
       refine(Jd w1.heap.size _ _ _ x.code.length yb oh.out iq.out.size (by omega) (by omega)).mono ?_
       rintro e yd ⟨Cd,Kd,rfl,ho,hb,hkt⟩
       have HTd:=AA hkt
       have HPd:=AA ho
       have HRd:Hid (Below w1.heap.size w1 yd):=AA (iq.out.trans hb)
       clear ho hb hkt
       have HGd:=AA (HTd.out _ _ _ (by decide) HGb.out)
       clear hc2 hsz HNb HOb tQ
       have hc2:=HGd.out.q 2 rfl
       go_wp2_with fail
       clear hc2
       obtain⟨M,hM⟩: ∃M,M=n+(enc x.t.toNat).length+((enc x.loc.size).length+x.loc.size)+(enc x.code.length).length:=⟨_,rfl⟩
       have hMb:M+(x.code.flatMap Gc).length≤10000000000000:=by omega
       have HM:=AA hM
       clear hM
       obtain⟨wo,rfl⟩: ∃wo:World,wo=wr:=⟨_,rfl⟩
       go_loopw [3,10,11,12] (fun v i _ _ wr=>zk w1 M Gc x.code v i wr∧AQ wr wo.heap.size 96 [.int .i64 x.t,.string x.loc,.slice Jm x.code.length KP]) (fun _ i _ _ _=>x.code.length-(intOf i).toNat)
       case atStart=>exact⟨⟨0,_,_,_,Nat.zero_le _,rfl,rfl,by simp [HM.out],HPd.out,HRd.out⟩,HGd.out⟩
       case round=>
        obtain⟨⟨j,nj,Aj,cj,hj,rfl,rfl,hnj,hoj,hbj⟩,hgj⟩:=hrel
        have HOj:=AA hoj;have w_:=AA hbj;have HNj:=AA hnj;have HGj:=AA hgj
        have hc2:=hgj.q 2 rfl
        clear hoj hbj hnj hgj
        by_cases hjl:j<x.code.length
        ·obtain⟨z,hz⟩: ∃z,x.code[j]?=some z:=⟨_,List.getElem?_eq_getElem hjl⟩
         obtain⟨b2,o2,cs2,eC,hb2,i0,i1,i2,hrz⟩: ∃b2 o2 cs2,Jm=some ⟨b2,o2,none⟩∧b2<hi∧w.cell? ⟨b2,o2+j*3,none⟩=some (.int .u8 (z.op.toNat:Int))∧w.cell? ⟨b2,o2+j*3+1,none⟩=some (.int .i64 z.a)∧w.cell? ⟨b2,o2+j*3+2,none⟩=some cs2∧Ga.R w 0 hi [.int .u8 (z.op.toNat:Int),.int .i64 z.a,cs2] z:=by
          obtain⟨b2,o2,Al,cl,e1,_,h2,h3,h4,h5,h6,h7⟩:=EP yY.out hz
          exact⟨b2,o2,_,e1,h2,h3,h4,h5,Dz.2 ⟨_,rfl,h6,h7⟩⟩
         subst eC
         have ze:b2<w.heap.size:=Nat.lt_of_lt_of_le hb2 CJ.out
         have hj0:(0:Int)≤j:=by omega
         have hj1:(j:Int)<x.code.length:=by omega
         have e0:=((KX.out wr w_.out).cell ze (p:=⟨b2,o2+j*3,none⟩)).trans i0
         have e1:=((KX.out wr w_.out).cell ze (p:=⟨b2,o2+j*3+1,none⟩)).trans i1
         have e2:=((KX.out wr w_.out).cell ze (p:=⟨b2,o2+j*3+2,none⟩)).trans i2
         have hck:=HCK.out z (List.mem_of_getElem? hz)
         have hpz:=YN hck
         have lN:=Xr [.int .u8 (z.op.toNat:Int),.int .i64 z.a,cs2] hi z wr (Rd.below hrz (KX.out wr w_.out) CJ.out) (Nat.le_trans CJ.out (KX.out wr w_.out).size)
         rw [show CF z=Gc z from if_pos hck,hck] at lN
         have lN:=AA lN
         obtain⟨ADl,hfm2⟩:=K5 (f:=Gc) hz
         have HFL2:=AA ADl
         have hnb2:nj+(Gc z).length≤10000000000000:=by have:=HNj.out;omega
         clear hz hb2 i0 i1 i2 hrz hck ADl hfm2
         go_wp2_with fail
         refine lN.out.mono ?_
         rintro e xe ⟨hbe,Be,de,rfl,hoe⟩
         have HNe:=AA (Row.own hoe)
         have HOe:=AA (HOj.out.below hbe)
         have HQe:Hid (Below w1.heap.size w1 xe):=AA (w_.out.trans (hbe.mono w_.out.size))
         have HGe:=AA (HGj.out.below hbe HGj.out.lt)
         have hsz:=HQe.out.size
         clear hbe hoe e0 e1 e2 hc2
         go_wp2_with (at_builtin;refine JL rfl (.tmp 156) (.tmp 157) rfl w1.heap.size _ _ _ rfl HOe.out _ Be _ _ (Gc z) rfl hpz rfl HNe.out (by omega) hsz ?_;intro Cf Kf yf h2 h3 h4;have HPf:=AA h2;have HRf:=AA (HQe.out.trans h3);have HTf:=AA h4;clear h2 h3 h4)
         exact⟨⟨⟨j+1,_,_,_,by omega,by go_num,rfl,by have:=HNj.out;have:=HFL2.out;omega,HPf.out,HRf.out⟩,HTf.out _ _ _ (by decide) HGe.out⟩,by simp [intOf];omega⟩
        ·go_wp2_with fail
         exact⟨⟨k+1,_,_,_,by omega,by go_num,rfl,by have:=Nw (f:=Gc) (show j=x.code.length by omega);have:=HN.out;have:=NI.out;have:=bS.out;have:=HM.out;have:=HNj.out;omega,HOj.out,w_.out⟩,by simp [intOf];omega⟩
      ·go_wp2_with fail
       go_meet
       exact⟨_,_,_,by have:=Nw (f:=UY) (show k=m.fns.length by omega);have:=HN.out;omega,rfl,HO.out,HQ.out⟩
    case rest=>
     obtain⟨n,A,c,hn,rfl,ho,hb⟩:=hcut
     have HO:=AA ho;have HQ:=AA hb;have hsz:=hb.size
     have TR:=AA hn
     have hnb:n≤10000000000000:=by omega
     clear ho hb hn hbd ADi zw
     have q0:=(Bh.out wc HQ.out).q 6 rfl
     go_wp2_with fail
     refine(Jd w1.heap.size _ _ _ m.dat.length wc HO.out HQ.out.size (by omega) (by omega)).mono ?_
     rintro e yp4 ⟨Cp4,Kp4,rfl,ho,hb,hkt⟩
     have HTp4:=AA hkt
     have ADm:=AA ho
     have zx:Hid (Below w1.heap.size w1 yp4):=AA (HQ.out.trans hb)
     clear ho hb hkt
     clear q0 HO HQ
     go_upto_block 10 with fail
     obtain⟨N4,hN⟩: ∃N,N=n+(enc m.dat.length).length:=⟨_,rfl⟩
     have kX:=AA hN
     have hbd:N4+(m.dat.flatMap (I9)).length≤10000000000000:=by have:=OA.out;have:=RD.out;have:=Xq.out;have:=gq.out;have:=HE2.out;have:=Jo.out;have:=l6.out;have:=TR.out;have:=kX.out;omega
     clear hN
     go_cut [3] from 164 to 188 (fun v wx=>LaC w1 (N4+(m.dat.flatMap (I9)).length) v wx)
     case first=>
      have q0:=(Bh.out yp4 zx.out).q 6 rfl
      go_wp2_with fail
      go_loopw [3,13] (fun v i wr=>zk w1 N4 (I9) m.dat v i wr) (fun _ i _=>m.dat.length-(intOf i).toNat)
      case atStart=>exact⟨0,_,_,_,Nat.zero_le _,rfl,rfl,by simp [kX.out],ADm.out,zx.out⟩
      case round=>
       obtain⟨k,n,A,c,hk,rfl,rfl,hn,ho,hb⟩:=hrel
       have HO:=AA ho;have HQ:=AA hb;have hsz:=hb.size;have HN:=AA hn
       clear ho hb q0 hn
       have q0:=(Bh.out wr HQ.out).q 6 rfl
       by_cases hlt:k<m.dat.length
       ·obtain⟨x,hx⟩: ∃x,m.dat[k]?=some x:=⟨_,List.getElem?_eq_getElem hlt⟩
        obtain⟨b,o,Qw,QH,rfl,_,hbb,d0,d1,_,hrb⟩:=JO H6.out hx
        have lb:b<w.heap.size:=Nat.lt_of_lt_of_le hbb CJ.out
        have hk0:(0:Int)≤k:=by omega
        have hk1:(k:Int)<m.dat.length:=by omega
        obtain⟨hfl,hfm⟩:=K5 (f:=I9) hx
        have NI:=AA hfl
        have hnb:n+(I9 x).length≤10000000000000:=by have:=HN.out;omega
        clear hfl hfm
        obtain⟨⟨ft0,ft1⟩,fbl⟩:=EU.out.dat x (List.mem_of_getElem? hx)
        have hln:(I9 x).length=(enc x.at_.toNat).length+((enc x.b.length).length+x.b.length):=by unfold I9;simp only [List.length_append]
        rw [hln] at hnb
        have bS:=AA hln
        have pp:=FC x.b.length
        have HRB:=AA (Rd.Gj hrb).2
        have e0:wr.cell? ⟨b,o+k*2,none⟩=some (.int .i64 x.at_):=((KX.out wr HQ.out).cell lb (p:=⟨b,o+k*2,none⟩)).trans d0
        clear hx hbb hln hrb
        go_wp2_with fail
        refine(KV w1.heap.size _ _ _ x.at_ wr HO.out HQ.out.size ⟨ft0,ft1⟩ (by omega)).mono ?_
        rintro e ya ⟨Ca,Ka,rfl,ho,hb,hkt⟩
        have zn:=AA hkt
        have ig:=AA ho
        have Qu:Hid (Below w1.heap.size w1 ya):=AA (HQ.out.trans hb)
        clear ho hb hkt
        go_upto_region 43 with fail
        clear q0 e0
        have q0:=(Bh.out ya Qu.out).q 6 rfl
        have e1:ya.cell? ⟨b,o+k*2+1,none⟩=some (.slice Qw x.b.length QH):=((KX.out ya Qu.out).cell lb (p:=⟨b,o+k*2+1,none⟩)).trans d1
        have hcv:=NJ (P:=prog) 40 5 9 underlying40 underlying5 underlying9 ya hi Qw x.b.length QH x.b rfl (HRB.out.below' (KX.out ya Qu.out) CJ.out)
        obtain⟨sb,hsb⟩: ∃sb:ByteArray,sb=⟨x.b.toArray⟩:=⟨_,rfl⟩
        have hsl:sb.size=x.b.length:=by rw [hsb];simp [ByteArray.size]
        rw [←hsb] at hcv
        have pq:=FC sb.size
        have HSL:=AA hsl
        have hsz3:sb.size≤300000:=by omega
        have hnb3:n+((enc x.at_.toNat).length+((enc sb.size).length+sb.size))≤10000000000000:=by rw [hsl];exact hnb
        clear hsb hsl
        go_wp2_with fail
        refine(Lp sb (by omega) ya).mono ?_
        rintro e xb ⟨Bb,db,rfl,ho,hb⟩
        have HNb:=AA (Row.own ho)
        have HOb:=AA (ig.out.below hb)
        have tQ:Hid (Below w1.heap.size w1 xb):=AA (Qu.out.trans (hb.mono Qu.out.size))
        have HXb:=AA (Zt.DC hb)
        have hsz:=tQ.out.size
        clear ho hb
        go_wp2_with (at_builtin;refine JL rfl (.tmp 179) (.tmp 187) rfl w1.heap.size _ _ _ rfl HOb.out _ Bb _ _ (enc (sb).size++(sb).data.toList) rfl (by omega) (KW _) HNb.out (by omega) hsz ?_;intro Cb Kb yb h2 h3 h4;have oh:=AA h2;have iq:=AA (tQ.out.trans h3);have om:=AA h4;clear h2 h3 h4)
        exact⟨⟨k+1,_,_,_,by omega,by go_num,rfl,by have:=HN.out;have:=NI.out;have:=bS.out;rw [HSL.out];omega,oh.out,iq.out⟩,by simp [intOf];omega⟩
       ·go_wp2_with fail
        go_meet
        exact⟨_,_,_,by have:=Nw (f:=I9) (show k=m.dat.length by omega);have:=HN.out;omega,rfl,HO.out,HQ.out⟩
     case rest=>
      obtain⟨n,A,c,hn,rfl,ho,hb⟩:=hcut
      have HO:=AA ho;have HQ:=AA hb;have hsz:=hb.size
      have X6:=AA hn
      have hnb:n≤10000000000000:=by omega
      clear ho hb hn hbd ADm zx
      have q0:=(Bh.out wc HQ.out).q 7 rfl
      go_wp2_with fail
      refine(Jd w1.heap.size _ _ _ m.Aw.length wc HO.out HQ.out.size (by omega) (by omega)).mono ?_
      rintro e yp5 ⟨Cp5,Kp5,rfl,ho,hb,hkt⟩
      have HTp5:=AA hkt
      have ADn:=AA ho
      have zy:Hid (Below w1.heap.size w1 yp5):=AA (HQ.out.trans hb)
      clear ho hb hkt
      clear q0 HO HQ
      go_upto_block 12 with fail
      obtain⟨N5,hN⟩: ∃N,N=n+(enc m.Aw.length).length:=⟨_,rfl⟩
      have HE5:=AA hN
      have hbd:N5+(m.Aw.flatMap (Jl)).length≤10000000000000:=by have:=OA.out;have:=RD.out;have:=Xq.out;have:=gq.out;have:=HE2.out;have:=Jo.out;have:=l6.out;have:=TR.out;have:=kX.out;have:=X6.out;have:=HE5.out;omega
      clear hN
      go_cut [3] from 194 to 217 (fun v wx=>LaC w1 (N5+(m.Aw.flatMap (Jl)).length) v wx)
      case first=>
       have q0:=(Bh.out yp5 zy.out).q 7 rfl
       go_wp2_with fail
       go_loopw [3,14] (fun v i wr=>zk w1 N5 (Jl) m.Aw v i wr) (fun _ i _=>m.Aw.length-(intOf i).toNat)
       case atStart=>exact⟨0,_,_,_,Nat.zero_le _,rfl,rfl,by simp [HE5.out],ADn.out,zy.out⟩
       case round=>
        obtain⟨k,n,A,c,hk,rfl,rfl,hn,ho,hb⟩:=hrel
        have HO:=AA ho;have HQ:=AA hb;have hsz:=hb.size;have HN:=AA hn
        clear ho hb q0 hn
        have q0:=(Bh.out wr HQ.out).q 7 rfl
        by_cases hlt:k<m.Aw.length
        ·obtain⟨x,hx⟩: ∃x,m.Aw[k]?=some x:=⟨_,List.getElem?_eq_getElem hlt⟩
         obtain⟨b,o,rfl,_,hbb,d0,d1,_,_⟩:=MS H7.out hx
         have lb:b<w.heap.size:=Nat.lt_of_lt_of_le hbb CJ.out
         have hk0:(0:Int)≤k:=by omega
         have hk1:(k:Int)<m.Aw.length:=by omega
         obtain⟨hfl,hfm⟩:=K5 (f:=Jl) hx
         have NI:=AA hfl
         have hnb:n+(Jl x).length≤10000000000000:=by have:=HN.out;omega
         clear hfl hfm
         obtain⟨⟨ft0,ft1⟩,fnz⟩:=EU.out.Aw x (List.mem_of_getElem? hx)
         have hln:(Jl x).length=((enc x.n.size).length+x.n.size)+(enc x.f.toNat).length:=by unfold Jl;rw [List.length_append,Ov]
         rw [hln] at hnb
         have bS:=AA hln
         have pp:=FC x.n.size
         have e0:wr.cell? ⟨b,o+k*2,none⟩=some (.string x.n):=((KX.out wr HQ.out).cell lb (p:=⟨b,o+k*2,none⟩)).trans d0
         clear hx hbb hln
         go_wp2_with fail
         refine(Lp x.n (by omega) wr).mono ?_
         rintro e xa ⟨Ba,da,rfl,ho,hb⟩
         have HNa:=AA (Row.own ho)
         have HOa:=AA (HO.out.below hb)
         have HQa:Hid (Below w1.heap.size w1 xa):=AA (HQ.out.trans (hb.mono HQ.out.size))
         have T9:=AA (Zt.DC hb)
         have hsz:=HQa.out.size
         clear ho hb
         go_upto_region 49 with(at_builtin;refine JL rfl (.tmp 201) (.tmp 208) rfl w1.heap.size _ _ _ rfl HOa.out _ Ba _ _ (enc (x.n).size++(x.n).data.toList) rfl (by omega) (KW _) HNa.out (by omega) hsz ?_;intro Ca Ka ya h2 h3 h4;have ig:=AA h2;have Qu:=AA (HQa.out.trans h3);have zn:=AA h4;clear h2 h3 h4)
         clear q0 e0
         have q0:=(Bh.out ya Qu.out).q 7 rfl
         have e1:ya.cell? ⟨b,o+k*2+1,none⟩=some (.int .i64 x.f):=((KX.out ya Qu.out).cell lb (p:=⟨b,o+k*2+1,none⟩)).trans d1
         go_wp2_with fail
         refine(KV w1.heap.size _ _ _ x.f ya ig.out Qu.out.size ⟨ft0,ft1⟩ (by omega)).mono ?_
         rintro e yb ⟨Cb,Kb,rfl,ho,hb,hkt⟩
         have om:=AA hkt
         have oh:=AA ho
         have iq:Hid (Below w1.heap.size w1 yb):=AA (Qu.out.trans hb)
         clear ho hb hkt
         go_wp2_with fail
         exact⟨⟨k+1,_,_,_,by omega,by go_num,rfl,by have:=HN.out;have:=NI.out;have:=bS.out;omega,oh.out,iq.out⟩,by simp [intOf];omega⟩
        ·go_wp2_with fail
         go_meet
         exact⟨_,_,_,by have:=Nw (f:=Jl) (show k=m.Aw.length by omega);have:=HN.out;omega,rfl,HO.out,HQ.out⟩
      case rest=>
       obtain⟨n,A,c,hn,rfl,ho,hb⟩:=hcut
       have HO:=AA ho;have HQ:=AA hb;have hsz:=hb.size
       have wO:=AA hn
       have hnb:n≤10000000000000:=by omega
       clear ho hb hn hbd ADn zy
       go_wp2_with fail
       go_ret
       exact⟨KX.out _ HQ.out,A,c,by have he:n=(J5 m).length:=(by rw [←HT.out];have:=OA.out;have:=RD.out;have:=Xq.out;have:=gq.out;have:=HE2.out;have:=Jo.out;have:=l6.out;have:=TR.out;have:=kX.out;have:=X6.out;have:=HE5.out;have:=wO.out;omega);rw [he];rfl⟩
theorem D9 {b:Bool} {e:Int} (he:e≠0) (h:Ab b e=0):b=true:=by
 cases b with
 | true=>rfl
 | false=>exact absurd h he
theorem tT {m:AP} (h:Jk m=0) (Cr:Ev m) (hle:BU m≤2147483647):ADa m:=by
 obtain⟨hh,hb⟩:=AU h
 obtain⟨ht,hh⟩:=AU hh
 obtain⟨ho,hh⟩:=AU hh
 obtain⟨hg,hp⟩:=AU hh
 obtain⟨hf,hb⟩:=AU hb
 obtain⟨hd,hx⟩:=AU hb
 obtain⟨t1,t2⟩:=AU ht
 obtain⟨o1,o2⟩:=AU ho
 obtain⟨g1,g2⟩:=AU hg
 obtain⟨f1,f2⟩:=AU hf
 obtain⟨d1,d2⟩:=AU hd
 obtain⟨x1,x2⟩:=AU hx
 have t1:=of_decide_eq_true (D9 (by decide) t1)
 have o1:=of_decide_eq_true (D9 (by decide) o1)
 have g1:=of_decide_eq_true (D9 (by decide) g1)
 have f1:=of_decide_eq_true (D9 (by decide) f1)
 have d1:=of_decide_eq_true (D9 (by decide) d1)
 have x1:=of_decide_eq_true (D9 (by decide) x1)
 have hp:=of_decide_eq_true (D9 (by decide) hp)
 have hty: ∀t∈m.types,t.p.size≤8∧t.r.size≤8:=fun t hm=>by
  obtain⟨k,hk⟩:=List.getElem?_of_mem hm
  have h0:=BP t2 k (List.getElem?_eq_some_iff.1 hk).1
  rw [Pj hk] at h0
  obtain⟨a,b⟩:=AU h0
  obtain⟨b,_⟩:=AU b
  have a:=(Ew a).1
  have b:=(Ew b).1
  omega
 have hgf:=Mc (k:=m.globs.length) g2
 have hdk:=mJ hp.1 hp.2.1 d2 (Nat.le_refl _)
 rw [List.take_length] at hdk
 refine⟨hty,fun t hm=> ?_,fun x hm=> ?_,⟨hp.1,hp.2.1⟩,⟨by omega,hp.2.2.2⟩,fun f hm=> ?_,fun d hm=> ?_,fun x hm=> ?_,⟨by omega,by omega,by omega,by omega,by omega,by omega⟩,?_⟩
 ·obtain⟨k,hk⟩:=List.getElem?_of_mem hm
  have h0:=BP o2 k (List.getElem?_eq_some_iff.1 hk).1
  rw [Xi hk] at h0
  have:=of_decide_eq_true (D9 (by decide) h0)
  omega
 ·obtain⟨k,hk⟩:=List.getElem?_of_mem hm
  obtain⟨a,b⟩:=hgf k x (List.getElem?_eq_some_iff.1 hk).1 hk
  exact⟨a,b,Cr.globs x hm⟩
 ·obtain⟨k,hk⟩:=List.getElem?_of_mem hm
  have h0:=BP f2 k (List.getElem?_eq_some_iff.1 hk).1
  rw [Pz hk] at h0
  obtain⟨a,b⟩:=AU h0
  obtain⟨b,c⟩:=AU b
  obtain⟨c,d⟩:=AU c
  obtain⟨d,e⟩:=AU d
  have a:=of_decide_eq_true (D9 (by decide) a)
  have b:=(Ew b).1
  have c:=of_decide_eq_true (D9 (by decide) c)
  refine⟨by omega,by omega,c,fun x hxm=> ?_⟩
  obtain⟨j,hj⟩:=List.getElem?_of_mem hxm
  have:=BP e j (List.getElem?_eq_some_iff.1 hj).1
  rwa [Ou hj] at this
 ·have:=hdk d hm
  omega
 ·obtain⟨k,hk⟩:=List.getElem?_of_mem hm
  have h0:=BP x2 k (List.getElem?_eq_some_iff.1 hk).1
  rw [RI hk] at h0
  obtain⟨a,b⟩:=AU h0
  obtain⟨a,_⟩:=AU a
  unfold M_ at a
  obtain⟨a,_⟩:=AU a
  have a:=of_decide_eq_true (D9 (by decide) a)
  have b:=of_decide_eq_true (D9 (by decide) b)
  exact⟨by omega,by omega⟩
 ·have h1:=Uj Cr hle (fun j x hj hx=>(hgf j x hj hx).2)
  have h2:=Vn Cr hle m.fns.length m.fns.length (by omega)
  have h3:=Vo Cr hle m.dat.length m.dat.length (by omega)
  have h4:=Xh Cr hle m.Aw.length m.Aw.length (by omega)
  rw [List.take_length] at h2 h3 h4
  unfold J5 Rj
  simp only [List.length_append] at h1 h2 h3 h4⊢
  have:Ll.length=5:=rfl
  omega
theorem tV {m:AP} (hle:BU m≤2147483647): ∀d∈m.dat,d.b.length≤2147483647:=fun d hd=>by
 have:=DW (fun d:Gn=>d.b.length) m.dat d hd
 unfold BU at hle
 omega
theorem mP (cs:List Value) (hi:Nat) (m:AP) (w:World) (h:Db.R w 0 hi cs m) (hhi:hi≤w.heap.size) (hle:BU m≤2147483647):
 Calls prog 111 #[.agg cs.toArray] w fun e w'=>Below w.heap.size w w'∧e= .returned (.int .i64 (Jk m)):=by
 have H:=AA h;have CJ:=AA hhi;have GZ:=AA hle
 obtain⟨e1,he1⟩: ∃e,Cg (Dh m) (Dx m)=e:=⟨_,rfl⟩
 obtain⟨e2,he2⟩: ∃e,Cg (Eu m) (FP m)=e:=⟨_,rfl⟩
 obtain⟨e3,he3⟩: ∃e,I8 m=e:=⟨_,rfl⟩
 obtain⟨e4,jv⟩: ∃e,Cg (FY m) (IZ m)=e:=⟨_,rfl⟩
 have HP:Hid (Jk m=Cg e1 (Cg e2 (Cg e3 e4))):=AA (by
  rw [←he1,←he2,←he3,←jv];unfold Jk IY IE
  simp only [EG])
 have Xq:=AA he1;have HE2:=AA he2;have l6:=AA he3;have kX:=AA jv
 clear hhi hle he1 he2 he3 jv
 obtain⟨v1,v2,v3,v4,v5,v6,rfl,_⟩:=Av.1 h
 go_enter func111,ntmps111
 go_upto_region 1 with fail
 generalize hw1:w.alloc (.cells #[v1,v2,v3,.int .i64 m.first,.int .i64 m.most,v4,v5,v6] 29)=w1
 obtain⟨hb1,hx1⟩:=Pp hw1
 have HB1:=AA hb1
 have Bh:Hid (∀W,Below w1.heap.size w1 W→AQ W w.heap.size 29 [v1,v2,v3,.int .i64 m.first,.int .i64 m.most,v4,v5,v6]):=AA (fun W hW=>hx1.below hW hx1.lt)
 clear hw1 hb1 hx1
 clear h
 have q0:w1.cell? ⟨w.heap.size,0,none⟩=some (v1):=(Bh.out w1 (Below.refl _ _)).cell 0
 have q1:w1.cell? ⟨w.heap.size,1,none⟩=some (v2):=(Bh.out w1 (Below.refl _ _)).cell 1
 have q2:w1.cell? ⟨w.heap.size,2,none⟩=some (v3):=(Bh.out w1 (Below.refl _ _)).cell 2
 have q3:w1.cell? ⟨w.heap.size,3,none⟩=some (.int .i64 m.first):=(Bh.out w1 (Below.refl _ _)).cell 3
 have q4:w1.cell? ⟨w.heap.size,4,none⟩=some (.int .i64 m.most):=(Bh.out w1 (Below.refl _ _)).cell 4
 have q5:w1.cell? ⟨w.heap.size,5,none⟩=some (v4):=(Bh.out w1 (Below.refl _ _)).cell 5
 have q6:w1.cell? ⟨w.heap.size,6,none⟩=some (v5):=(Bh.out w1 (Below.refl _ _)).cell 6
 have q7:w1.cell? ⟨w.heap.size,7,none⟩=some (v6):=(Bh.out w1 (Below.refl _ _)).cell 7
 go_wp2_with fail
 refine(Tk _ hi m w1 (Rd.below H.out HB1.out CJ.out) (Nat.le_trans CJ.out HB1.out.size)).mono ?_
 rintro e w2 ⟨hb2,rfl⟩
 rw [Xq.out]
 have HB2:=AA hb2
 clear hb2
 clear q0 q1 q2 q3 q4 q5 q6 q7
 by_cases h1:e1=0
 case neg=>
  have k1:(e1==0)=false:=by rw [beq_eq_false_iff_ne];exact h1
  have HX:=AA (HP.out.trans (Bn h1))
  clear h1
  go_wp2_with fail
  go_ret
  exact⟨HB1.out.trans (HB2.out.mono HB1.out.size),by rw [HX.out];rfl⟩
 subst h1
 have q0:=(Bh.out w2 HB2.out).q 0 rfl
 have q1:=(Bh.out w2 HB2.out).q 1 rfl
 have q2:=(Bh.out w2 HB2.out).q 2 rfl
 have q3:=(Bh.out w2 HB2.out).q 3 rfl
 have q4:=(Bh.out w2 HB2.out).q 4 rfl
 have q5:=(Bh.out w2 HB2.out).q 5 rfl
 have q6:=(Bh.out w2 HB2.out).q 6 rfl
 have q7:=(Bh.out w2 HB2.out).q 7 rfl
 go_wp2_with fail
 have LM:Hid (Below w.heap.size w w2):=AA (HB1.out.trans (HB2.out.mono HB1.out.size))
 refine(Qt _ hi m w2 (Rd.below H.out LM.out CJ.out) (Nat.le_trans CJ.out LM.out.size)).mono ?_
 rintro e w3 ⟨hb3,rfl⟩
 rw [HE2.out]
 have HB3:Hid (Below w1.heap.size w1 w3):=AA (HB2.out.trans (hb3.mono HB2.out.size))
 clear hb3
 clear q0 q1 q2 q3 q4 q5 q6 q7
 by_cases h2:e2=0
 case neg=>
  have k2:(e2==0)=false:=by rw [beq_eq_false_iff_ne];exact h2
  have HX:=AA (HP.out.trans ((AX rfl).trans (Bn h2)))
  clear h2
  go_wp2_with fail
  go_ret
  exact⟨HB1.out.trans (HB3.out.mono HB1.out.size),by rw [HX.out];rfl⟩
 subst h2
 have hty: ∀t∈m.types,t.p.size≤8:=fun t hm=>by
  obtain⟨ht,_⟩:=AU Xq.out
  obtain⟨_,t2⟩:=AU ht
  obtain⟨k,hk⟩:=List.getElem?_of_mem hm
  have h0:=BP t2 k (List.getElem?_eq_some_iff.1 hk).1
  rw [Pj hk] at h0
  have a:=(Ew (AU h0).1).1
  omega
 have LQ:=AA hty
 clear hty
 have q0:=(Bh.out w3 HB3.out).q 0 rfl
 have q1:=(Bh.out w3 HB3.out).q 1 rfl
 have q2:=(Bh.out w3 HB3.out).q 2 rfl
 have q3:=(Bh.out w3 HB3.out).q 3 rfl
 have q4:=(Bh.out w3 HB3.out).q 4 rfl
 have q5:=(Bh.out w3 HB3.out).q 5 rfl
 have q6:=(Bh.out w3 HB3.out).q 6 rfl
 have q7:=(Bh.out w3 HB3.out).q 7 rfl
 go_wp2_with fail
 have iw:Hid (Below w.heap.size w w3):=AA (HB1.out.trans (HB3.out.mono HB1.out.size))
 refine(Oo _ hi m w3 (Rd.below H.out iw.out CJ.out) (Nat.le_trans CJ.out iw.out.size) LQ.out).mono ?_
 rintro e w4 ⟨hb4,rfl⟩
 rw [l6.out]
 have Ct:Hid (Below w1.heap.size w1 w4):=AA (HB3.out.trans (hb4.mono HB3.out.size))
 clear hb4
 clear q0 q1 q2 q3 q4 q5 q6 q7
 by_cases h3:e3=0
 case neg=>
  have k3:(e3==0)=false:=by rw [beq_eq_false_iff_ne];exact h3
  have HX:=AA (HP.out.trans ((AX rfl).trans ((AX rfl).trans (Bn h3))))
  clear h3
  go_wp2_with fail
  go_ret
  exact⟨HB1.out.trans (Ct.out.mono HB1.out.size),by rw [HX.out];rfl⟩
 subst h3
 have hpg:=of_decide_eq_true (D9 (by decide) (AU HE2.out).2)
 have hfn:=of_decide_eq_true (D9 (by decide) (AU l6.out).1)
 have ZN:=AA hpg;have ZY:=AA hfn
 clear hpg hfn
 have q0:=(Bh.out w4 Ct.out).q 0 rfl
 have q1:=(Bh.out w4 Ct.out).q 1 rfl
 have q2:=(Bh.out w4 Ct.out).q 2 rfl
 have q3:=(Bh.out w4 Ct.out).q 3 rfl
 have q4:=(Bh.out w4 Ct.out).q 4 rfl
 have q5:=(Bh.out w4 Ct.out).q 5 rfl
 have q6:=(Bh.out w4 Ct.out).q 6 rfl
 have q7:=(Bh.out w4 Ct.out).q 7 rfl
 go_wp2_with fail
 have HBC:Hid (Below w.heap.size w w4):=AA (HB1.out.trans (Ct.out.mono HB1.out.size))
 refine(WX _ hi m w4 (Rd.below H.out HBC.out CJ.out) (Nat.le_trans CJ.out HBC.out.size) ZN.out.1 ZN.out.2.1 ZY.out (tV GZ.out)).mono ?_
 rintro e w5 ⟨hb5,rfl⟩
 rw [kX.out]
 have Dv:Hid (Below w.heap.size w w5):=AA (HBC.out.trans (hb5.mono HBC.out.size))
 clear hb5
 clear q0 q1 q2 q3 q4 q5 q6 q7
 have HX:=AA (HP.out.trans ((AX rfl).trans ((AX rfl).trans (AX rfl))))
 go_wp2_with fail
 go_ret
 exact⟨Dv.out,by rw [HX.out];rfl⟩
theorem gu (cs:List Value) (hi:Nat) (m:AP) (w:World) (h:Db.R w 0 hi cs m) (hhi:hi≤w.heap.size) (hle:BU m≤2147483647) (Cr:Ev m):
 Calls prog 85 #[.agg cs.toArray] w fun e w'=>Below w.heap.size w w'∧ ∃v,e= .returned (.tuple #[v,.int .i64 (F9 m)]):=by
 have H:=AA h;have CJ:=AA hhi;have GZ:=AA hle;have tN:=AA Cr
 obtain⟨pe,hpe⟩: ∃e,Jk m=e:=⟨_,rfl⟩
 have HP:=AA hpe
 clear hhi hle Cr hpe
 obtain⟨v1,v2,v3,v4,v5,v6,rfl,_⟩:=Av.1 h
 go_enter func85,ntmps85
 go_upto_region 1 with fail
 generalize hw1:w.alloc (.cells #[v1,v2,v3,.int .i64 m.first,.int .i64 m.most,v4,v5,v6] 29)=w1
 obtain⟨hb1,hx1⟩:=Pp hw1
 have HB1:=AA hb1
 have Bh:Hid (∀W,Below w1.heap.size w1 W→AQ W w.heap.size 29 [v1,v2,v3,.int .i64 m.first,.int .i64 m.most,v4,v5,v6]):=AA (fun W hW=>hx1.below hW hx1.lt)
 clear hw1 hb1 hx1
 clear h
 have q0:w1.cell? ⟨w.heap.size,0,none⟩=some (v1):=(Bh.out w1 (Below.refl _ _)).cell 0
 have q1:w1.cell? ⟨w.heap.size,1,none⟩=some (v2):=(Bh.out w1 (Below.refl _ _)).cell 1
 have q2:w1.cell? ⟨w.heap.size,2,none⟩=some (v3):=(Bh.out w1 (Below.refl _ _)).cell 2
 have q3:w1.cell? ⟨w.heap.size,3,none⟩=some (.int .i64 m.first):=(Bh.out w1 (Below.refl _ _)).cell 3
 have q4:w1.cell? ⟨w.heap.size,4,none⟩=some (.int .i64 m.most):=(Bh.out w1 (Below.refl _ _)).cell 4
 have q5:w1.cell? ⟨w.heap.size,5,none⟩=some (v4):=(Bh.out w1 (Below.refl _ _)).cell 5
 have q6:w1.cell? ⟨w.heap.size,6,none⟩=some (v5):=(Bh.out w1 (Below.refl _ _)).cell 6
 have q7:w1.cell? ⟨w.heap.size,7,none⟩=some (v6):=(Bh.out w1 (Below.refl _ _)).cell 7
 go_wp2_with fail
 refine(mP _ hi m w1 (Rd.below H.out HB1.out CJ.out) (Nat.le_trans CJ.out HB1.out.size) GZ.out).mono ?_
 rintro e w2 ⟨hb2,rfl⟩
 rw [HP.out]
 have HB2:=AA hb2
 clear hb2
 clear q0 q1 q2 q3 q4 q5 q6 q7
 have LM:Hid (Below w.heap.size w w2):=AA (HB1.out.trans (HB2.out.mono HB1.out.size))
 by_cases h1:pe=0
 case neg=>
  have k1:(pe !=0)=true:=by rw [bne_iff_ne];exact h1
  have HX:Hid (F9 m=pe):=AA (by unfold F9;rw [HP.out,Bn h1])
  clear h1
  go_wp2_with fail
  go_ret2
  exact⟨LM.out,_,by rw [HX.out];rfl⟩
 subst h1
 have q0:=(Bh.out w2 HB2.out).q 0 rfl
 have q1:=(Bh.out w2 HB2.out).q 1 rfl
 have q2:=(Bh.out w2 HB2.out).q 2 rfl
 have q3:=(Bh.out w2 HB2.out).q 3 rfl
 have q4:=(Bh.out w2 HB2.out).q 4 rfl
 have q5:=(Bh.out w2 HB2.out).q 5 rfl
 have q6:=(Bh.out w2 HB2.out).q 6 rfl
 have q7:=(Bh.out w2 HB2.out).q 7 rfl
 go_wp2_with fail
 refine(tO _ hi m w2 (Rd.below H.out LM.out CJ.out) (Nat.le_trans CJ.out LM.out.size) (tT HP.out tN.out GZ.out)).mono ?_
 rintro e w3 ⟨hb3,A,c,rfl⟩
 have HB3:Hid (Below w.heap.size w w3):=AA (LM.out.trans (hb3.mono LM.out.size))
 clear hb3
 clear q0 q1 q2 q3 q4 q5 q6 q7
 by_cases hl:(J5 m).length≤65536
 ·have k1:decide (65536<(J5 m).length)=false:=decide_eq_false (by omega)
  have k1i:decide ((65536:Int)<((J5 m).length:Int))=false:=decide_eq_false (by omega)
  have HX:Hid (F9 m=0):=AA (by unfold F9;rw [HP.out,AX rfl,BQ (decide_eq_true hl)])
  clear hl
  go_wp2_with fail
  go_ret2
  exact⟨HB3.out,_,by rw [HX.out];rfl⟩
 ·have k1:decide (65536<(J5 m).length)=true:=decide_eq_true (by omega)
  have k1i:decide ((65536:Int)<((J5 m).length:Int))=true:=decide_eq_true (by omega)
  have HX:Hid (F9 m=13):=AA (by unfold F9;rw [HP.out,AX rfl,Bw (decide_eq_false hl)])
  clear hl
  go_wp2_with fail
  go_ret2
  exact⟨HB3.out,_,by rw [HX.out];rfl⟩
theorem mQ (cs:List Value) (hi:Nat) (m:AP) (w:World) (h:Db.R w 0 hi cs m) (hhi:hi≤w.heap.size) (hle:BU m≤2147483647) (Cr:Ev m):
 Calls prog 54 #[.agg cs.toArray] w fun e w'=>Below w.heap.size w w'∧e= .returned (.int .i64 (F9 m)):=by
 have H:=AA h;have CJ:=AA hhi;have GZ:=AA hle;have tN:=AA Cr
 clear hhi hle Cr
 obtain⟨v1,v2,v3,v4,v5,v6,rfl,_⟩:=Av.1 h
 go_enter func54,ntmps54
 go_upto_region 1 with fail
 generalize hw1:w.alloc (.cells #[v1,v2,v3,.int .i64 m.first,.int .i64 m.most,v4,v5,v6] 29)=w1
 obtain⟨hb1,hx1⟩:=Pp hw1
 have HB1:=AA hb1
 have Bh:Hid (∀W,Below w1.heap.size w1 W→AQ W w.heap.size 29 [v1,v2,v3,.int .i64 m.first,.int .i64 m.most,v4,v5,v6]):=AA (fun W hW=>hx1.below hW hx1.lt)
 clear hw1 hb1 hx1
 clear h
 have q0:w1.cell? ⟨w.heap.size,0,none⟩=some (v1):=(Bh.out w1 (Below.refl _ _)).cell 0
 have q1:w1.cell? ⟨w.heap.size,1,none⟩=some (v2):=(Bh.out w1 (Below.refl _ _)).cell 1
 have q2:w1.cell? ⟨w.heap.size,2,none⟩=some (v3):=(Bh.out w1 (Below.refl _ _)).cell 2
 have q3:w1.cell? ⟨w.heap.size,3,none⟩=some (.int .i64 m.first):=(Bh.out w1 (Below.refl _ _)).cell 3
 have q4:w1.cell? ⟨w.heap.size,4,none⟩=some (.int .i64 m.most):=(Bh.out w1 (Below.refl _ _)).cell 4
 have q5:w1.cell? ⟨w.heap.size,5,none⟩=some (v4):=(Bh.out w1 (Below.refl _ _)).cell 5
 have q6:w1.cell? ⟨w.heap.size,6,none⟩=some (v5):=(Bh.out w1 (Below.refl _ _)).cell 6
 have q7:w1.cell? ⟨w.heap.size,7,none⟩=some (v6):=(Bh.out w1 (Below.refl _ _)).cell 7
 go_wp2_with fail
 refine(gu _ hi m w1 (Rd.below H.out HB1.out CJ.out) (Nat.le_trans CJ.out HB1.out.size) GZ.out tN.out).mono ?_
 rintro e w2 ⟨hb2,v,rfl⟩
 have HB2:Hid (Below w.heap.size w w2):=AA (HB1.out.trans (hb2.mono HB1.out.size))
 clear hb2
 clear q0 q1 q2 q3 q4 q5 q6 q7
 go_wp2_with fail
 go_ret
 exact⟨HB2.out,rfl⟩
theorem iM {W:World} {lo hi:Nat} {cs:List Value} {m:AP} (h:Db.R W lo hi cs m):Ev m:=by
 obtain⟨v1,v2,v3,v4,v5,v6,rfl,_,h1,h2,h3,h4,h5,h6,h7⟩:=Av.1 h
 obtain⟨A2,c2,rfl⟩:=AJ h2
 obtain⟨A5,c5,rfl⟩:=AJ h5
 obtain⟨A6,c6,rfl⟩:=AJ h6
 obtain⟨A7,c7,rfl⟩:=AJ h7
 obtain⟨A1,c1,rfl⟩:=AJ h1
 refine⟨fun t ht=>(Rd.M8 h1 t ht).2,fun x hx=> ?_,h3.2,h4.2,fun f hf=> ?_,fun d hd=> ?_,fun x hx=> ?_⟩
 ·obtain⟨k,hk⟩:=List.getElem?_of_mem hx
  obtain⟨_,_,_,_,_,_,_,_,hb⟩:=Hw h2 hk
  exact hb
 ·obtain⟨k,hk⟩:=List.getElem?_of_mem hf
  obtain⟨_,_,_,_,_,_,_,_,_,_,hb,_,hc⟩:=FN h5 hk
  refine⟨hb.2,fun x hx=> ?_⟩
  obtain⟨j,hj⟩:=List.getElem?_of_mem hx
  obtain⟨_,_,_,_,_,_,_,_,_,_,ha,hl⟩:=EP hc hj
  exact⟨ha,fun n hn=>(Rd.M8 hl n hn).2⟩
 ·obtain⟨k,hk⟩:=List.getElem?_of_mem hd
  obtain⟨_,_,_,_,_,_,_,_,_,hb,_⟩:=JO h6 hk
  exact hb.2
 ·obtain⟨k,hk⟩:=List.getElem?_of_mem hx
  obtain⟨_,_,_,_,_,_,_,_,hb⟩:=MS h7 hk
  exact hb.2
theorem nu {P:Program} {ops:Array Oper} {rest:List Oper} {o:Oper} {a:Act} {w:World} {Q:Exit→Act→World→Prop} {g:Nat} {t:TypeId} {xs:List Value} (hb:AQ w g t xs) {d:TypeDesc} (hu:P.underlying t=some d) (hd:(match d with | .struct _ | .array _ _=>true | _=>false)=true) (hi:(P.info? t).map (·.size)=some xs.length)
 (hg:Region.wanted o (yielded ops a.tmps)=true) (x:Operand) (ho:o.op= .load t x) (hx:a.eval x= .pointer (some ⟨g,0,none⟩)) (h:wpList P ops Q rest (a.put o.dst (.agg xs.toArray)) w):wpList P ops Q (o::rest) a w:=
 BigFrame.wpList_want hg fun _ hK=>wp_load_row t x ho g hx t xs.toArray (0,0) d hb hu hd (by simpa using hi) (hK _ _ h)
section
variable {ops:Array Oper} {rest:List Oper} {o:Oper} {a:Act} {w:World} {Q:Exit→Act→World→Prop} {g:Nat}
theorem ny {a0 a1 a2 a3 a4 a5 a6 a7:Value} (hb:AQ w g 35 [a0,a1,a2,a3,a4,a5,a6,a7]) (hg:Region.wanted o (yielded ops a.tmps)=true) (x:Operand) (ho:o.op= .load 35 x) (hx:a.eval x= .pointer (some ⟨g,0,none⟩))
 (h:wpList prog ops Q rest (a.put o.dst (.agg #[a0,a1,a2,a3,a4,a5,a6,a7])) w):wpList prog ops Q (o::rest) a w:=
 nu hb underlying35 rfl (by kernel_rfl) hg x ho hx h
end
end Go.Proofs.YtlagonfamllgjaaGreatDoor
