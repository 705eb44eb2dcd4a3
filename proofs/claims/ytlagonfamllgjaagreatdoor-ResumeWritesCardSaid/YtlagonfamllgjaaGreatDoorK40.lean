/- Part 40 of the proof: RefJ -/
import Derived.Lib.SlBytesConst
import Derived.Test.YtlagonfamllgjaaGreatDoorK39
namespace Go.Proofs.YtlagonfamllgjaaGreatDoor
set_option linter.unusedVariables false
set_option linter.unusedSimpArgs false
set_option maxRecDepth 100000
set_option maxHeartbeats 4000000
open Go.RowKit Tryz
def LaC (w1:World) (N:Nat) (v:Value) (wx:World):Prop:= ∃(n:Nat) (A:Option Addr) (c:Nat),n=N∧v= .slice A n c∧OB wx w1.heap.size A n c∧Below w1.heap.size w1 wx
def LaR {α:Type} (w1:World) (N:Nat) (f:α→List UInt8) (l:List α) (v i:Value) (wr:World):Prop:= ∃(k n:Nat) (A:Option Addr) (c:Nat),k≤l.length∧i= .int .i64 k∧v= .slice A n c∧n=N+((l.take k).flatMap f).length∧OB wr w1.heap.size A n c∧Below w1.heap.size w1 wr
theorem Lh {α:Type} {f:α→List UInt8} {l:List α} {k:Nat} {x:α} (h:l[k]?=some x):((l.take (k+1)).flatMap f).length=((l.take k).flatMap f).length+(f x).length∧((l.take k).flatMap f).length+(f x).length≤(l.flatMap f).length:=by
 have h1:=congrArg List.length (EN (f:=f) h)
 rw [List.length_append] at h1
 refine⟨h1,?_⟩
 have h2:(l.flatMap f).length=((l.take (k+1)).flatMap f).length+((l.drop (k+1)).flatMap f).length:=by
  rw [←List.length_append,←List.flatMap_append,List.take_append_drop]
 omega
theorem OZ {α:Type} {f:α→List UInt8} {l:List α} {k:Nat} (h:k=l.length):((l.take k).flatMap f).length=(l.flatMap f).length:=by rw [kG h]
theorem Pj (s:ByteArray):(Fp s).length=(enc s.size).length+s.size:=by
 unfold Fp;rw [List.length_append];simp
structure AEa (m:AP):Prop where
 types: ∀t∈m.types,t.p.size≤8∧t.r.size≤8
 hosts: ∀t∈m.hosts,0≤t∧t<9223372036854775808
 globs: ∀x∈m.globs,M9 x.l.toNat=true∧Dr x.v x.l.toNat=true∧x.v<18446744073709551616
 f0:0≤m.first∧m.first≤64
 m0:0≤m.most∧m.most≤64
 fns: ∀f∈m.fns,(0≤f.t∧f.t<9223372036854775808)∧f.loc.size≤300000∧f.code.length≤2048∧ ∀x∈f.code,Ar x=0
 dat: ∀d∈m.dat,(0≤d.at_∧d.at_<9223372036854775808)∧d.b.length≤300000
 Au: ∀x∈m.Au,(0≤x.f∧x.f<9223372036854775808)∧x.n.size≤300000
 few:m.types.length≤1000000∧m.hosts.length≤1000000∧m.globs.length≤1000000∧m.fns.length≤1000000∧m.dat.length≤1000000∧m.Au.length≤1000000
 tot:(KY m).length≤10000000000000
set_option maxHeartbeats 8000000 in
theorem vg (cs:List Value) (hi:Nat) (m:AP) (w:World) (h:DJ.R w 0 hi cs m) (hhi:hi≤w.heap.size) (hin:AEa m):
 Calls prog 112 #[.agg cs.toArray] w fun e w'=>Below w.heap.size w w'∧ ∃A c,e= .returned (.slice A (KY m).length c):=by
 obtain⟨v1,v2,v3,v4,v5,v6,rfl,h0,h1,h2,_,_,h5,h6,h7⟩:=Am.1 h
 obtain⟨A0,c0,rfl⟩:=AB h0
 obtain⟨A1,c1,rfl⟩:=AB h1
 obtain⟨A2,c2,rfl⟩:=AB h2
 obtain⟨A5,c5,rfl⟩:=AB h5
 obtain⟨A6,c6,rfl⟩:=AB h6
 obtain⟨A7,c7,rfl⟩:=AB h7
 have H0:=AA h0;have H1:=AA h1;have H2:=AA h2;have H5:=AA h5;have H6:=AA h6;have H7:=AA h7;have Bw:=AA hhi;have Es:=AA hin
 obtain⟨w0',w1',w2',w5',w6',w7'⟩:=hin.few
 have HT:Hid (5+((enc m.types.length).length+(m.types.flatMap Lx).length+((enc m.hosts.length).length+(m.hosts.flatMap (fun t=>enc t.toNat)).length+((enc m.globs.length).length+(m.globs.flatMap F6).length+((enc m.first.toNat).length+(enc m.most.toNat).length))))+((enc m.fns.length).length+(m.fns.flatMap Uv).length+((enc m.dat.length).length+(m.dat.flatMap Jb).length+((enc m.Au.length).length+(m.Au.flatMap KJ).length)))=(KY m).length):=AA (by
  unfold KY Nq R4 N8 N9 N_
  simp only [List.length_append]
  have:MO.length=5:=rfl
  omega)
 have htot:=hin.tot
 rw [←HT.out] at htot
 clear h h0 h1 h2 h5 h6 h7 hhi hin
 go_enter func112,ntmps112
 go_upto_region 1 with fail
 generalize hw1:w.alloc (.cells #[.slice A0 m.types.length c0,.slice A1 m.hosts.length c1,.slice A2 m.globs.length c2,.int .i64 m.first,.int .i64 m.most,.slice A5 m.fns.length c5,.slice A6 m.dat.length c6,.slice A7 m.Au.length c7] 29)=w1
 obtain⟨hb1,hx1⟩:=QK hw1
 have hz1:w1.heap.size=w.heap.size+1:=by rw [←hw1];simp
 have HZ:Hid (w.heap.size<w1.heap.size):=AA (by omega)
 have Bp:Hid (∀W,Below w1.heap.size w1 W→AQ W w.heap.size 29 [.slice A0 m.types.length c0,.slice A1 m.hosts.length c1,.slice A2 m.globs.length c2,.int .i64 m.first,.int .i64 m.most,.slice A5 m.fns.length c5,.slice A6 m.dat.length c6,.slice A7 m.Au.length c7]):=AA (fun W hW=>hx1.below hW hx1.lt)
 have Ky:Hid (∀W,Below w1.heap.size w1 W→Below w.heap.size w W):=AA (fun W hW=>hb1.trans (hW.mono hb1.size))
 clear hw1 hb1 hx1 hz1
 have kc:=Lib.run_convert_bytes_const (P:=prog) w1 40 5 #[.int .u8 70,.int .u8 76,.int .u8 71,.int .u8 78,.int .u8 1] 5 5 underlying40 underlying5
 go_upto_region 2 with fail
 generalize hw2:World.alloc w1 _=wc
 have hb2:Below w1.heap.size w1 wc:=by rw [←hw2];exact(Below.refl _ _).alloc (Nat.le_refl _) _
 have ho2:OB wc w1.heap.size (some ⟨w1.heap.size,0,none⟩) 5 5:=⟨[.int .u8 70,.int .u8 76,.int .u8 71,.int .u8 78,.int .u8 1],.inr ⟨w1.heap.size,(5,6),rfl,Nat.le_refl _,by rw [←hw2];exact heap_alloc_new w1 _,rfl⟩⟩
 have HO:=AA ho2;have HQ:=AA hb2
 clear kc hw2 ho2 hb2
 have q0:=(Bp.out wc HQ.out).q 0 rfl
 go_wp2_with fail
 refine(J8 w1.heap.size _ _ _ m.types.length wc HO.out HQ.out.size (by omega) (by omega)).mono ?_
 rintro e yp0 ⟨Cp0,Kp0,rfl,ho,hb,hkt⟩
 have HTp0:=AA hkt
 have AEb:=AA ho
 have AAu:Hid (Below w1.heap.size w1 yp0):=AA (HQ.out.trans hb)
 clear ho hb hkt
 clear q0 HO HQ
 go_upto_block 0 with fail
 obtain⟨N0,hN⟩: ∃N,N=5+(enc m.types.length).length:=⟨_,rfl⟩
 have Pw:=AA hN
 have hbd:N0+(m.types.flatMap (Lx)).length≤10000000000000:=by have:=Pw.out;omega
 clear hN
 go_cut [3] from 22 to 46 (fun v wx=>LaC w1 (N0+(m.types.flatMap (Lx)).length) v wx)
 case first=>
  have q0:=(Bp.out yp0 AAu.out).q 0 rfl
  go_wp2_with fail
  go_loopw [3,4] (fun v i wr=>LaR w1 N0 (Lx) m.types v i wr) (fun _ i _=>m.types.length-(intOf i).toNat)
  case atStart=>exact⟨0,_,_,_,Nat.zero_le _,rfl,rfl,by simp [Pw.out],AEb.out,AAu.out⟩
  case round=>
   obtain⟨k,n,A,c,hk,rfl,rfl,hn,ho,hb⟩:=hrel
   have HO:=AA ho;have HQ:=AA hb;have hsz:=hb.size;have HN:=AA hn
   clear ho hb q0 hn
   have q0:=(Bp.out wr HQ.out).q 0 rfl
   by_cases hlt:k<m.types.length
   ·obtain⟨x,hx⟩: ∃x,m.types[k]?=some x:=⟨_,List.getElem?_eq_getElem hlt⟩
    obtain⟨b,o,rfl,_,hbb,d0,d1,_,_⟩:=CZ H0.out hx
    have lb:b<w.heap.size:=Nat.lt_of_lt_of_le hbb Bw.out
    have hk0:(0:Int)≤k:=by omega
    have hk1:(k:Int)<m.types.length:=by omega
    obtain⟨hfl,hfm⟩:=Lh (f:=Lx) hx
    have Me:=AA hfl
    have hnb:n+(Lx x).length≤10000000000000:=by have:=HN.out;omega
    clear hfl hfm
    have hs8:=Es.out.types x (List.mem_of_getElem? hx)
    have hln:(Lx x).length=((enc x.p.size).length+x.p.size)+((enc x.r.size).length+x.r.size):=by unfold Lx;rw [List.length_append,Pj,Pj]
    rw [hln] at hnb
    have Yb:=AA hln;clear hln
    have pp:=E9 x.p.size;have pr:=E9 x.r.size
    have e0:wr.cell? ⟨b,o+k*2,none⟩=some (.string x.p):=((Ky.out wr HQ.out).cell lb (p:=⟨b,o+k*2,none⟩)).trans d0
    clear hx hbb
    go_wp2_with fail
    refine(MW x.p (by omega) wr).mono ?_
    rintro e xa ⟨Ba,da,rfl,ho,hb⟩
    have HNa:=AA (Row.own ho)
    have HOa:=AA (HO.out.below hb)
    have HQa:Hid (Below w1.heap.size w1 xa):=AA (HQ.out.trans (hb.mono HQ.out.size))
    have HXa:=AA (Wp.DK hb)
    have hsz:=HQa.out.size
    clear ho hb
    go_upto_region 7 with(at_builtin;refine Jp rfl (.tmp 29) (.tmp 36) rfl w1.heap.size _ _ _ rfl HOa.out _ Ba _ _ (enc (x.p).size++(x.p).data.toList) rfl (by omega) (Kw _) HNa.out (by omega) hsz ?_;intro Ca Ka ya h2 h3 h4;have jl:=AA h2;have RP:=AA (HQa.out.trans h3);have HTa:=AA h4;clear h2 h3 h4)
    clear q0 e0
    have q0:=(Bp.out ya RP.out).q 0 rfl
    have e1:ya.cell? ⟨b,o+k*2+1,none⟩=some (.string x.r):=((Ky.out ya RP.out).cell lb (p:=⟨b,o+k*2+1,none⟩)).trans d1
    go_wp2_with fail
    refine(MW x.r (by omega) ya).mono ?_
    rintro e xb ⟨Bb,db,rfl,ho,hb⟩
    have HNb:=AA (Row.own ho)
    have HOb:=AA (jl.out.below hb)
    have vk:Hid (Below w1.heap.size w1 xb):=AA (RP.out.trans (hb.mono RP.out.size))
    have jf:=AA (Wp.DK hb)
    have hsz:=vk.out.size
    clear ho hb
    go_wp2_with (at_builtin;refine Jp rfl (.tmp 38) (.tmp 45) rfl w1.heap.size _ _ _ rfl HOb.out _ Bb _ _ (enc (x.r).size++(x.r).data.toList) rfl (by omega) (Kw _) HNb.out (by omega) hsz ?_;intro Cb Kb yb h2 h3 h4;have rD:=AA h2;have jm:=AA (vk.out.trans h3);have rF:=AA h4;clear h2 h3 h4)
    exact⟨⟨k+1,_,_,_,by omega,by go_num,rfl,by have:=HN.out;have:=Me.out;have:=Yb.out;omega,rD.out,jm.out⟩,by simp [intOf];omega⟩
   ·go_wp2_with fail
    go_meet
    exact⟨_,_,_,by have:=OZ (f:=Lx) (show k=m.types.length by omega);have:=HN.out;omega,rfl,HO.out,HQ.out⟩
 case rest=>
  obtain⟨n,A,c,hn,rfl,ho,hb⟩:=hcut
  have HO:=AA ho;have HQ:=AA hb;have hsz:=hb.size
  have Pv:=AA hn
  have hnb:n≤10000000000000:=by omega
  clear ho hb hn hbd AEb AAu
  have q0:=(Bp.out wc HQ.out).q 1 rfl
  go_wp2_with fail
  refine(J8 w1.heap.size _ _ _ m.hosts.length wc HO.out HQ.out.size (by omega) (by omega)).mono ?_
  rintro e yp1 ⟨Cp1,Kp1,rfl,ho,hb,hkt⟩
  have HTp1:=AA hkt
  have AEd:=AA ho
  have AAx:Hid (Below w1.heap.size w1 yp1):=AA (HQ.out.trans hb)
  clear ho hb hkt
  clear q0 HO HQ
  go_upto_block 2 with fail
  obtain⟨N1,hN⟩: ∃N,N=n+(enc m.hosts.length).length:=⟨_,rfl⟩
  have YC:=AA hN
  have hbd:N1+(m.hosts.flatMap (fun t:Int=>enc t.toNat)).length≤10000000000000:=by have:=Pw.out;have:=Pv.out;have:=YC.out;omega
  clear hN
  go_cut [3] from 52 to 65 (fun v wx=>LaC w1 (N1+(m.hosts.flatMap (fun t:Int=>enc t.toNat)).length) v wx)
  case first=>
   have q0:=(Bp.out yp1 AAx.out).q 1 rfl
   go_wp2_with fail
   go_loopw [3,5] (fun v i wr=>LaR w1 N1 (fun t:Int=>enc t.toNat) m.hosts v i wr) (fun _ i _=>m.hosts.length-(intOf i).toNat)
   case atStart=>exact⟨0,_,_,_,Nat.zero_le _,rfl,rfl,by simp [YC.out],AEd.out,AAx.out⟩
   case round=>
    obtain⟨k,n,A,c,hk,rfl,rfl,hn,ho,hb⟩:=hrel
    have HO:=AA ho;have HQ:=AA hb;have hsz:=hb.size;have HN:=AA hn
    clear ho hb q0 hn
    have q0:=(Bp.out wr HQ.out).q 1 rfl
    by_cases hlt:k<m.hosts.length
    ·obtain⟨x,hx⟩: ∃x,m.hosts[k]?=some x:=⟨_,List.getElem?_eq_getElem hlt⟩
     obtain⟨b,o,rfl,hbb,d0,_⟩:=yL H1.out hx
     have lb:b<w.heap.size:=Nat.lt_of_lt_of_le hbb Bw.out
     have hk0:(0:Int)≤k:=by omega
     have hk1:(k:Int)<m.hosts.length:=by omega
     obtain⟨hfl,hfm⟩:=Lh (f:=fun t:Int=>enc t.toNat) hx
     have Me:=AA hfl
     have hnb:n+(enc x.toNat).length≤10000000000000:=by have:=HN.out;omega
     clear hfl hfm
     have hs8:=Es.out.hosts x (List.mem_of_getElem? hx)
     have e0:wr.cell? ⟨b,o+k,none⟩=some (.int .i64 x):=((Ky.out wr HQ.out).cell lb (p:=⟨b,o+k,none⟩)).trans d0
     clear hx hbb
     go_wp2_with fail
     refine(Kt w1.heap.size _ _ _ x wr HO.out HQ.out.size hs8 (by omega)).mono ?_
     rintro e ya ⟨Ca,Ka,rfl,ho,hb,hkt⟩
     have HTa:=AA hkt
     have jl:=AA ho
     have RP:Hid (Below w1.heap.size w1 ya):=AA (HQ.out.trans hb)
     clear ho hb hkt
     go_wp2_with fail
     exact⟨⟨k+1,_,_,_,by omega,by go_num,rfl,by have:=HN.out;have:=Me.out;omega,jl.out,RP.out⟩,by simp [intOf];omega⟩
    ·go_wp2_with fail
     go_meet
     exact⟨_,_,_,by have:=OZ (f:=fun t:Int=>enc t.toNat) (show k=m.hosts.length by omega);have:=HN.out;omega,rfl,HO.out,HQ.out⟩
  case rest=>
   obtain⟨n,A,c,hn,rfl,ho,hb⟩:=hcut
   have HO:=AA ho;have HQ:=AA hb;have hsz:=hb.size
   have iV:=AA hn
   have hnb:n≤10000000000000:=by omega
   clear ho hb hn hbd AEd AAx
   have q0:=(Bp.out wc HQ.out).q 2 rfl
   go_wp2_with fail
   refine(J8 w1.heap.size _ _ _ m.globs.length wc HO.out HQ.out.size (by omega) (by omega)).mono ?_
   rintro e yp2 ⟨Cp2,Kp2,rfl,ho,hb,hkt⟩
   have HTp2:=AA hkt
   have AEe:=AA ho
   have AAy:Hid (Below w1.heap.size w1 yp2):=AA (HQ.out.trans hb)
   clear ho hb hkt
   clear q0 HO HQ
   go_upto_block 4 with fail
   obtain⟨N2,hN⟩: ∃N,N=n+(enc m.globs.length).length:=⟨_,rfl⟩
   have HE2:=AA hN
   have hbd:N2+(m.globs.flatMap (F6)).length≤10000000000000:=by have:=Pw.out;have:=Pv.out;have:=YC.out;have:=iV.out;have:=HE2.out;omega
   clear hN
   go_cut [3] from 71 to 100 (fun v wx=>LaC w1 (N2+(m.globs.flatMap (F6)).length) v wx)
   case first=>
    have q0:=(Bp.out yp2 AAy.out).q 2 rfl
    go_wp2_with fail
    go_loopw [3,6,7] (fun v i _ wr=>LaR w1 N2 (F6) m.globs v i wr) (fun _ i _ _=>m.globs.length-(intOf i).toNat)
    case atStart=>exact⟨0,_,_,_,Nat.zero_le _,rfl,rfl,by simp [HE2.out],AEe.out,AAy.out⟩
    case round=>
     obtain⟨k,n,A,c,hk,rfl,rfl,hn,ho,hb⟩:=hrel
     have HO:=AA ho;have HQ:=AA hb;have hsz:=hb.size;have HN:=AA hn
     clear ho hb q0 hn
     have q0:=(Bp.out wr HQ.out).q 2 rfl
     by_cases hlt:k<m.globs.length
     ·obtain⟨x,hx⟩: ∃x,m.globs[k]?=some x:=⟨_,List.getElem?_eq_getElem hlt⟩
      obtain⟨b,o,rfl,_,hbb,d0,d1,d2,_⟩:=Eh H2.out hx
      have lb:b<w.heap.size:=Nat.lt_of_lt_of_le hbb Bw.out
      have hk0:(0:Int)≤k:=by omega
      have hk1:(k:Int)<m.globs.length:=by omega
      obtain⟨hfl,hfm⟩:=Lh (f:=F6) hx
      have Me:=AA hfl
      have hnb:n+(F6 x).length≤10000000000000:=by have:=HN.out;omega
      clear hfl hfm
      have hs8:=Es.out.globs x (List.mem_of_getElem? hx)
      have HS8:=AA hs8
      have hsb:=O9 hs8.2.2 hs8.2.1
      have hln:(F6 x).length=2+(enc (folded (E_ x))).length:=by unfold F6;rw [List.length_append];rfl
      rw [hln] at hnb
      have Yb:=AA hln;clear hln
      have pp:=E9 (folded (E_ x))
      have e0:wr.cell? ⟨b,o+k*3,none⟩=some (.int .u8 (x.l.toNat:Int)):=((Ky.out wr HQ.out).cell lb (p:=⟨b,o+k*3,none⟩)).trans d0
      have e1:wr.cell? ⟨b,o+k*3+1,none⟩=some (.bool x.m):=((Ky.out wr HQ.out).cell lb (p:=⟨b,o+k*3+1,none⟩)).trans d1
      have e2:wr.cell? ⟨b,o+k*3+2,none⟩=some (.int .u64 (x.v:Int)):=((Ky.out wr HQ.out).cell lb (p:=⟨b,o+k*3+2,none⟩)).trans d2
      clear hx hbb hs8
      go_upto_region 18 with fail
      generalize hwg:wr.alloc (.cells #[.int .u8 (x.l.toNat:Int),.bool x.m,.int .u64 (x.v:Int)] 139)=wg
      have hbg:Below wr.heap.size wr wg:=by rw [←hwg];exact(Below.refl _ _).alloc (Nat.le_refl _) _
      have HGX:Hid (AQ wg wr.heap.size 139 [.int .u8 (x.l.toNat:Int),.bool x.m,.int .u64 (x.v:Int)]):=AA (by rw [←hwg];exact AQ.new wr 139 _)
      have HOg:=AA (HO.out.below hbg)
      have HQg:Hid (Below w1.heap.size w1 wg):=AA (HQ.out.trans (hbg.mono HQ.out.size))
      clear hwg hbg e0 e1 e2 q0 hsz
      have hc0:=HGX.out.q 0 rfl
      have AAz:Hid (Below wg.heap.size wg (wg.alloc (.cells #[.int .u8 (x.l.toNat:Int)] 5))):=AA ((Below.refl _ _).alloc (Nat.le_refl _) _)
      have HOAa:=AA (HOg.out.below AAz.out)
      have AEg:Hid (Below w1.heap.size w1 (wg.alloc (.cells #[.int .u8 (x.l.toNat:Int)] 5))):=AA (HQg.out.trans (AAz.out.mono HQg.out.size))
      have HRWa:Hid (Row (wg.alloc (.cells #[.int .u8 (x.l.toNat:Int)] 5)) (wg.heap.size+1) (some ⟨wg.heap.size,0,none⟩) ([x.l].map bv)):=AA (row_one wg (.int .u8 (x.l.toNat:Int)) 5)
      have hsz:=AEg.out.size
      go_upto_region 19 with(at_builtin;refine Jp rfl (.tmp 83) (.tmp 86) rfl w1.heap.size _ _ _ rfl HOAa.out _ _ _ _ ([x.l]) rfl (by decide) rfl HRWa.out (by omega) hsz ?_;intro Ca Ka ya h2 h3 h4;have jl:=AA h2;have RP:=AA (AEg.out.trans h3);have HTa:=AA h4;clear h2 h3 h4)
      have zC:=AA (HTa.out _ _ _ (by decide) (HGX.out.below AAz.out HGX.out.lt))
      clear hc0
      have hc1:=zC.out.q 1 rfl
      cases hxm:x.m
      case' false=>
       rw [hxm] at hc1
       have Wq:Hid (Below ya.heap.size ya (ya.alloc (.cells #[.int .u8 0] 5))):=AA ((Below.refl _ _).alloc (Nat.le_refl _) _)
       have oU:=AA (jl.out.below Wq.out)
       have aQ:Hid (Below w1.heap.size w1 (ya.alloc (.cells #[.int .u8 0] 5))):=AA (RP.out.trans (Wq.out.mono RP.out.size))
       have oV:Hid (Row (ya.alloc (.cells #[.int .u8 0] 5)) (ya.heap.size+1) (some ⟨ya.heap.size,0,none⟩) ([0].map bv)):=AA (row_one ya (.int .u8 0) 5)
       have hsz:=aQ.out.size
       go_upto_region 22 with(at_builtin;refine Jp rfl (.tmp 93) (.tmp 94) rfl w1.heap.size _ _ _ rfl oU.out _ _ _ _ ([0]) rfl (by decide) rfl oV.out (by omega) hsz ?_;intro Cb Kb yb h2 h3 h4;have rD:=AA h2;have jm:=AA (aQ.out.trans h3);have rF:=AA h4;clear h2 h3 h4)
       have AEh:=AA (rF.out _ _ _ (by decide) (zC.out.below Wq.out zC.out.lt))
       clear hxm hc1 Wq oU aQ oV rF
      case' true=>
       rw [hxm] at hc1
       have Wq:Hid (Below ya.heap.size ya (ya.alloc (.cells #[.int .u8 1] 5))):=AA ((Below.refl _ _).alloc (Nat.le_refl _) _)
       have oU:=AA (jl.out.below Wq.out)
       have aQ:Hid (Below w1.heap.size w1 (ya.alloc (.cells #[.int .u8 1] 5))):=AA (RP.out.trans (Wq.out.mono RP.out.size))
       have oV:Hid (Row (ya.alloc (.cells #[.int .u8 1] 5)) (ya.heap.size+1) (some ⟨ya.heap.size,0,none⟩) ([1].map bv)):=AA (row_one ya (.int .u8 1) 5)
       have hsz:=aQ.out.size
       go_upto_region 22 with(at_builtin;refine Jp rfl (.tmp 90) (.tmp 91) rfl w1.heap.size _ _ _ rfl oU.out _ _ _ _ ([1]) rfl (by decide) rfl oV.out (by omega) hsz ?_;intro Cb Kb yb h2 h3 h4;have rD:=AA h2;have jm:=AA (aQ.out.trans h3);have rF:=AA h4;clear h2 h3 h4)
       have AEh:=AA (rF.out _ _ _ (by decide) (zC.out.below Wq.out zC.out.lt))
       clear hxm hc1 Wq oU aQ oV rF
      all_goals
       have HGb:Hid (AQ yb wr.heap.size 139 [.int .u8 (x.l.toNat:Int),.bool x.m,.int .u64 (x.v:Int)]):=AEh
       have hc0:=HGb.out.q 0 rfl
       have hc1:=HGb.out.q 1 rfl
       have hc2:=HGb.out.q 2 rfl
       go_wp2_with fail
       refine(iU x yb HS8.out.1 HS8.out.2.1 HS8.out.2.2).mono ?_
       rintro e xs ⟨hbs,rfl⟩
       have HOs:=AA (rD.out.below hbs)
       have HQs:Hid (Below w1.heap.size w1 xs):=AA (jm.out.trans (hbs.mono jm.out.size))
       clear hbs hc0 hc1 hc2
       go_wp2_with fail
       refine(Xi (E_ x) hsb.1 hsb.2 xs).mono ?_
       rintro e xc ⟨Bc,dc,rfl,ho,hb⟩
       have HNc:=AA (Row.own ho)
       have HOc:=AA (HOs.out.below hb)
       have HQc:Hid (Below w1.heap.size w1 xc):=AA (HQs.out.trans (hb.mono HQs.out.size))
       have hsz:=HQc.out.size
       clear ho hb
       go_wp2_with (at_builtin;refine Jp rfl (.tmp 96) (.tmp 99) rfl w1.heap.size _ _ _ rfl HOc.out _ Bc _ _ (enc (folded (E_ x))) rfl pp rfl HNc.out (by omega) hsz ?_;intro Cd Kd yd h2 h3 h4;have HPd:=AA h2;have HRd:=AA (HQc.out.trans h3);have HTd:=AA h4;clear h2 h3 h4)
       exact⟨⟨k+1,_,_,_,by omega,by go_num,rfl,by have:=HN.out;have:=Me.out;have:=Yb.out;omega,HPd.out,HRd.out⟩,by simp [intOf];omega⟩
     ·go_wp2_with fail
      go_meet
      exact⟨_,_,_,by have:=OZ (f:=F6) (show k=m.globs.length by omega);have:=HN.out;omega,rfl,HO.out,HQ.out⟩
   case rest=>
    obtain⟨n,A,c,hn,rfl,ho,hb⟩:=hcut
    have HO:=AA ho;have HQ:=AA hb;have hsz:=hb.size
    have Im:=AA hn
    have hnb:n≤10000000000000:=by omega
    clear ho hb hn hbd AEe AAy
    have q3:=(Bp.out wc HQ.out).q 3 rfl
    go_wp2_with fail
    refine(Kt w1.heap.size _ _ _ m.first wc HO.out HQ.out.size ⟨Es.out.f0.1,by have:=Es.out.f0.2;omega⟩ (by omega)).mono ?_
    rintro e yu ⟨Cu,Ku,rfl,ho,hb,hkt⟩
    have HTu:=AA hkt
    have HPu:=AA ho
    have HRu:Hid (Below w1.heap.size w1 yu):=AA (HQ.out.trans hb)
    clear ho hb hkt
    have q4:=(Bp.out yu HRu.out).q 4 rfl
    go_wp2_with fail
    refine(Kt w1.heap.size _ _ _ m.most yu HPu.out HRu.out.size ⟨Es.out.m0.1,by have:=Es.out.m0.2;omega⟩ (by omega)).mono ?_
    rintro e yv ⟨Cv,Kv,rfl,ho,hb,hkt⟩
    have HTv:=AA hkt
    have HPv:=AA ho
    have HRv:Hid (Below w1.heap.size w1 yv):=AA (HRu.out.trans hb)
    clear ho hb hkt
    have q5:=(Bp.out yv HRv.out).q 5 rfl
    go_wp2_with fail
    refine(J8 w1.heap.size _ _ _ m.fns.length yv HPv.out HRv.out.size (by omega) (by omega)).mono ?_
    rintro e yp3 ⟨Cp3,Kp3,rfl,ho,hb,hkt⟩
    have HTp3:=AA hkt
    have AEi:=AA ho
    have AA0:Hid (Below w1.heap.size w1 yp3):=AA (HRv.out.trans hb)
    clear ho hb hkt
    clear q3 q4 q5 HO HQ HPu HRu HPv HRv
    go_upto_block 6 with fail
    obtain⟨N3,hN⟩: ∃N,N=n+(enc m.first.toNat).length+(enc m.most.toNat).length+(enc m.fns.length).length:=⟨_,rfl⟩
    have oG:=AA hN
    have hbd:N3+(m.fns.flatMap (Uv)).length≤10000000000000:=by have:=Pw.out;have:=Pv.out;have:=YC.out;have:=iV.out;have:=HE2.out;have:=Im.out;have:=oG.out;omega
    clear hN
    go_cut [3] from 114 to 158 (fun v wx=>LaC w1 (N3+(m.fns.flatMap (Uv)).length) v wx)
    case first=>
     have q0:=(Bp.out yp3 AA0.out).q 5 rfl
     go_wp2_with fail
     go_loopw [3,8,9,10,11,12] (fun v i _ _ _ _ wr=>LaR w1 N3 (Uv) m.fns v i wr) (fun _ i _ _ _ _ _=>m.fns.length-(intOf i).toNat)
     case atStart=>exact⟨0,_,_,_,Nat.zero_le _,rfl,rfl,by simp [oG.out],AEi.out,AA0.out⟩
     case round=>
      obtain⟨k,n,A,c,hk,rfl,rfl,hn,ho,hb⟩:=hrel
      have HO:=AA ho;have HQ:=AA hb;have hsz:=hb.size;have HN:=AA hn
      clear ho hb q0 hn
      have q0:=(Bp.out wr HQ.out).q 5 rfl
      by_cases hlt:k<m.fns.length
      ·obtain⟨x,hx⟩: ∃x,m.fns[k]?=some x:=⟨_,List.getElem?_eq_getElem hlt⟩
       obtain⟨b,o,TJ,Ko,rfl,_,hbb,d0,d1,d2,_,_,hcd⟩:=Eu H5.out hx
       have lb:b<w.heap.size:=Nat.lt_of_lt_of_le hbb Bw.out
       have hk0:(0:Int)≤k:=by omega
       have hk1:(k:Int)<m.fns.length:=by omega
       obtain⟨hfl,hfm⟩:=Lh (f:=Uv) hx
       have Me:=AA hfl
       have hnb:n+(Uv x).length≤10000000000000:=by have:=HN.out;omega
       clear hfl hfm
       obtain⟨⟨ft0,ft1⟩,flz,fcl,fck⟩:=Es.out.fns x (List.mem_of_getElem? hx)
       have HCK:=AA fck;have X5:=AA hcd
       have hln:(Uv x).length=(enc x.t.toNat).length+((enc x.loc.size).length+x.loc.size)+(enc x.code.length).length+(x.code.flatMap G_).length:=by unfold Uv;simp only [List.length_append,Pj]
       rw [hln] at hnb
       have Yb:=AA hln
       have pp:=E9 x.loc.size
       have e0:wr.cell? ⟨b,o+k*3,none⟩=some (.int .i64 x.t):=((Ky.out wr HQ.out).cell lb (p:=⟨b,o+k*3,none⟩)).trans d0
       have e1:wr.cell? ⟨b,o+k*3+1,none⟩=some (.string x.loc):=((Ky.out wr HQ.out).cell lb (p:=⟨b,o+k*3+1,none⟩)).trans d1
       have e2:wr.cell? ⟨b,o+k*3+2,none⟩=some (.slice TJ x.code.length Ko):=((Ky.out wr HQ.out).cell lb (p:=⟨b,o+k*3+2,none⟩)).trans d2
       clear hx hbb hln fck hcd
       go_upto_region 30 with fail
       generalize hwg:wr.alloc (.cells #[.int .i64 x.t,.string x.loc,.slice TJ x.code.length Ko] 96)=wg
       have hbg:Below wr.heap.size wr wg:=by rw [←hwg];exact(Below.refl _ _).alloc (Nat.le_refl _) _
       have HGX:Hid (AQ wg wr.heap.size 96 [.int .i64 x.t,.string x.loc,.slice TJ x.code.length Ko]):=AA (by rw [←hwg];exact AQ.new wr 96 _)
       have HOg:=AA (HO.out.below hbg)
       have HQg:Hid (Below w1.heap.size w1 wg):=AA (HQ.out.trans (hbg.mono HQ.out.size))
       clear hwg hbg e0 e1 e2 q0 hsz
       have hc0:=HGX.out.q 0 rfl
       go_wp2_with fail
       refine(Kt w1.heap.size _ _ _ x.t wg HOg.out HQg.out.size ⟨ft0,ft1⟩ (by omega)).mono ?_
       rintro e ya ⟨Ca,Ka,rfl,ho,hb,hkt⟩
       have HTa:=AA hkt
       have jl:=AA ho
       have RP:Hid (Below w1.heap.size w1 ya):=AA (HQg.out.trans hb)
       clear ho hb hkt
       have zC:=AA (HTa.out _ _ _ (by decide) HGX.out)
       clear hc0
       have hc1:=zC.out.q 1 rfl
       go_wp2_with fail
       refine(MW x.loc (by omega) ya).mono ?_
       rintro e xb ⟨Bb,db,rfl,ho,hb⟩
       have HNb:=AA (Row.own ho)
       have HOb:=AA (jl.out.below hb)
       have vk:Hid (Below w1.heap.size w1 xb):=AA (RP.out.trans (hb.mono RP.out.size))
       have jf:=AA (Wp.DK hb)
       have hsz:=vk.out.size
       clear ho hb
       go_upto_region 32 with(at_builtin;refine Jp rfl (.tmp 130) (.tmp 133) rfl w1.heap.size _ _ _ rfl HOb.out _ Bb _ _ (enc (x.loc).size++(x.loc).data.toList) rfl (by omega) (Kw _) HNb.out (by omega) hsz ?_;intro Cb Kb yb h2 h3 h4;have rD:=AA h2;have jm:=AA (vk.out.trans h3);have rF:=AA h4;clear h2 h3 h4)
       have HGb:=AA (rF.out _ _ _ (by decide) (jf.out _ _ _ (by decide) zC.out))
       clear hc1
       have hc2:=HGb.out.q 2 rfl
       go_wp2_with fail
       refine(J8 w1.heap.size _ _ _ x.code.length yb rD.out jm.out.size (by omega) (by omega)).mono ?_
       rintro e yd ⟨Cd,Kd,rfl,ho,hb,hkt⟩
       have HTd:=AA hkt
       have HPd:=AA ho
       have HRd:Hid (Below w1.heap.size w1 yd):=AA (jm.out.trans hb)
       clear ho hb hkt
       have HGd:=AA (HTd.out _ _ _ (by decide) HGb.out)
       clear hc2 hsz HNb HOb vk
       have hc2:=HGd.out.q 2 rfl
       go_wp2_with fail
       clear hc2
       obtain⟨M,hM⟩: ∃M,M=n+(enc x.t.toNat).length+((enc x.loc.size).length+x.loc.size)+(enc x.code.length).length:=⟨_,rfl⟩
       have hMb:M+(x.code.flatMap G_).length≤10000000000000:=by omega
       have HM:=AA hM
       clear hM
       obtain⟨wo,rfl⟩: ∃wo:World,wo=wr:=⟨_,rfl⟩
       go_loopw [3,10,11,12] (fun v i _ _ wr=>LaR w1 M G_ x.code v i wr∧AQ wr wo.heap.size 96 [.int .i64 x.t,.string x.loc,.slice TJ x.code.length Ko]) (fun _ i _ _ _=>x.code.length-(intOf i).toNat)
       case atStart=>exact⟨⟨0,_,_,_,Nat.zero_le _,rfl,rfl,by simp [HM.out],HPd.out,HRd.out⟩,HGd.out⟩
       case round=>
        obtain⟨⟨j,nj,Aj,cj,hj,rfl,rfl,hnj,hoj,hbj⟩,hgj⟩:=hrel
        have HOj:=AA hoj;have zD:=AA hbj;have HNj:=AA hnj;have HGj:=AA hgj
        have hc2:=hgj.q 2 rfl
        clear hoj hbj hnj hgj
        by_cases hjl:j<x.code.length
        ·obtain⟨z,hz⟩: ∃z,x.code[j]?=some z:=⟨_,List.getElem?_eq_getElem hjl⟩
         obtain⟨b2,o2,cs2,eC,hb2,i0,i1,i2,hrz⟩: ∃b2 o2 cs2,TJ=some ⟨b2,o2,none⟩∧b2<hi∧w.cell? ⟨b2,o2+j*3,none⟩=some (.int .u8 (z.op.toNat:Int))∧w.cell? ⟨b2,o2+j*3+1,none⟩=some (.int .i64 z.a)∧w.cell? ⟨b2,o2+j*3+2,none⟩=some cs2∧Ei.R w 0 hi [.int .u8 (z.op.toNat:Int),.int .i64 z.a,cs2] z:=by
          obtain⟨b2,o2,Al,cl,e1,_,h2,h3,h4,h5,h6,h7⟩:=Dy X5.out hz
          exact⟨b2,o2,_,e1,h2,h3,h4,h5,DL.2 ⟨_,rfl,h6,h7⟩⟩
         subst eC
         have tK:b2<w.heap.size:=Nat.lt_of_lt_of_le hb2 Bw.out
         have hj0:(0:Int)≤j:=by omega
         have hj1:(j:Int)<x.code.length:=by omega
         have e0:=((Ky.out wr zD.out).cell tK (p:=⟨b2,o2+j*3,none⟩)).trans i0
         have e1:=((Ky.out wr zD.out).cell tK (p:=⟨b2,o2+j*3+1,none⟩)).trans i1
         have e2:=((Ky.out wr zD.out).cell tK (p:=⟨b2,o2+j*3+2,none⟩)).trans i2
         have hck:=HCK.out z (List.mem_of_getElem? hz)
         have hpz:=Ym hck
         have nQ:=YD [.int .u8 (z.op.toNat:Int),.int .i64 z.a,cs2] hi z wr (Rd.below hrz (Ky.out wr zD.out) Bw.out) (Nat.le_trans Bw.out (Ky.out wr zD.out).size)
         rw [show CQ z=G_ z from if_pos hck,hck] at nQ
         have nQ:=AA nQ
         obtain⟨AEl,hfm2⟩:=Lh (f:=G_) hz
         have HFL2:=AA AEl
         have hnb2:nj+(G_ z).length≤10000000000000:=by have:=HNj.out;omega
         clear hz hb2 i0 i1 i2 hrz hck AEl hfm2
         go_wp2_with fail
         refine nQ.out.mono ?_
         rintro e xe ⟨hbe,Be,de,rfl,hoe⟩
         have HNe:=AA (Row.own hoe)
         have HOe:=AA (HOj.out.below hbe)
         have HQe:Hid (Below w1.heap.size w1 xe):=AA (zD.out.trans (hbe.mono zD.out.size))
         have HGe:=AA (HGj.out.below hbe HGj.out.lt)
         have hsz:=HQe.out.size
         clear hbe hoe e0 e1 e2 hc2
         go_wp2_with (at_builtin;refine Jp rfl (.tmp 156) (.tmp 157) rfl w1.heap.size _ _ _ rfl HOe.out _ Be _ _ (G_ z) rfl hpz rfl HNe.out (by omega) hsz ?_;intro Cf Kf yf h2 h3 h4;have HPf:=AA h2;have HRf:=AA (HQe.out.trans h3);have HTf:=AA h4;clear h2 h3 h4)
         exact⟨⟨⟨j+1,_,_,_,by omega,by go_num,rfl,by have:=HNj.out;have:=HFL2.out;omega,HPf.out,HRf.out⟩,HTf.out _ _ _ (by decide) HGe.out⟩,by simp [intOf];omega⟩
        ·go_wp2_with fail
         exact⟨⟨k+1,_,_,_,by omega,by go_num,rfl,by have:=OZ (f:=G_) (show j=x.code.length by omega);have:=HN.out;have:=Me.out;have:=Yb.out;have:=HM.out;have:=HNj.out;omega,HOj.out,zD.out⟩,by simp [intOf];omega⟩
      ·go_wp2_with fail
       go_meet
       exact⟨_,_,_,by have:=OZ (f:=Uv) (show k=m.fns.length by omega);have:=HN.out;omega,rfl,HO.out,HQ.out⟩
    case rest=>
     obtain⟨n,A,c,hn,rfl,ho,hb⟩:=hcut
     have HO:=AA ho;have HQ:=AA hb;have hsz:=hb.size
     have UC:=AA hn
     have hnb:n≤10000000000000:=by omega
     clear ho hb hn hbd AEi AA0
     have q0:=(Bp.out wc HQ.out).q 6 rfl
     go_wp2_with fail
     refine(J8 w1.heap.size _ _ _ m.dat.length wc HO.out HQ.out.size (by omega) (by omega)).mono ?_
     rintro e yp4 ⟨Cp4,Kp4,rfl,ho,hb,hkt⟩
     have HTp4:=AA hkt
     have AEm:=AA ho
     have AA1:Hid (Below w1.heap.size w1 yp4):=AA (HQ.out.trans hb)
     clear ho hb hkt
     clear q0 HO HQ
     go_upto_block 10 with fail
     obtain⟨N4,hN⟩: ∃N,N=n+(enc m.dat.length).length:=⟨_,rfl⟩
     have mq:=AA hN
     have hbd:N4+(m.dat.flatMap (Jb)).length≤10000000000000:=by have:=Pw.out;have:=Pv.out;have:=YC.out;have:=iV.out;have:=HE2.out;have:=Im.out;have:=oG.out;have:=UC.out;have:=mq.out;omega
     clear hN
     go_cut [3] from 164 to 188 (fun v wx=>LaC w1 (N4+(m.dat.flatMap (Jb)).length) v wx)
     case first=>
      have q0:=(Bp.out yp4 AA1.out).q 6 rfl
      go_wp2_with fail
      go_loopw [3,13] (fun v i wr=>LaR w1 N4 (Jb) m.dat v i wr) (fun _ i _=>m.dat.length-(intOf i).toNat)
      case atStart=>exact⟨0,_,_,_,Nat.zero_le _,rfl,rfl,by simp [mq.out],AEm.out,AA1.out⟩
      case round=>
       obtain⟨k,n,A,c,hk,rfl,rfl,hn,ho,hb⟩:=hrel
       have HO:=AA ho;have HQ:=AA hb;have hsz:=hb.size;have HN:=AA hn
       clear ho hb q0 hn
       have q0:=(Bp.out wr HQ.out).q 6 rfl
       by_cases hlt:k<m.dat.length
       ·obtain⟨x,hx⟩: ∃x,m.dat[k]?=some x:=⟨_,List.getElem?_eq_getElem hlt⟩
        obtain⟨b,o,Nv,Ni,rfl,_,hbb,d0,d1,_,hrb⟩:=IY H6.out hx
        have lb:b<w.heap.size:=Nat.lt_of_lt_of_le hbb Bw.out
        have hk0:(0:Int)≤k:=by omega
        have hk1:(k:Int)<m.dat.length:=by omega
        obtain⟨hfl,hfm⟩:=Lh (f:=Jb) hx
        have Me:=AA hfl
        have hnb:n+(Jb x).length≤10000000000000:=by have:=HN.out;omega
        clear hfl hfm
        obtain⟨⟨ft0,ft1⟩,fbl⟩:=Es.out.dat x (List.mem_of_getElem? hx)
        have hln:(Jb x).length=(enc x.at_.toNat).length+((enc x.b.length).length+x.b.length):=by unfold Jb;simp only [List.length_append]
        rw [hln] at hnb
        have Yb:=AA hln
        have pp:=E9 x.b.length
        have HRB:=AA (Rd.GV hrb).2
        have e0:wr.cell? ⟨b,o+k*2,none⟩=some (.int .i64 x.at_):=((Ky.out wr HQ.out).cell lb (p:=⟨b,o+k*2,none⟩)).trans d0
        clear hx hbb hln hrb
        go_wp2_with fail
        refine(Kt w1.heap.size _ _ _ x.at_ wr HO.out HQ.out.size ⟨ft0,ft1⟩ (by omega)).mono ?_
        rintro e ya ⟨Ca,Ka,rfl,ho,hb,hkt⟩
        have HTa:=AA hkt
        have jl:=AA ho
        have RP:Hid (Below w1.heap.size w1 ya):=AA (HQ.out.trans hb)
        clear ho hb hkt
        go_upto_region 43 with fail
        clear q0 e0
        have q0:=(Bp.out ya RP.out).q 6 rfl
        have e1:ya.cell? ⟨b,o+k*2+1,none⟩=some (.slice Nv x.b.length Ni):=((Ky.out ya RP.out).cell lb (p:=⟨b,o+k*2+1,none⟩)).trans d1
        have hcv:=Nu (P:=prog) 40 5 9 underlying40 underlying5 underlying9 ya hi Nv x.b.length Ni x.b rfl (HRB.out.below' (Ky.out ya RP.out) Bw.out)
        obtain⟨sb,hsb⟩: ∃sb:ByteArray,sb=⟨x.b.toArray⟩:=⟨_,rfl⟩
        have hsl:sb.size=x.b.length:=by rw [hsb];simp [ByteArray.size]
        rw [←hsb] at hcv
        have pq:=E9 sb.size
        have HSL:=AA hsl
        have hsz3:sb.size≤300000:=by omega
        have hnb3:n+((enc x.at_.toNat).length+((enc sb.size).length+sb.size))≤10000000000000:=by rw [hsl];exact hnb
        clear hsb hsl
        go_wp2_with fail
        refine(MW sb (by omega) ya).mono ?_
        rintro e xb ⟨Bb,db,rfl,ho,hb⟩
        have HNb:=AA (Row.own ho)
        have HOb:=AA (jl.out.below hb)
        have vk:Hid (Below w1.heap.size w1 xb):=AA (RP.out.trans (hb.mono RP.out.size))
        have jf:=AA (Wp.DK hb)
        have hsz:=vk.out.size
        clear ho hb
        go_wp2_with (at_builtin;refine Jp rfl (.tmp 179) (.tmp 187) rfl w1.heap.size _ _ _ rfl HOb.out _ Bb _ _ (enc (sb).size++(sb).data.toList) rfl (by omega) (Kw _) HNb.out (by omega) hsz ?_;intro Cb Kb yb h2 h3 h4;have rD:=AA h2;have jm:=AA (vk.out.trans h3);have rF:=AA h4;clear h2 h3 h4)
        exact⟨⟨k+1,_,_,_,by omega,by go_num,rfl,by have:=HN.out;have:=Me.out;have:=Yb.out;rw [HSL.out];omega,rD.out,jm.out⟩,by simp [intOf];omega⟩
       ·go_wp2_with fail
        go_meet
        exact⟨_,_,_,by have:=OZ (f:=Jb) (show k=m.dat.length by omega);have:=HN.out;omega,rfl,HO.out,HQ.out⟩
     case rest=>
      obtain⟨n,A,c,hn,rfl,ho,hb⟩:=hcut
      have HO:=AA ho;have HQ:=AA hb;have hsz:=hb.size
      have YQ:=AA hn
      have hnb:n≤10000000000000:=by omega
      clear ho hb hn hbd AEm AA1
      have q0:=(Bp.out wc HQ.out).q 7 rfl
      go_wp2_with fail
      refine(J8 w1.heap.size _ _ _ m.Au.length wc HO.out HQ.out.size (by omega) (by omega)).mono ?_
      rintro e yp5 ⟨Cp5,Kp5,rfl,ho,hb,hkt⟩
      have HTp5:=AA hkt
      have AEo:=AA ho
      have AA2:Hid (Below w1.heap.size w1 yp5):=AA (HQ.out.trans hb)
      clear ho hb hkt
      clear q0 HO HQ
      go_upto_block 12 with fail
      obtain⟨N5,hN⟩: ∃N,N=n+(enc m.Au.length).length:=⟨_,rfl⟩
      have HE5:=AA hN
      have hbd:N5+(m.Au.flatMap (KJ)).length≤10000000000000:=by have:=Pw.out;have:=Pv.out;have:=YC.out;have:=iV.out;have:=HE2.out;have:=Im.out;have:=oG.out;have:=UC.out;have:=mq.out;have:=YQ.out;have:=HE5.out;omega
      clear hN
      go_cut [3] from 194 to 217 (fun v wx=>LaC w1 (N5+(m.Au.flatMap (KJ)).length) v wx)
      case first=>
       have q0:=(Bp.out yp5 AA2.out).q 7 rfl
       go_wp2_with fail
       go_loopw [3,14] (fun v i wr=>LaR w1 N5 (KJ) m.Au v i wr) (fun _ i _=>m.Au.length-(intOf i).toNat)
       case atStart=>exact⟨0,_,_,_,Nat.zero_le _,rfl,rfl,by simp [HE5.out],AEo.out,AA2.out⟩
       case round=>
        obtain⟨k,n,A,c,hk,rfl,rfl,hn,ho,hb⟩:=hrel
        have HO:=AA ho;have HQ:=AA hb;have hsz:=hb.size;have HN:=AA hn
        clear ho hb q0 hn
        have q0:=(Bp.out wr HQ.out).q 7 rfl
        by_cases hlt:k<m.Au.length
        ·obtain⟨x,hx⟩: ∃x,m.Au[k]?=some x:=⟨_,List.getElem?_eq_getElem hlt⟩
         obtain⟨b,o,rfl,_,hbb,d0,d1,_,_⟩:=Jw H7.out hx
         have lb:b<w.heap.size:=Nat.lt_of_lt_of_le hbb Bw.out
         have hk0:(0:Int)≤k:=by omega
         have hk1:(k:Int)<m.Au.length:=by omega
         obtain⟨hfl,hfm⟩:=Lh (f:=KJ) hx
         have Me:=AA hfl
         have hnb:n+(KJ x).length≤10000000000000:=by have:=HN.out;omega
         clear hfl hfm
         obtain⟨⟨ft0,ft1⟩,fnz⟩:=Es.out.Au x (List.mem_of_getElem? hx)
         have hln:(KJ x).length=((enc x.n.size).length+x.n.size)+(enc x.f.toNat).length:=by unfold KJ;rw [List.length_append,Pj]
         rw [hln] at hnb
         have Yb:=AA hln
         have pp:=E9 x.n.size
         have e0:wr.cell? ⟨b,o+k*2,none⟩=some (.string x.n):=((Ky.out wr HQ.out).cell lb (p:=⟨b,o+k*2,none⟩)).trans d0
         clear hx hbb hln
         go_wp2_with fail
         refine(MW x.n (by omega) wr).mono ?_
         rintro e xa ⟨Ba,da,rfl,ho,hb⟩
         have HNa:=AA (Row.own ho)
         have HOa:=AA (HO.out.below hb)
         have HQa:Hid (Below w1.heap.size w1 xa):=AA (HQ.out.trans (hb.mono HQ.out.size))
         have HXa:=AA (Wp.DK hb)
         have hsz:=HQa.out.size
         clear ho hb
         go_upto_region 49 with(at_builtin;refine Jp rfl (.tmp 201) (.tmp 208) rfl w1.heap.size _ _ _ rfl HOa.out _ Ba _ _ (enc (x.n).size++(x.n).data.toList) rfl (by omega) (Kw _) HNa.out (by omega) hsz ?_;intro Ca Ka ya h2 h3 h4;have jl:=AA h2;have RP:=AA (HQa.out.trans h3);have HTa:=AA h4;clear h2 h3 h4)
         clear q0 e0
         have q0:=(Bp.out ya RP.out).q 7 rfl
         have e1:ya.cell? ⟨b,o+k*2+1,none⟩=some (.int .i64 x.f):=((Ky.out ya RP.out).cell lb (p:=⟨b,o+k*2+1,none⟩)).trans d1
         go_wp2_with fail
         refine(Kt w1.heap.size _ _ _ x.f ya jl.out RP.out.size ⟨ft0,ft1⟩ (by omega)).mono ?_
         rintro e yb ⟨Cb,Kb,rfl,ho,hb,hkt⟩
         have rF:=AA hkt
         have rD:=AA ho
         have jm:Hid (Below w1.heap.size w1 yb):=AA (RP.out.trans hb)
         clear ho hb hkt
         go_wp2_with fail
         exact⟨⟨k+1,_,_,_,by omega,by go_num,rfl,by have:=HN.out;have:=Me.out;have:=Yb.out;omega,rD.out,jm.out⟩,by simp [intOf];omega⟩
        ·go_wp2_with fail
         go_meet
         exact⟨_,_,_,by have:=OZ (f:=KJ) (show k=m.Au.length by omega);have:=HN.out;omega,rfl,HO.out,HQ.out⟩
      case rest=>
       obtain⟨n,A,c,hn,rfl,ho,hb⟩:=hcut
       have HO:=AA ho;have HQ:=AA hb;have hsz:=hb.size
       have yU:=AA hn
       have hnb:n≤10000000000000:=by omega
       clear ho hb hn hbd AEo AA2
       go_wp2_with fail
       go_ret
       exact⟨Ky.out _ HQ.out,A,c,by have he:n=(KY m).length:=(by rw [←HT.out];have:=Pw.out;have:=Pv.out;have:=YC.out;have:=iV.out;have:=HE2.out;have:=Im.out;have:=oG.out;have:=UC.out;have:=mq.out;have:=YQ.out;have:=HE5.out;have:=yU.out;omega);rw [he];rfl⟩
end Go.Proofs.YtlagonfamllgjaaGreatDoor
