/- Part 31 of the proof: RdrG RdrH -/
import Derived.Lib.EndianBits
import Derived.Test.YtebgikflpgcnlaaGreatDoorP30
namespace Go.Proofs.YtebgikflpgcnlaaGreatDoor
set_option linter.unusedVariables false
set_option linter.unusedSimpArgs false
set_option maxRecDepth 100000
set_option maxHeartbeats 4000000
open Go.RowKit Tryz
theorem Zn (n:Int):(n==wrap64 (wrap32 n))=true↔ -2147483648≤n∧n<2147483648:=by
 rw [beq_iff_eq]
 unfold wrap64 wrap32
 omega
theorem su (n:Int):IntKind.u64.wrap n=((n%18446744073709551616).toNat:Int):=by rw [IntKind.wrap_u64];omega
section
variable {B b A hi:Nat} {w:World} {col:Nat→Nat} {v1 v2 v3 v6 v7 v8:Value} {m:AQ} {st ln:Nat} {ws:List ByteArray}
theorem QF:(prog.info? 82).map (fun i=>(i.zero,i.size,i.bytes))=some (some (.agg #[.int .u8 0,.bool false,.int .u64 0]),3,16):=by kernel_rfl
theorem XM {x0 x3:ByteArray} (h:XK B b A hi w col v1 v2 v3 v6 v7 v8 m st ln [x0,wW,Qd,x3]):
 Calls prog 91 #[.pointer (some ⟨b,0,none⟩),.slice (some ⟨A,0,none⟩) 4 4] w (K6 (fun W m'=>Ti B b W m' st ln) B b w (Ar 4 m [wW,Qd,x3])):=by
 obtain⟨A2,c2,Ip,e2,hP⟩:=h.rd.six.p3
 subst e2
 obtain⟨i0,hi0,hz,hs',hby⟩:=info_parts QF
 have hc1:=h.rd.blk.q 2 rfl
 have hw1:w.cell? ⟨A,1,none⟩=some (.string ⟨#[119]⟩):=h.wd.at_ 1 _ rfl
 have hw2:w.cell? ⟨A,2,none⟩=some (.string ⟨#[118,97,114]⟩):=h.wd.at_ 2 _ rfl
 have hw3:w.cell? ⟨A,3,none⟩=some (.string x3):=h.wd.at_ 3 _ rfl
 have hbl:=h.rd.blk.lt
 have Om:=h.wd.lt
 have hhi:=h.hhi
 have hlow:=h.rd.low
 have htop:=h.rd.top
 have hq:=h.lens.globs
 have hb5:Below w.heap.size w (w.alloc (.cells #[.int .u8 0,.bool false,.int .u64 0] 82)).drew:=((Below.refl _ _).alloc (Nat.le_refl _) _).drew
 have k1:=(hb5.cell (p:=⟨A,1,none⟩) Om).trans hw1
 have k2:=(hb5.cell (p:=⟨A,2,none⟩) Om).trans hw2
 have HX:=AA (h.wd.sz x3 (by simp));have HE:=AA h.env;have HR:=AA h.rd;have HP:=AA hP
 clear h hP
 go_enter func91,ntmps91
 go_wp2_with fail
 refine(C_ (some ⟨A,0,none⟩) 4 4 4 w).mono ?_
 rintro e w1 ⟨rfl,I4⟩
 rcases I4 with⟨_,rfl⟩ | ⟨hf,_⟩
 case inr=>exact absurd hf (by decide)
 go_wp2_with fail
 refine(AP _).mono ?_
 rintro e w1 ⟨rfl,rfl⟩
 go_wp2_with fail
 refine(AP _).mono ?_
 rintro e w1 ⟨rfl,rfl⟩
 go_wp2_with fail
 go_region
 all_goals
  clear k1 k2 hb5
  go_wp2_with fail
  generalize hw3:World.drew _=w3
  have hb3:Below w.heap.size w w3:=by rw [←hw3];exact((Below.refl _ _).alloc (Nat.le_refl _) _).drew
  have hx3:AV w3 w.heap.size 82 [.int .u8 119,.bool true,.int .u64 0]:=by rw [←hw3];exact(AV.new w _ [.int .u8 119,.bool true,.int .u64 0]).drewN 1
  clear hw3
  have TI:=hb3.size
  refine(Dq x3 (by have:=HX.out;omega) w3 (HE.out.up hb3 (by omega)) (by omega)).mono ?_
  rintro e w4 ⟨hb4,⟨h0,rfl⟩ | ⟨n,hn,hn63,rfl⟩⟩
  ·go_wp2_with fail
   refine⟨rfl,.inl ⟨?_,rfl,hb3.trans (hb4.mono TI)⟩⟩
   show(CK x3).bind _=none
   rw [h0];rfl
  have hx4:=hx3.below hb4 hx3.lt
  have Ke:=AA (hb3.trans (hb4.mono TI))
  have c0:=hx4.q 0 rfl
  have c1:=hx4.q 1 rfl
  have c3:=hx4.q 2 rfl
  have f2:=hx4.frozen 2
  have j4:=AA hx4;have HN:=AA hn;have H63:=AA hn63
  have hn0:=hn63.1
  have hn1:=hn63.2
  clear hb4 hx4 hn hb3 hx3 hn63
  go_wp2_with fail
  generalize VU:w4.setCell _ _=w5
  have hb5:Below w.heap.size w w5:=by rw [←VU];exact Ke.out.setCell (p:=⟨w.heap.size,2,none⟩) (Nat.le_refl _) _
  have hx5:AV w5 w.heap.size 82 [.int .u8 119,.bool true,.int .u64 (IntKind.u64.wrap n)]:=by rw [←VU];exact j4.out.set 2 _
  clear VU c0 c1 c3 f2 j4 Ke
  refine(TG _ _).mono ?_
  rintro e w6 ⟨rfl,⟨h0,rfl⟩ | ⟨h0,rfl⟩⟩
  case inr=>
   go_wp2_with fail
   refine⟨rfl,.inl ⟨?_,rfl,hb5⟩⟩
   show(CK x3).bind _=none
   rw [HN.out]
   show(MS wW Qd n).map _=none
   have: ¬(-2147483648≤n∧n<2147483648):=fun h=>by rw [(Zn n).2 h] at h0;cases h0
   unfold MS
   rw [if_pos (by decide),if_pos (by decide),if_neg this]
   rfl
  have HG:Hid (Ar 4 m [wW,Qd,x3]=some {m with globs:=m.globs++ [⟨119,true,(n%4294967296).toNat⟩]}):=AA (by
   show(CK x3).bind (fun n=>(MS wW Qd n).map fun g=>({m with globs:=m.globs++ [g]}:AQ))=_
   rw [HN.out,Option.bind_some]
   unfold MS
   rw [if_pos (by decide),if_pos (by decide),if_pos ((Zn n).1 h0)]
   rfl)
  have hr:(n==wrap64 (wrap32 n))=true:=h0
  clear h0
  have c0:=hx5.q 0 rfl
  have c1:=hx5.q 1 rfl
  have c3:=hx5.q 2 rfl
  have f2:=hx5.frozen 2
  have I8:=AA hb5;have mF:=AA hx5
  clear hb5 hx5
  go_wp2_with fail
  generalize hw7:w5.setCell _ _=w7
  have O8:Below w.heap.size w w7:=by rw [←hw7];exact I8.out.setCell (p:=⟨w.heap.size,2,none⟩) (Nat.le_refl _) _
  have hx7:AV w7 w.heap.size 82 [.int .u8 119,.bool true,.int .u64 (((n%4294967296).toNat:Nat):Int)]:=by
   have e:n%4294967296=(((n%4294967296).toNat:Nat):Int):=by omega
   rw [←hw7,←e];exact mF.out.set 2 _
  clear hw7 c0 c1 c3 f2 mF I8
  have HV:Hid ((n%4294967296).toNat<18446744073709551616):=AA (by omega)
  generalize (n%4294967296).toNat=vv at*
  have c0:=hx7.q 0 rfl
  have c1:=hx7.q 1 rfl
  have c3:=hx7.q 2 rfl
  have g1:=(O8.cell (p:=⟨b,2,none⟩) (show b<w.heap.size by omega)).trans hc1
  have R5:=hx7.lt
  have cB:=O8.size
  have FX:Below w7.heap.size w7 (w7.alloc (.cells #[.int .u8 119,.bool true,.int .u64 vv] 82)).drew:=((Below.refl _ _).alloc (Nat.le_refl _) _).drew
  have NC:=AA (O8.trans (FX.mono cB))
  have k1:=(FX.cell (p:=⟨b,2,none⟩) (show b<w7.heap.size by omega)).trans g1
  have kx0:=(FX.cell (p:=⟨w.heap.size,0,none⟩) R5).trans c0
  have kx1:=(FX.cell (p:=⟨w.heap.size,1,none⟩) R5).trans c1
  have kx2:=(FX.cell (p:=⟨w.heap.size,2,none⟩) R5).trans c3
  have XO:=AA (CJ HP.out.own NC.out)
  have Kq:Hid (Row (w7.alloc (.cells #[.int .u8 119,.bool true,.int .u64 vv] 82)).drew (w7.heap.size+1) (some ⟨w7.heap.size,0,none⟩) [.int .u8 119,.bool true,.int .u64 vv]):=AA (Dx w7 [.int .u8 119,.bool true,.int .u64 vv] 82)
  clear FX hx7 O8
  go_wp2_with fail
  go_region_law (refine ES rfl (.tmp 64) (.tmp 66) 24 rfl B 82 i0 _ 3 16 underlying24 hi0 hz hs' hby rfl (by omega) _ m.globs.length Ip rfl XO.out (w7.heap.size+1) _ 1 1 [.int .u8 119,.bool true,.int .u64 vv] rfl rfl Kq.out (by intro u hu;simp at hu;rcases hu with rfl | rfl | rfl<;>rfl) (by unfold maxLen;omega) (by omega) (by simp;omega) ?_;intro A4 c4 w9 h2 h3 h4;have Ia:=HR.out.old NC.out h3 (fun g e=>(HP.out.lt g e).1);have Y1:=Ia.frozen 2;have hc4:=Ia.cell 2;have H2:=AA h2;have H3:=AA h3;have H4:=AA h4;clear h2 h3 h4 Ia)
  all_goals
   go_end0
   refine .inr ⟨_,HG.out,rfl,HR.out.j3 HP.out NC.out (lo:=w.heap.size) (hi:=w.heap.size) (x:=⟨119,true,vv⟩) (Ns.2 ⟨rfl,HV.out⟩) (Nat.le_refl _) (by simp;omega) H2.out H3.out H4.out⟩
theorem VW {x0 x3:ByteArray} (h:XK B b A hi w col v1 v2 v3 v6 v7 v8 m st ln [x0,wW,Kn,x3]):
 Calls prog 91 #[.pointer (some ⟨b,0,none⟩),.slice (some ⟨A,0,none⟩) 4 4] w (K6 (fun W m'=>Ti B b W m' st ln) B b w (Ar 4 m [wW,Kn,x3])):=by
 obtain⟨A2,c2,Ip,e2,hP⟩:=h.rd.six.p3
 subst e2
 obtain⟨i0,hi0,hz,hs',hby⟩:=info_parts QF
 have hc1:=h.rd.blk.q 2 rfl
 have hw1:w.cell? ⟨A,1,none⟩=some (.string ⟨#[119]⟩):=h.wd.at_ 1 _ rfl
 have hw2:w.cell? ⟨A,2,none⟩=some (.string ⟨#[99,111,110,115,116]⟩):=h.wd.at_ 2 _ rfl
 have hw3:w.cell? ⟨A,3,none⟩=some (.string x3):=h.wd.at_ 3 _ rfl
 have hbl:=h.rd.blk.lt
 have Om:=h.wd.lt
 have hhi:=h.hhi
 have hlow:=h.rd.low
 have htop:=h.rd.top
 have hq:=h.lens.globs
 have hb5:Below w.heap.size w (w.alloc (.cells #[.int .u8 0,.bool false,.int .u64 0] 82)).drew:=((Below.refl _ _).alloc (Nat.le_refl _) _).drew
 have k1:=(hb5.cell (p:=⟨A,1,none⟩) Om).trans hw1
 have k2:=(hb5.cell (p:=⟨A,2,none⟩) Om).trans hw2
 have HX:=AA (h.wd.sz x3 (by simp));have HE:=AA h.env;have HR:=AA h.rd;have HP:=AA hP
 clear h hP
 go_enter func91,ntmps91
 go_wp2_with fail
 refine(C_ (some ⟨A,0,none⟩) 4 4 4 w).mono ?_
 rintro e w1 ⟨rfl,I4⟩
 rcases I4 with⟨_,rfl⟩ | ⟨hf,_⟩
 case inr=>exact absurd hf (by decide)
 go_wp2_with fail
 refine(AP _).mono ?_
 rintro e w1 ⟨rfl,rfl⟩
 go_wp2_with fail
 refine(AP _).mono ?_
 rintro e w1 ⟨rfl,rfl⟩
 go_wp2_with fail
 go_region
 all_goals
  clear k1 k2 hb5
  go_wp2_with fail
  generalize hw3:World.drew _=w3
  have hb3:Below w.heap.size w w3:=by rw [←hw3];exact((Below.refl _ _).alloc (Nat.le_refl _) _).drew
  have hx3:AV w3 w.heap.size 82 [.int .u8 119,.bool false,.int .u64 0]:=by rw [←hw3];exact(AV.new w _ [.int .u8 119,.bool false,.int .u64 0]).drewN 1
  clear hw3
  have TI:=hb3.size
  refine(Dq x3 (by have:=HX.out;omega) w3 (HE.out.up hb3 (by omega)) (by omega)).mono ?_
  rintro e w4 ⟨hb4,⟨h0,rfl⟩ | ⟨n,hn,hn63,rfl⟩⟩
  ·go_wp2_with fail
   refine⟨rfl,.inl ⟨?_,rfl,hb3.trans (hb4.mono TI)⟩⟩
   show(CK x3).bind _=none
   rw [h0];rfl
  have hx4:=hx3.below hb4 hx3.lt
  have Ke:=AA (hb3.trans (hb4.mono TI))
  have c0:=hx4.q 0 rfl
  have c1:=hx4.q 1 rfl
  have c3:=hx4.q 2 rfl
  have f2:=hx4.frozen 2
  have j4:=AA hx4;have HN:=AA hn;have H63:=AA hn63
  have hn0:=hn63.1
  have hn1:=hn63.2
  clear hb4 hx4 hn hb3 hx3 hn63
  go_wp2_with fail
  generalize VU:w4.setCell _ _=w5
  have hb5:Below w.heap.size w w5:=by rw [←VU];exact Ke.out.setCell (p:=⟨w.heap.size,2,none⟩) (Nat.le_refl _) _
  have hx5:AV w5 w.heap.size 82 [.int .u8 119,.bool false,.int .u64 (IntKind.u64.wrap n)]:=by rw [←VU];exact j4.out.set 2 _
  clear VU c0 c1 c3 f2 j4 Ke
  refine(TG _ _).mono ?_
  rintro e w6 ⟨rfl,⟨h0,rfl⟩ | ⟨h0,rfl⟩⟩
  case inr=>
   go_wp2_with fail
   refine⟨rfl,.inl ⟨?_,rfl,hb5⟩⟩
   show(CK x3).bind _=none
   rw [HN.out]
   show(MS wW Kn n).map _=none
   have: ¬(-2147483648≤n∧n<2147483648):=fun h=>by rw [(Zn n).2 h] at h0;cases h0
   unfold MS
   rw [if_pos (by decide),if_pos (by decide),if_neg this]
   rfl
  have HG:Hid (Ar 4 m [wW,Kn,x3]=some {m with globs:=m.globs++ [⟨119,false,(n%4294967296).toNat⟩]}):=AA (by
   show(CK x3).bind (fun n=>(MS wW Kn n).map fun g=>({m with globs:=m.globs++ [g]}:AQ))=_
   rw [HN.out,Option.bind_some]
   unfold MS
   rw [if_pos (by decide),if_pos (by decide),if_pos ((Zn n).1 h0)]
   rfl)
  have hr:(n==wrap64 (wrap32 n))=true:=h0
  clear h0
  have c0:=hx5.q 0 rfl
  have c1:=hx5.q 1 rfl
  have c3:=hx5.q 2 rfl
  have f2:=hx5.frozen 2
  have I8:=AA hb5;have mF:=AA hx5
  clear hb5 hx5
  go_wp2_with fail
  generalize hw7:w5.setCell _ _=w7
  have O8:Below w.heap.size w w7:=by rw [←hw7];exact I8.out.setCell (p:=⟨w.heap.size,2,none⟩) (Nat.le_refl _) _
  have hx7:AV w7 w.heap.size 82 [.int .u8 119,.bool false,.int .u64 (((n%4294967296).toNat:Nat):Int)]:=by
   have e:n%4294967296=(((n%4294967296).toNat:Nat):Int):=by omega
   rw [←hw7,←e];exact mF.out.set 2 _
  clear hw7 c0 c1 c3 f2 mF I8
  have HV:Hid ((n%4294967296).toNat<18446744073709551616):=AA (by omega)
  generalize (n%4294967296).toNat=vv at*
  have c0:=hx7.q 0 rfl
  have c1:=hx7.q 1 rfl
  have c3:=hx7.q 2 rfl
  have g1:=(O8.cell (p:=⟨b,2,none⟩) (show b<w.heap.size by omega)).trans hc1
  have R5:=hx7.lt
  have cB:=O8.size
  have FX:Below w7.heap.size w7 (w7.alloc (.cells #[.int .u8 119,.bool false,.int .u64 vv] 82)).drew:=((Below.refl _ _).alloc (Nat.le_refl _) _).drew
  have NC:=AA (O8.trans (FX.mono cB))
  have k1:=(FX.cell (p:=⟨b,2,none⟩) (show b<w7.heap.size by omega)).trans g1
  have kx0:=(FX.cell (p:=⟨w.heap.size,0,none⟩) R5).trans c0
  have kx1:=(FX.cell (p:=⟨w.heap.size,1,none⟩) R5).trans c1
  have kx2:=(FX.cell (p:=⟨w.heap.size,2,none⟩) R5).trans c3
  have XO:=AA (CJ HP.out.own NC.out)
  have Kq:Hid (Row (w7.alloc (.cells #[.int .u8 119,.bool false,.int .u64 vv] 82)).drew (w7.heap.size+1) (some ⟨w7.heap.size,0,none⟩) [.int .u8 119,.bool false,.int .u64 vv]):=AA (Dx w7 [.int .u8 119,.bool false,.int .u64 vv] 82)
  clear FX hx7 O8
  go_wp2_with fail
  go_region_law (refine ES rfl (.tmp 64) (.tmp 66) 24 rfl B 82 i0 _ 3 16 underlying24 hi0 hz hs' hby rfl (by omega) _ m.globs.length Ip rfl XO.out (w7.heap.size+1) _ 1 1 [.int .u8 119,.bool false,.int .u64 vv] rfl rfl Kq.out (by intro u hu;simp at hu;rcases hu with rfl | rfl | rfl<;>rfl) (by unfold maxLen;omega) (by omega) (by simp;omega) ?_;intro A4 c4 w9 h2 h3 h4;have Ia:=HR.out.old NC.out h3 (fun g e=>(HP.out.lt g e).1);have Y1:=Ia.frozen 2;have hc4:=Ia.cell 2;have H2:=AA h2;have H3:=AA h3;have H4:=AA h4;clear h2 h3 h4 Ia)
  all_goals
   go_end0
   refine .inr ⟨_,HG.out,rfl,HR.out.j3 HP.out NC.out (lo:=w.heap.size) (hi:=w.heap.size) (x:=⟨119,false,vv⟩) (Ns.2 ⟨rfl,HV.out⟩) (Nat.le_refl _) (by simp;omega) H2.out H3.out H4.out⟩
theorem XP {x0 x3:ByteArray} (h:XK B b A hi w col v1 v2 v3 v6 v7 v8 m st ln [x0,lW,Qd,x3]):
 Calls prog 91 #[.pointer (some ⟨b,0,none⟩),.slice (some ⟨A,0,none⟩) 4 4] w (K6 (fun W m'=>Ti B b W m' st ln) B b w (Ar 4 m [lW,Qd,x3])):=by
 obtain⟨A2,c2,Ip,e2,hP⟩:=h.rd.six.p3
 subst e2
 obtain⟨i0,hi0,hz,hs',hby⟩:=info_parts QF
 have hc1:=h.rd.blk.q 2 rfl
 have hw1:w.cell? ⟨A,1,none⟩=some (.string ⟨#[108]⟩):=h.wd.at_ 1 _ rfl
 have hw2:w.cell? ⟨A,2,none⟩=some (.string ⟨#[118,97,114]⟩):=h.wd.at_ 2 _ rfl
 have hw3:w.cell? ⟨A,3,none⟩=some (.string x3):=h.wd.at_ 3 _ rfl
 have hbl:=h.rd.blk.lt
 have Om:=h.wd.lt
 have hhi:=h.hhi
 have hlow:=h.rd.low
 have htop:=h.rd.top
 have hq:=h.lens.globs
 have hb5:Below w.heap.size w (w.alloc (.cells #[.int .u8 0,.bool false,.int .u64 0] 82)).drew:=((Below.refl _ _).alloc (Nat.le_refl _) _).drew
 have k1:=(hb5.cell (p:=⟨A,1,none⟩) Om).trans hw1
 have k2:=(hb5.cell (p:=⟨A,2,none⟩) Om).trans hw2
 have HX:=AA (h.wd.sz x3 (by simp));have HE:=AA h.env;have HR:=AA h.rd;have HP:=AA hP
 clear h hP
 go_enter func91,ntmps91
 go_wp2_with fail
 refine(C_ (some ⟨A,0,none⟩) 4 4 4 w).mono ?_
 rintro e w1 ⟨rfl,I4⟩
 rcases I4 with⟨_,rfl⟩ | ⟨hf,_⟩
 case inr=>exact absurd hf (by decide)
 go_wp2_with fail
 refine(AP _).mono ?_
 rintro e w1 ⟨rfl,rfl⟩
 go_wp2_with fail
 refine(AP _).mono ?_
 rintro e w1 ⟨rfl,rfl⟩
 go_wp2_with fail
 go_region
 all_goals
  clear k1 k2 hb5
  go_wp2_with fail
  generalize hw3:World.drew _=w3
  have hb3:Below w.heap.size w w3:=by rw [←hw3];exact((Below.refl _ _).alloc (Nat.le_refl _) _).drew
  have hx3:AV w3 w.heap.size 82 [.int .u8 108,.bool true,.int .u64 0]:=by rw [←hw3];exact(AV.new w _ [.int .u8 108,.bool true,.int .u64 0]).drewN 1
  clear hw3
  have TI:=hb3.size
  refine(Dq x3 (by have:=HX.out;omega) w3 (HE.out.up hb3 (by omega)) (by omega)).mono ?_
  rintro e w4 ⟨hb4,⟨h0,rfl⟩ | ⟨n,hn,hn63,rfl⟩⟩
  ·go_wp2_with fail
   refine⟨rfl,.inl ⟨?_,rfl,hb3.trans (hb4.mono TI)⟩⟩
   show(CK x3).bind _=none
   rw [h0];rfl
  have hx4:=hx3.below hb4 hx3.lt
  have Ke:=AA (hb3.trans (hb4.mono TI))
  have c0:=hx4.q 0 rfl
  have c1:=hx4.q 1 rfl
  have c3:=hx4.q 2 rfl
  have f2:=hx4.frozen 2
  have j4:=AA hx4;have HN:=AA hn;have H63:=AA hn63
  have hn0:=hn63.1
  have hn1:=hn63.2
  clear hb4 hx4 hn hb3 hx3 hn63
  go_wp2_with fail
  generalize hw7:w4.setCell _ _=w7
  have O8:Below w.heap.size w w7:=by rw [←hw7];exact Ke.out.setCell (p:=⟨w.heap.size,2,none⟩) (Nat.le_refl _) _
  have hx7:AV w7 w.heap.size 82 [.int .u8 108,.bool true,.int .u64 (((n%18446744073709551616).toNat:Nat):Int)]:=by rw [←hw7,←su];exact j4.out.set 2 _
  clear hw7 c0 c1 c3 f2 j4 Ke
  have HG:Hid (Ar 4 m [lW,Qd,x3]=some {m with globs:=m.globs++ [⟨108,true,(n%18446744073709551616).toNat⟩]}):=AA (by
   show(CK x3).bind (fun n=>(MS lW Qd n).map fun g=>({m with globs:=m.globs++ [g]}:AQ))=_
   rw [HN.out,Option.bind_some]
   unfold MS
   rw [if_pos (by decide),if_neg (by decide)]
   rfl)
  have HV:Hid ((n%18446744073709551616).toNat<18446744073709551616):=AA (by omega)
  generalize (n%18446744073709551616).toNat=vv at*
  have c0:=hx7.q 0 rfl
  have c1:=hx7.q 1 rfl
  have c3:=hx7.q 2 rfl
  have g1:=(O8.cell (p:=⟨b,2,none⟩) (show b<w.heap.size by omega)).trans hc1
  have R5:=hx7.lt
  have cB:=O8.size
  have FX:Below w7.heap.size w7 (w7.alloc (.cells #[.int .u8 108,.bool true,.int .u64 vv] 82)).drew:=((Below.refl _ _).alloc (Nat.le_refl _) _).drew
  have NC:=AA (O8.trans (FX.mono cB))
  have k1:=(FX.cell (p:=⟨b,2,none⟩) (show b<w7.heap.size by omega)).trans g1
  have kx0:=(FX.cell (p:=⟨w.heap.size,0,none⟩) R5).trans c0
  have kx1:=(FX.cell (p:=⟨w.heap.size,1,none⟩) R5).trans c1
  have kx2:=(FX.cell (p:=⟨w.heap.size,2,none⟩) R5).trans c3
  have XO:=AA (CJ HP.out.own NC.out)
  have Kq:Hid (Row (w7.alloc (.cells #[.int .u8 108,.bool true,.int .u64 vv] 82)).drew (w7.heap.size+1) (some ⟨w7.heap.size,0,none⟩) [.int .u8 108,.bool true,.int .u64 vv]):=AA (Dx w7 [.int .u8 108,.bool true,.int .u64 vv] 82)
  clear FX hx7 O8
  go_wp2_with fail
  go_region_law (refine ES rfl (.tmp 64) (.tmp 66) 24 rfl B 82 i0 _ 3 16 underlying24 hi0 hz hs' hby rfl (by omega) _ m.globs.length Ip rfl XO.out (w7.heap.size+1) _ 1 1 [.int .u8 108,.bool true,.int .u64 vv] rfl rfl Kq.out (by intro u hu;simp at hu;rcases hu with rfl | rfl | rfl<;>rfl) (by unfold maxLen;omega) (by omega) (by simp;omega) ?_;intro A4 c4 w9 h2 h3 h4;have Ia:=HR.out.old NC.out h3 (fun g e=>(HP.out.lt g e).1);have Y1:=Ia.frozen 2;have hc4:=Ia.cell 2;have H2:=AA h2;have H3:=AA h3;have H4:=AA h4;clear h2 h3 h4 Ia)
  all_goals
   go_end0
   refine .inr ⟨_,HG.out,rfl,HR.out.j3 HP.out NC.out (lo:=w.heap.size) (hi:=w.heap.size) (x:=⟨108,true,vv⟩) (Ns.2 ⟨rfl,HV.out⟩) (Nat.le_refl _) (by simp;omega) H2.out H3.out H4.out⟩
theorem VX {x0 x3:ByteArray} (h:XK B b A hi w col v1 v2 v3 v6 v7 v8 m st ln [x0,lW,Kn,x3]):
 Calls prog 91 #[.pointer (some ⟨b,0,none⟩),.slice (some ⟨A,0,none⟩) 4 4] w (K6 (fun W m'=>Ti B b W m' st ln) B b w (Ar 4 m [lW,Kn,x3])):=by
 obtain⟨A2,c2,Ip,e2,hP⟩:=h.rd.six.p3
 subst e2
 obtain⟨i0,hi0,hz,hs',hby⟩:=info_parts QF
 have hc1:=h.rd.blk.q 2 rfl
 have hw1:w.cell? ⟨A,1,none⟩=some (.string ⟨#[108]⟩):=h.wd.at_ 1 _ rfl
 have hw2:w.cell? ⟨A,2,none⟩=some (.string ⟨#[99,111,110,115,116]⟩):=h.wd.at_ 2 _ rfl
 have hw3:w.cell? ⟨A,3,none⟩=some (.string x3):=h.wd.at_ 3 _ rfl
 have hbl:=h.rd.blk.lt
 have Om:=h.wd.lt
 have hhi:=h.hhi
 have hlow:=h.rd.low
 have htop:=h.rd.top
 have hq:=h.lens.globs
 have hb5:Below w.heap.size w (w.alloc (.cells #[.int .u8 0,.bool false,.int .u64 0] 82)).drew:=((Below.refl _ _).alloc (Nat.le_refl _) _).drew
 have k1:=(hb5.cell (p:=⟨A,1,none⟩) Om).trans hw1
 have k2:=(hb5.cell (p:=⟨A,2,none⟩) Om).trans hw2
 have HX:=AA (h.wd.sz x3 (by simp));have HE:=AA h.env;have HR:=AA h.rd;have HP:=AA hP
 clear h hP
 go_enter func91,ntmps91
 go_wp2_with fail
 refine(C_ (some ⟨A,0,none⟩) 4 4 4 w).mono ?_
 rintro e w1 ⟨rfl,I4⟩
 rcases I4 with⟨_,rfl⟩ | ⟨hf,_⟩
 case inr=>exact absurd hf (by decide)
 go_wp2_with fail
 refine(AP _).mono ?_
 rintro e w1 ⟨rfl,rfl⟩
 go_wp2_with fail
 refine(AP _).mono ?_
 rintro e w1 ⟨rfl,rfl⟩
 go_wp2_with fail
 go_region
 all_goals
  clear k1 k2 hb5
  go_wp2_with fail
  generalize hw3:World.drew _=w3
  have hb3:Below w.heap.size w w3:=by rw [←hw3];exact((Below.refl _ _).alloc (Nat.le_refl _) _).drew
  have hx3:AV w3 w.heap.size 82 [.int .u8 108,.bool false,.int .u64 0]:=by rw [←hw3];exact(AV.new w _ [.int .u8 108,.bool false,.int .u64 0]).drewN 1
  clear hw3
  have TI:=hb3.size
  refine(Dq x3 (by have:=HX.out;omega) w3 (HE.out.up hb3 (by omega)) (by omega)).mono ?_
  rintro e w4 ⟨hb4,⟨h0,rfl⟩ | ⟨n,hn,hn63,rfl⟩⟩
  ·go_wp2_with fail
   refine⟨rfl,.inl ⟨?_,rfl,hb3.trans (hb4.mono TI)⟩⟩
   show(CK x3).bind _=none
   rw [h0];rfl
  have hx4:=hx3.below hb4 hx3.lt
  have Ke:=AA (hb3.trans (hb4.mono TI))
  have c0:=hx4.q 0 rfl
  have c1:=hx4.q 1 rfl
  have c3:=hx4.q 2 rfl
  have f2:=hx4.frozen 2
  have j4:=AA hx4;have HN:=AA hn;have H63:=AA hn63
  have hn0:=hn63.1
  have hn1:=hn63.2
  clear hb4 hx4 hn hb3 hx3 hn63
  go_wp2_with fail
  generalize hw7:w4.setCell _ _=w7
  have O8:Below w.heap.size w w7:=by rw [←hw7];exact Ke.out.setCell (p:=⟨w.heap.size,2,none⟩) (Nat.le_refl _) _
  have hx7:AV w7 w.heap.size 82 [.int .u8 108,.bool false,.int .u64 (((n%18446744073709551616).toNat:Nat):Int)]:=by rw [←hw7,←su];exact j4.out.set 2 _
  clear hw7 c0 c1 c3 f2 j4 Ke
  have HG:Hid (Ar 4 m [lW,Kn,x3]=some {m with globs:=m.globs++ [⟨108,false,(n%18446744073709551616).toNat⟩]}):=AA (by
   show(CK x3).bind (fun n=>(MS lW Kn n).map fun g=>({m with globs:=m.globs++ [g]}:AQ))=_
   rw [HN.out,Option.bind_some]
   unfold MS
   rw [if_pos (by decide),if_neg (by decide)]
   rfl)
  have HV:Hid ((n%18446744073709551616).toNat<18446744073709551616):=AA (by omega)
  generalize (n%18446744073709551616).toNat=vv at*
  have c0:=hx7.q 0 rfl
  have c1:=hx7.q 1 rfl
  have c3:=hx7.q 2 rfl
  have g1:=(O8.cell (p:=⟨b,2,none⟩) (show b<w.heap.size by omega)).trans hc1
  have R5:=hx7.lt
  have cB:=O8.size
  have FX:Below w7.heap.size w7 (w7.alloc (.cells #[.int .u8 108,.bool false,.int .u64 vv] 82)).drew:=((Below.refl _ _).alloc (Nat.le_refl _) _).drew
  have NC:=AA (O8.trans (FX.mono cB))
  have k1:=(FX.cell (p:=⟨b,2,none⟩) (show b<w7.heap.size by omega)).trans g1
  have kx0:=(FX.cell (p:=⟨w.heap.size,0,none⟩) R5).trans c0
  have kx1:=(FX.cell (p:=⟨w.heap.size,1,none⟩) R5).trans c1
  have kx2:=(FX.cell (p:=⟨w.heap.size,2,none⟩) R5).trans c3
  have XO:=AA (CJ HP.out.own NC.out)
  have Kq:Hid (Row (w7.alloc (.cells #[.int .u8 108,.bool false,.int .u64 vv] 82)).drew (w7.heap.size+1) (some ⟨w7.heap.size,0,none⟩) [.int .u8 108,.bool false,.int .u64 vv]):=AA (Dx w7 [.int .u8 108,.bool false,.int .u64 vv] 82)
  clear FX hx7 O8
  go_wp2_with fail
  go_region_law (refine ES rfl (.tmp 64) (.tmp 66) 24 rfl B 82 i0 _ 3 16 underlying24 hi0 hz hs' hby rfl (by omega) _ m.globs.length Ip rfl XO.out (w7.heap.size+1) _ 1 1 [.int .u8 108,.bool false,.int .u64 vv] rfl rfl Kq.out (by intro u hu;simp at hu;rcases hu with rfl | rfl | rfl<;>rfl) (by unfold maxLen;omega) (by omega) (by simp;omega) ?_;intro A4 c4 w9 h2 h3 h4;have Ia:=HR.out.old NC.out h3 (fun g e=>(HP.out.lt g e).1);have Y1:=Ia.frozen 2;have hc4:=Ia.cell 2;have H2:=AA h2;have H3:=AA h3;have H4:=AA h4;clear h2 h3 h4 Ia)
  all_goals
   go_end0
   refine .inr ⟨_,HG.out,rfl,HR.out.j3 HP.out NC.out (lo:=w.heap.size) (hi:=w.heap.size) (x:=⟨108,false,vv⟩) (Ns.2 ⟨rfl,HV.out⟩) (Nat.le_refl _) (by simp;omega) H2.out H3.out H4.out⟩
theorem cK {x0 x1 x2 x3:ByteArray} (h:XK B b A hi w col v1 v2 v3 v6 v7 v8 m st ln [x0,x1,x2,x3]) (hb: ¬((x1=wW∨x1=lW)∧(x2=Qd∨x2=Kn))) (Inv:World→AQ→Prop):
 Calls prog 91 #[.pointer (some ⟨b,0,none⟩),.slice (some ⟨A,0,none⟩) 4 4] w (K6 Inv B b w (Ar 4 m [x1,x2,x3])):=by
 have HG:Hid (Ar 4 m [x1,x2,x3]=none):=AA (by
  show(CK x3).bind _=none
  cases CK x3 with
  | none=>rfl
  | some n=>
   show(MS x1 x2 n).map _=none
   unfold MS
   rw [if_neg hb]
   rfl)
 have hw1:w.cell? ⟨A,1,none⟩=some (.string x1):=h.wd.at_ 1 _ rfl
 have hw2:w.cell? ⟨A,2,none⟩=some (.string x2):=h.wd.at_ 2 _ rfl
 have hs: ∀(x:ByteArray) (l:List UInt8),x≠⟨l.toArray⟩→(x.toList==l)=false:=fun x l hn=>by
  rw [beq_eq_false_iff_ne,ByteArray.toList_eq]
  intro e
  apply hn
  cases x
  simp at e
  subst e
  simp
 clear h
 go_enter func91,ntmps91
 go_wp2_with fail
 refine(C_ (some ⟨A,0,none⟩) 4 4 4 w).mono ?_
 rintro e w1 ⟨rfl,I4⟩
 rcases I4 with⟨_,rfl⟩ | ⟨hf,_⟩
 case inr=>exact absurd hf (by decide)
 by_cases h1:x1=wW∨x1=lW
 case neg=>
  have e1:(x1.toList== [119])=false:=hs x1 [119] (fun e=>h1 (.inl e))
  have e2:(x1.toList== [108])=false:=hs x1 [108] (fun e=>h1 (.inr e))
  clear hb hs h1
  go_wp2_with fail
  refine(AZ _).mono ?_
  rintro e w1 ⟨rfl,rfl⟩
  go_wp2_with fail
  exact⟨rfl,.inl ⟨HG.out,rfl,Below.refl _ _⟩⟩
 have e3:(x2.toList== [118,97,114])=false:=hs x2 [118,97,114] (fun e=>hb ⟨h1,.inl e⟩)
 have e4:(x2.toList== [99,111,110,115,116])=false:=hs x2 [99,111,110,115,116] (fun e=>hb ⟨h1,.inr e⟩)
 have hx1: ∃l,(l=119∨l=108)∧x1=⟨#[l]⟩:=h1.elim (fun e=>⟨119,.inl rfl,e⟩) (fun e=>⟨108,.inr rfl,e⟩)
 clear hb hs h1
 obtain⟨l,rfl | rfl,rfl⟩:=hx1
 all_goals
  go_wp2_with fail
  refine(AP _).mono ?_
  rintro e w1 ⟨rfl,rfl⟩
  go_wp2_with fail
  refine(AZ _).mono ?_
  rintro e w1 ⟨rfl,rfl⟩
  go_wp2_with fail
  exact⟨rfl,.inl ⟨HG.out,rfl,Below.refl _ _⟩⟩
theorem YQ (h0:ws≠ []) (hk:ws.length≠4) (Inv:World→AQ→Prop):
 Calls prog 91 #[.pointer (some ⟨b,0,none⟩),.slice (some ⟨A,0,none⟩) ws.length ws.length] w (K6 Inv B b w (Ar 4 m ws.tail)):=by
 have HN:=AA (Mg (m:=m) (p:=4) (k:=4) (by decide) h0 hk)
 have HK:Hid (decide (ws.length=4)=false):=AA (decide_eq_false hk)
 clear h0 hk
 go_enter func91,ntmps91
 go_wp2_with fail
 refine(C_ (some ⟨A,0,none⟩) ws.length ws.length 4 w).mono ?_
 rintro e w1 ⟨rfl,⟨h1,rfl⟩ | ⟨h1,rfl⟩⟩
 ·rw [HK.out] at h1;cases h1
 go_wp2_with fail
 exact⟨rfl,.inl ⟨HN.out,rfl,Below.refl _ _⟩⟩
theorem mG (h:XK B b A hi w col v1 v2 v3 v6 v7 v8 m st ln ws) (h0:ws≠ []):
 Calls prog 91 #[.pointer (some ⟨b,0,none⟩),.slice (some ⟨A,0,none⟩) ws.length ws.length] w (K6 (fun W m'=>Ti B b W m' st ln) B b w (Ar 4 m ws.tail)):=by
 by_cases hk:ws.length=4
 case neg=>exact YQ h0 hk _
 obtain⟨x0,x1,x2,x3,rfl⟩:=len4 hk
 by_cases hb:(x1=wW∨x1=lW)∧(x2=Qd∨x2=Kn)
 case neg=>exact cK h hb _
 obtain⟨rfl | rfl,rfl | rfl⟩:=hb
 ·exact XM h
 ·exact VW h
 ·exact XP h
 ·exact VX h
end
theorem sw:(prog.info? 56).map (fun i=>(i.zero,i.size,i.bytes))=some (some (.agg #[.int .i64 0,.string ⟨#[]⟩,.slice none 0 0]),3,48):=by kernel_rfl
section
variable {B b A hi:Nat} {w:World} {col:Nat→Nat} {v1 v2 v3 v6 v7 v8:Value} {m:AQ} {st ln:Nat} {ws:List ByteArray}
theorem QZ.AD3 {A:Option Addr} {c:Nat} {cells:List Value} {w3 w4:World} (h:QZ B b w col v1 v2 v3 (.slice A m.fns.length c) v7 v8 m 6 ln) (hP:Nn Tf 56 B (fun k=>col k=6) w A m.fns.length c cells m.fns)
 (hb:Below w.heap.size w w3) {A':Option Addr} {c':Nat} {f:FL} (hc:f.code= []) (ht:Rd.Ej f.t) (hl:Rd.U6 f.loc)
 (ho:w4.ownsRow B 56 3 (.slice A' (m.fns.length+1) c') (m.fns.length+1) (cells++ [.int .i64 f.t,.string f.loc,.slice none 0 0])) (hg:w3.grownBy w4 (Value.slice A m.fns.length c).ownBlock)
 (hat:(Value.slice A' (m.fns.length+1) c').ownBlock=(Value.slice A m.fns.length c).ownBlock∨(Value.slice A' (m.fns.length+1) c').ownBlock=some w3.heap.size):
 Keep (fun k=>k<B∧k≠b) w (w4.setCell ⟨b,5,none⟩ (.slice A' (m.fns.length+1) c'))∧Ko B b (w4.setCell ⟨b,5,none⟩ (.slice A' (m.fns.length+1) c')) {m with fns:=m.fns++ [f]} ln:=by
 have hK:=Mf (b:=b) hb hg 5 (.slice A' (m.fns.length+1) c')
 have hB:=h.top
 have hown:=hP.lt
 have hlow:=h.low
 have hlt5: ∀k,k<w.heap.size→k<(w4.setCell ⟨b,5,none⟩ (.slice A' (m.fns.length+1) c')).heap.size:=fun k hk=>Nat.lt_of_lt_of_le hk hK.size
 refine⟨hK.mono fun k hk=>⟨hk.2,fun e=>by have:=(hown k e).1;omega⟩,?_⟩
 have hbl:AV w4 b 104 [v1,v2,v3,.int .i64 m.first,.int .i64 m.most,.slice A m.fns.length c,v7,v8,.int .i64 (6:Nat),.int .i64 ln]:=(hg.block b (Nat.lt_of_lt_of_le h.blk.lt hb.size) (fun e=>by have:=(hown b e.symm).1;omega)).trans (h.blk.below hb h.blk.lt)
 have tC:w3.heap.size≤w4.heap.size:=hg.size
 have hsz5:(w4.setCell ⟨b,5,none⟩ (.slice A' (m.fns.length+1) c')).heap.size=w4.heap.size:=by unfold World.setCell;first | rfl | simp | (split<;>first | rfl | simp)
 have hlo: ∀g,(Value.slice A' (m.fns.length+1) c').ownBlock=some g→g<w4.heap.size:=fun g e=>(ho.lt g e).2
 have hcol: ∀k,k<w.heap.size→(fun k=>if k<w.heap.size then col k else if k<w4.heap.size then 6 else 9) k=col k:=fun k hk=>if_pos hk
 refine⟨m.fns,f,w4.heap.size,fun k=>if k<w.heap.size then col k else if k<w4.heap.size then 6 else 9,v1,v2,v3,v7,v8,A',c',cells,.slice none 0 0,⟨hbl.set 5 _,?_,⟨?_,?_,?_,ht,hl,?_,Nat.le_trans hB (Nat.le_trans hb.size tC),by rw [hsz5];exact Nat.le_refl _,?_⟩,rfl,hlow,Nat.le_trans hB hK.size,h.first,h.most⟩⟩
 ·have h5:Five B col w v1 v2 v3 v7 v8 m:=⟨h.six.p1,h.six.p2,h.six.p3,h.six.p7,h.six.p8⟩
  exact h5.keep hK (fun k hBk hk hc=>⟨by omega,fun e=>by have:col k=6:=hP.at_ k e;omega⟩) _ (fun k hk hc=>if_pos hk) rfl rfl rfl rfl rfl
 ·have h1:(Keep.refl (fun k=>k≠b) w4).setCell (p:=⟨b,5,none⟩) (fun e=>e rfl) (.slice A' (m.fns.length+1) c')=(Keep.refl (fun k=>k≠b) w4).setCell (p:=⟨b,5,none⟩) (fun e=>e rfl) (.slice A' (m.fns.length+1) c'):=rfl
  exact Me (K:=fun k=>k≠b) ho ((Keep.refl _ w4).setCell (p:=⟨b,5,none⟩) (fun e=>e rfl) _) (fun k hk=>by have:=(ho.lt k hk).1;omega)
 ·intro g hg'
  refine⟨?_,hlo g hg'⟩
  by_cases hk:g<w.heap.size
  ·rw [if_pos hk]
   rcases hat with e | e
   ·exact hP.at_ g (e▸hg')
   ·rw [e] at hg';injection hg' with hg';have:=hb.size;omega
  ·rw [if_neg hk,if_pos (hlo g hg')]
 ·intro k x hk
  obtain⟨l,hh,g1,g2,g3,g4,g5⟩:=hP.els k x hk
  refine⟨l,hh,g1,Nat.le_trans g2 (Nat.le_trans hb.size tC),fun g hg'=> ?_,fun g ha hb'=> ?_,?_⟩
  ·rcases hat with e | e
   ·exact g3 g (e▸hg')
   ·rw [e] at hg';injection hg' with hg';have:=hb.size;right;omega
  ·rw [if_pos (by omega)];exact g4 g ha hb'
  ·refine Rd.Iz (K:=fun k=>k≠b∧(Value.slice A m.fns.length c).ownBlock≠some k) g5 hK g2 (fun k ha hb'=>⟨by omega,fun e=> ?_⟩)
   have:=g3 k e
   omega
 ·rw [hc];exact PD.nil _ _ _ _ _
 ·intro k hk hk2
  have:=hb.size
  rw [if_neg (by omega),if_neg (by omega)]
theorem YR {x0 x1 x2:ByteArray} (h:XK B b A hi w col v1 v2 v3 v6 v7 v8 m 6 ln [x0,x1,x2]):
 Calls prog 93 #[.pointer (some ⟨b,0,none⟩),.slice (some ⟨A,0,none⟩) 3 3] w (K6 (fun W m'=>Ko B b W m' ln) B b w (Ar 6 m [x1,x2])):=by
 obtain⟨A2,c2,Ip,e2,hP⟩:=h.rd.six.p6
 subst e2
 obtain⟨i0,hi0,hz,hs',hby⟩:=info_parts sw
 have hc1:=h.rd.blk.q 5 rfl
 have hw1:w.cell? ⟨A,1,none⟩=some (.string x1):=h.wd.at_ 1 _ rfl
 have hw2:w.cell? ⟨A,2,none⟩=some (.string x2):=h.wd.at_ 2 _ rfl
 have Om:=h.wd.lt
 have hbl:=h.rd.blk.lt
 have hhi:=h.hhi
 have hq:=h.lens.fns
 have Uk:=AA (h.wd.sz x1 (by simp));have RG:=AA (h.wd.sz x2 (by simp));have HE:=AA h.env;have HR:=AA h.rd;have HP:=AA hP
 have hlow:=h.rd.low
 have htop:=h.rd.top
 have HNO:Hid (CK x1=none→Ar 6 m [x1,x2]=none):=AA fun h=>by show(CK x1).map _=none;rw [h];rfl
 have mH:Hid (∀a,CK x1=some a→Ar 6 m [x1,x2]=some {m with fns:=m.fns++ [⟨a,Ua x2,[]⟩]}):=AA fun a h1=>by show(CK x1).map _=_;rw [h1];rfl
 have HZ:=AA (AV.new w.drew 56 [.int .i64 0,.string ⟨#[]⟩,.slice none 0 0])
 clear h hP
 go_enter func93,ntmps93
 go_wp2_with fail
 refine(C_ (some ⟨A,0,none⟩) 3 3 3 w).mono ?_
 rintro e w1 ⟨rfl,I4⟩
 rcases I4 with⟨_,rfl⟩ | ⟨hf,_⟩
 case inr=>exact absurd hf (by decide)
 go_wp2_with fail
 refine wp_region_held_drew (S:=fun W=>W.cell? ⟨A,1,none⟩=some (.string x1)∧W.cell? ⟨A,2,none⟩=some (.string x2)) (by kernel_rfl) ⟨hw1,hw2⟩ (fun hHeld=> ?_)
 refine AB (i:=0) (v:= ?_) rfl (by kernel_rfl) (fun _ _ _ h=>h) (by intro w hSw;(try dsimp only at hSw);go_simp;try with_reducible rfl) hHeld ?_
 refine AB (i:=1) (v:= ?_) rfl (by kernel_rfl) (fun _ _ _ h=>h) (by intro w hSw;(try dsimp only at hSw);go_simp;try with_reducible rfl) hHeld ?_
 refine AB (i:=2) (v:= ?_) rfl (by kernel_rfl) (fun _ _ _ h=>h) (by intro w hSw;(try dsimp only at hSw);go_simp;try with_reducible rfl) hHeld ?_
 refine AB (i:=4) (v:= ?_) rfl (by kernel_rfl) (fun _ _ _ h=>h) (by intro w hSw;(try dsimp only at hSw);go_simp;try with_reducible rfl) hHeld ?_
 refine AB (i:=5) (v:= ?_) rfl (by kernel_rfl) (fun _ _ _ h=>h) (by intro w hSw;(try dsimp only at hSw);go_simp;try with_reducible rfl) hHeld ?_
 refine AB (i:=6) (v:= ?_) rfl (by kernel_rfl) (fun _ _ _ h=>h) (by intro w hSw;(try dsimp only at hSw);go_simp;try with_reducible rfl) hHeld ?_
 refine wpAnyH_ready (rs:= [3,8]) (by kernel_rfl) (by simp) ?_
 refine AllReadyH.cons rfl (fun K hK=> ?ga) (AllReadyH.cons rfl (fun K hK=> ?gb) AllReadyH.nil)
 case' ga=>
  go_simp
  go_at_call 142
  refine(Dq x1 (by have:=Uk.out;omega) _ (HE.out.up (below_drewN (Below.refl _ _) 1) (by omega)) (by simp;omega)).mono ?_
  rintro e w2 ⟨hb2,⟨h0,rfl⟩ | ⟨n,hn,hm,rfl⟩⟩
  ·go_wp2_with fail
   exact⟨rfl,.inl ⟨HNO.out h0,rfl,Af hb2⟩⟩
  have hS2:=Af hb2
  refine hK.out _ _ ⟨(hS2.cell (p:=⟨A,1,none⟩) Om).trans hw1,(hS2.cell (p:=⟨A,2,none⟩) Om).trans hw2⟩ (fun AX=> ?_)
  clear hK K
  refine AB (i:=7) (v:= ?_) rfl (by kernel_rfl) (fun _ _ _ h=>h) (by intro w hSw;(try dsimp only at hSw);go_simp;try with_reducible rfl) AX ?_
  refine wpAnyH_ready (rs:= [8]) (by kernel_rfl) (by simp) ?_
  refine AllReadyH.cons rfl (fun K hK=> ?_) AllReadyH.nil
  go_simp
  have hAz:(w2.alloc (.cells #[.int .i64 0,.string ⟨#[]⟩,.slice none 0 0] 56)).cell? ⟨A,1,none⟩=some (.string x1)∧(w2.alloc (.cells #[.int .i64 0,.string ⟨#[]⟩,.slice none 0 0] 56)).cell? ⟨A,2,none⟩=some (.string x2):=by
   have hb:=(Below.refl w2.heap.size w2).alloc (Nat.le_refl _) (.cells #[.int .i64 0,.string ⟨#[]⟩,.slice none 0 0] 56)
   have hA2:=Nat.lt_of_lt_of_le Om hS2.size
   exact⟨(hb.cell (p:=⟨A,1,none⟩) hA2).trans ((hS2.cell (p:=⟨A,1,none⟩) Om).trans hw1),(hb.cell (p:=⟨A,2,none⟩) hA2).trans ((hS2.cell (p:=⟨A,2,none⟩) Om).trans hw2)⟩
  refine hK.out _ _ hAz (fun LQ=> ?_)
  clear hK K
  have hbx:=AV.new w2 56 [.int .i64 0,.string ⟨#[]⟩,.slice none 0 0]
  have hB3:Below w.heap.size w (w2.alloc (.cells #[.int .i64 0,.string ⟨#[]⟩,.slice none 0 0] 56)):=hS2.alloc hS2.size _
  have hgl:w.heap.size≤w2.heap.size:=hS2.size
  obtain⟨g,hgg⟩: ∃g,g=w2.heap.size:=⟨_,rfl⟩
  rw [←hgg] at hbx hgl⊢
  generalize hw3:w2.alloc (.cells #[.int .i64 0,.string ⟨#[]⟩,.slice none 0 0] 56)=w3 at*
  clear hS2 hgg hw3 hb2 hHeld AX hAz
 case' gb=>
  go_simp
  have hAz:(w.drew.alloc (.cells #[.int .i64 0,.string ⟨#[]⟩,.slice none 0 0] 56)).cell? ⟨A,1,none⟩=some (.string x1)∧(w.drew.alloc (.cells #[.int .i64 0,.string ⟨#[]⟩,.slice none 0 0] 56)).cell? ⟨A,2,none⟩=some (.string x2):=by
   have hb:=(Below.refl w.drew.heap.size w.drew).alloc (Nat.le_refl _) (.cells #[.int .i64 0,.string ⟨#[]⟩,.slice none 0 0] 56)
   exact⟨(hb.cell (p:=⟨A,1,none⟩) Om).trans hw1,(hb.cell (p:=⟨A,2,none⟩) Om).trans hw2⟩
  have hBz:Below w.heap.size w (w.drew.alloc (.cells #[.int .i64 0,.string ⟨#[]⟩,.slice none 0 0] 56)):=((Below.refl _ _).drew).alloc (Nat.le_refl _) _
  refine hK.out _ _ hAz (fun AX=> ?_)
  clear hK K
  refine wpAnyH_ready (rs:= [3]) (by kernel_rfl) (by simp) ?_
  refine AllReadyH.cons rfl (fun K hK=> ?_) AllReadyH.nil
  go_simp
  go_at_call 142
  refine(Dq x1 (by have:=Uk.out;omega) _ (HE.out.up hBz (by omega)) (by simp;omega)).mono ?_
  rintro e w3 ⟨hb2,⟨h0,rfl⟩ | ⟨n,hn,hm,rfl⟩⟩
  ·go_wp2_with fail
   exact⟨rfl,.inl ⟨HNO.out h0,rfl,hBz.trans (hb2.mono (by simp))⟩⟩
  have hB3:Below w.heap.size w w3:=hBz.trans (hb2.mono (by simp))
  have hbx:AV w3 w.heap.size 56 [.int .i64 0,.string ⟨#[]⟩,.slice none 0 0]:=HZ.out.below hb2 HZ.out.lt
  have hA3:w3.cell? ⟨A,1,none⟩=some (.string x1)∧w3.cell? ⟨A,2,none⟩=some (.string x2):=⟨(hB3.cell (p:=⟨A,1,none⟩) Om).trans hw1,(hB3.cell (p:=⟨A,2,none⟩) Om).trans hw2⟩
  refine hK.out _ _ hA3 (fun LQ=> ?_)
  clear hK K
  refine AB (i:=7) (v:= ?_) rfl (by kernel_rfl) (fun _ _ _ h=>h) (by intro w hSw;(try dsimp only at hSw);go_simp;try with_reducible rfl) LQ ?_
  have hgl:w.heap.size≤w.heap.size:=Nat.le_refl _
  obtain⟨g,hgg⟩: ∃g,g=w.heap.size:=⟨_,rfl⟩
  rw [←hgg] at hbx
  have hgl:w.heap.size≤g:=by omega
  conv=>
   congr
   all_goals try rw [←hgg]
  clear hBz hgg hb2 hHeld AX hA3 hAz
 all_goals
  have cb0:=hbx.q 0 rfl
  have cb1:=hbx.q 1 rfl
  have cb2:=hbx.q 2 rfl
  have fb0:=hbx.frozen 0
  have fb1:=hbx.frozen 1
  have fb2:=hbx.frozen 2
  refine wpAnyH_ready (rs:= [9]) (by kernel_rfl) (by simp) ?_
  refine AllReadyH.cons rfl (fun K hK=> ?_) AllReadyH.nil
  go_simp
  have hb5:=(((hB3.setCell (p:=⟨g,0,none⟩) hgl (.int .i64 n)).setCell (p:=⟨g,1,none⟩) hgl (.string x2)).setCell (p:=⟨g,2,none⟩) hgl (.slice none 0 0))
  have hx5:=(((hbx.set 0 (.int .i64 n)).set 1 (.string x2)).set 2 (.slice none 0 0))
  refine hK.out _ _ ⟨(hb5.cell (p:=⟨A,1,none⟩) Om).trans hw1,(hb5.cell (p:=⟨A,2,none⟩) Om).trans hw2⟩ (fun tF=> ?_)
  clear hK K
  refine wpAnyH_done (by kernel_rfl) ?_ _
  generalize VU:World.setCell _ _ _=w5 at*
  have hx5:AV w5 g 56 [.int .i64 n,.string x2,.slice none 0 0]:=hx5
  have HY:=AA (mH.out n hn);have HM:=AA hm
  clear VU LQ tF cb0 cb1 cb2 fb0 fb1 fb2 hbx hB3 hn hm mH HNO HZ
  have cb0:=hx5.q 0 rfl
  have cb1:=hx5.q 1 rfl
  have cb2:=hx5.q 2 rfl
  have fb1:=hx5.frozen 1
  have mF:=AA hx5;have I8:=AA hb5
  clear hx5 hb5
  have hpart: ∃(w6:World) (lx:ByteArray),lx=Ua x2∧Below w.heap.size w w6∧AV w6 g 56 [.int .i64 n,.string lx,.slice none 0 0]∧((x2=dash∧w6=w5.setCell ⟨g,1,none⟩ (.string ⟨#[]⟩))∨(x2≠dash∧w6=w5)):=by
   by_cases hd:x2=dash
   ·refine⟨_,_,rfl,I8.out.setCell (p:=⟨g,1,none⟩) hgl (.string ⟨#[]⟩),?_,.inl ⟨hd,rfl⟩⟩
    have:Ua x2=none_:=if_pos hd
    rw [this]
    exact mF.out.set 1 _
   ·refine⟨w5,_,rfl,I8.out,?_,.inr ⟨hd,rfl⟩⟩
    have:Ua x2=x2:=if_neg hd
    rw [this]
    exact mF.out
  obtain⟨w6,lx,hlx,hb6,hx6,mI⟩:=hpart
  have hlk:lx.size≤140737488351232:=by
   rw [hlx]
   have h0:=RG.out
   unfold Ua
   split
   ·exact Nat.zero_le _
   ·omega
  have g1:=(hb6.cell (p:=⟨b,5,none⟩) hbl).trans hc1
  have e0:=hx6.q 0 rfl
  have e1:=hx6.q 1 rfl
  have e2:=hx6.q 2 rfl
  have OZ:=hx6.lt
  have YS:=hb6.size
  have FX:Below w6.heap.size w6 (w6.alloc (.cells #[.int .i64 n,.string lx,.slice none 0 0] 56)).drew:=((Below.refl _ _).alloc (Nat.le_refl _) _).drew
  have NC:=AA (hb6.trans (FX.mono YS))
  have k1:=(FX.cell (p:=⟨b,5,none⟩) (show b<w6.heap.size by omega)).trans g1
  have k2:=(FX.cell (p:=⟨g,0,none⟩) OZ).trans e0
  have k3:=(FX.cell (p:=⟨g,1,none⟩) OZ).trans e1
  have k4:=(FX.cell (p:=⟨g,2,none⟩) OZ).trans e2
  have XO:=AA (CJ HP.out.own NC.out)
  have Kq:Hid (Row (w6.alloc (.cells #[.int .i64 n,.string lx,.slice none 0 0] 56)).drew (w6.heap.size+1) (some ⟨w6.heap.size,0,none⟩) [.int .i64 n,.string lx,.slice none 0 0]):=AA (Dx w6 [.int .i64 n,.string lx,.slice none 0 0] 56)
  have HLK:=AA hlk
  clear FX hx6 hb6 hlk
  rw [←hlx] at HY
  rcases mI with⟨hd,hw6⟩ | ⟨hd,hw6⟩
  case' inl=>
   subst hd
   obtain rfl:lx=⟨#[]⟩:=hlx
   have hq2:(dash.toList== [45])=true:=by decide+kernel
   go_wp2_with fail
   rw [←hw6]
   clear hw6 cb0 cb1 cb2 fb1 mF I8
   try clear hlx
   go_wp2_with fail
  case' inr=>
   have hq2:(x2.toList== [45])=false:=jd hd
   obtain rfl:lx=x2:=hlx.trans (if_neg hd)
   subst hw6
   clear cb0 cb2 mF I8
   try clear hlx
   go_wp2_with fail
   clear cb1 fb1 hq2
 all_goals
  go_region_law (refine ES rfl (.tmp 24) (.tmp 26) 25 rfl B 56 i0 _ 3 48 underlying25 hi0 hz hs' hby rfl (by omega) _ m.fns.length Ip rfl XO.out _ _ 1 1 [.int .i64 n,.string _,.slice none 0 0] rfl rfl Kq.out (by intro u hu;simp at hu;rcases hu with rfl | rfl | rfl<;>rfl) (by unfold maxLen;omega) (by omega) (by simp;omega) ?_;intro A4 c4 w9 h2 h3 h4;have Ia:=HR.out.old NC.out h3 (fun g e=>(HP.out.lt g e).1);have Y1:=Ia.frozen 5;have hc4:=Ia.cell 5;have H2:=AA h2;have H3:=AA h3;have H4:=AA h4;clear h2 h3 h4 Ia)
  all_goals
   go_end0
   exact .inr ⟨_,HY.out,rfl,HR.out.AD3 HP.out NC.out (f:=⟨n,_,[]⟩) rfl HM.out HLK.out H2.out H3.out H4.out⟩
theorem VY (h0:ws≠ []) (hk:ws.length≠3) (Inv:World→AQ→Prop):
 Calls prog 93 #[.pointer (some ⟨b,0,none⟩),.slice (some ⟨A,0,none⟩) ws.length ws.length] w (K6 Inv B b w (Ar 6 m ws.tail)):=by
 have HN:=AA (Mg (m:=m) (p:=6) (k:=3) (by decide) h0 hk)
 have HK:Hid (decide (ws.length=3)=false):=AA (decide_eq_false hk)
 clear h0 hk
 go_enter func93,ntmps93
 go_wp2_with fail
 refine(C_ (some ⟨A,0,none⟩) ws.length ws.length 3 w).mono ?_
 rintro e w1 ⟨rfl,⟨h1,rfl⟩ | ⟨h1,rfl⟩⟩
 ·rw [HK.out] at h1;cases h1
 go_wp2_with fail
 exact⟨rfl,.inl ⟨HN.out,rfl,Below.refl _ _⟩⟩
theorem cO (h:XK B b A hi w col v1 v2 v3 v6 v7 v8 m 6 ln ws) (h0:ws≠ []):
 Calls prog 93 #[.pointer (some ⟨b,0,none⟩),.slice (some ⟨A,0,none⟩) ws.length ws.length] w (K6 (fun W m'=>Ko B b W m' ln) B b w (Ar 6 m ws.tail)):=by
 by_cases hk:ws.length=3
 case neg=>exact VY h0 hk _
 obtain⟨x0,x1,x2,rfl⟩:=yR hk
 exact YR h
end
end Go.Proofs.YtebgikflpgcnlaaGreatDoor
