/- Part 15 of the proof: RdrG RdrD RdrI -/
import Derived.Lib.EndianBits
import Derived.Test.YtejbcledkhioeaaGreatDoorQ14
namespace Go.Proofs.YtejbcledkhioeaaGreatDoor
set_option linter.unusedVariables false
set_option linter.unusedSimpArgs false
set_option maxRecDepth 100000
set_option maxHeartbeats 4000000
open Go.RowKit Tryz
theorem XV (n:Int):(n==wrap64 (wrap32 n))=true↔ -2147483648≤n∧n<2147483648:=by
 rw [beq_iff_eq]
 unfold wrap64 wrap32
 omega
theorem m_ (n:Int):IntKind.u64.wrap n=((n%18446744073709551616).toNat:Int):=by rw [IntKind.wrap_u64];omega
section
variable {B b A hi:Nat} {w:World} {col:Nat→Nat} {v1 v2 v3 v6 v7 v8:Value} {m:AP} {st ln:Nat} {ws:List ByteArray}
theorem Lm:(prog.info? 82).map (fun i=>(i.zero,i.size,i.bytes))=some (some (.agg #[.int .u8 0,.bool false,.int .u64 0]),3,16):=by kernel_rfl
theorem Ux {x0 x3:ByteArray} (h:Uv B b A hi w col v1 v2 v3 v6 v7 v8 m st ln [x0,wW,OQ,x3]):
 Calls prog 91 #[.pointer (some ⟨b,0,none⟩),.slice (some ⟨A,0,none⟩) 4 4] w (Jd (fun W m'=>Ru B b W m' st ln) B b w (Av 4 m [wW,OQ,x3])):=by
 obtain⟨A2,c2,BJ,e2,hP⟩:=h.rd.six.p3
 subst e2
 obtain⟨i0,hi0,hz,hs',hby⟩:=info_parts Lm
 have hc1:=h.rd.blk.q 2 rfl
 have hw1:w.cell? ⟨A,1,none⟩=some (.string ⟨#[119]⟩):=h.wd.at_ 1 _ rfl
 have hw2:w.cell? ⟨A,2,none⟩=some (.string ⟨#[118,97,114]⟩):=h.wd.at_ 2 _ rfl
 have hw3:w.cell? ⟨A,3,none⟩=some (.string x3):=h.wd.at_ 3 _ rfl
 have hbl:=h.rd.blk.lt
 have Md:=h.wd.lt
 have hhi:=h.hhi
 have hlow:=h.rd.low
 have htop:=h.rd.top
 have hq:=h.lens.globs
 have hb5:Below w.heap.size w (w.alloc (.cells #[.int .u8 0,.bool false,.int .u64 0] 82)).drew:=((Below.refl _ _).alloc (Nat.le_refl _) _).drew
 have k1:=(hb5.cell (p:=⟨A,1,none⟩) Md).trans hw1
 have k2:=(hb5.cell (p:=⟨A,2,none⟩) Md).trans hw2
 have HX:=AA (h.wd.sz x3 (by simp));have HE:=AA h.env;have HR:=AA h.rd;have HP:=AA hP
 clear h hP
 go_enter func91,ntmps91
 go_wp2_with fail
 refine(BU (some ⟨A,0,none⟩) 4 4 4 w).mono ?_
 rintro e w1 ⟨rfl,D5⟩
 rcases D5 with⟨_,rfl⟩ | ⟨hf,_⟩
 case inr=>exact absurd hf (by decide)
 go_wp2_with fail
 refine(AO _).mono ?_
 rintro e w1 ⟨rfl,rfl⟩
 go_wp2_with fail
 refine(AO _).mono ?_
 rintro e w1 ⟨rfl,rfl⟩
 go_wp2_with fail
 go_region
 all_goals
  clear k1 k2 hb5
  go_wp2_with fail
  generalize hw3:World.drew _=w3
  have hb3:Below w.heap.size w w3:=by rw [←hw3];exact((Below.refl _ _).alloc (Nat.le_refl _) _).drew
  have hx3:AL w3 w.heap.size 82 [.int .u8 119,.bool true,.int .u64 0]:=by rw [←hw3];exact(AL.new w _ [.int .u8 119,.bool true,.int .u64 0]).drewN 1
  clear hw3
  have SG:=hb3.size
  refine(CQ x3 (by have:=HX.out;omega) w3 (HE.out.up hb3 (by omega)) (by omega)).mono ?_
  rintro e w4 ⟨hb4,⟨h0,rfl⟩ | ⟨n,hn,hn63,rfl⟩⟩
  ·go_wp2_with fail
   refine⟨rfl,.inl ⟨?_,rfl,hb3.trans (hb4.mono SG)⟩⟩
   show(BH x3).bind _=none
   rw [h0];rfl
  have hx4:=hx3.below hb4 hx3.lt
  have J9:=AA (hb3.trans (hb4.mono SG))
  have c0:=hx4.q 0 rfl
  have c1:=hx4.q 1 rfl
  have c3:=hx4.q 2 rfl
  have f2:=hx4.frozen 2
  have Zz:=AA hx4;have HN:=AA hn;have wB:=AA hn63
  have hn0:=hn63.1
  have hn1:=hn63.2
  clear hb4 hx4 hn hb3 hx3 hn63
  go_wp2_with fail
  generalize Mr:w4.setCell _ _=w5
  have hb5:Below w.heap.size w w5:=by rw [←Mr];exact J9.out.setCell (p:=⟨w.heap.size,2,none⟩) (Nat.le_refl _) _
  have hx5:AL w5 w.heap.size 82 [.int .u8 119,.bool true,.int .u64 (IntKind.u64.wrap n)]:=by rw [←Mr];exact Zz.out.set 2 _
  clear Mr c0 c1 c3 f2 Zz J9
  refine(Qs _ _).mono ?_
  rintro e w6 ⟨rfl,⟨h0,rfl⟩ | ⟨h0,rfl⟩⟩
  case inr=>
   go_wp2_with fail
   refine⟨rfl,.inl ⟨?_,rfl,hb5⟩⟩
   show(BH x3).bind _=none
   rw [HN.out]
   show(Ju wW OQ n).map _=none
   have: ¬(-2147483648≤n∧n<2147483648):=fun h=>by rw [(XV n).2 h] at h0;cases h0
   unfold Ju
   rw [if_pos (by decide),if_pos (by decide),if_neg this]
   rfl
  have HG:Hid (Av 4 m [wW,OQ,x3]=some {m with globs:=m.globs++ [⟨119,true,(n%4294967296).toNat⟩]}):=AA (by
   show(BH x3).bind (fun n=>(Ju wW OQ n).map fun g=>({m with globs:=m.globs++ [g]}:AP))=_
   rw [HN.out,Option.bind_some]
   unfold Ju
   rw [if_pos (by decide),if_pos (by decide),if_pos ((XV n).1 h0)]
   rfl)
  have hr:(n==wrap64 (wrap32 n))=true:=h0
  clear h0
  have c0:=hx5.q 0 rfl
  have c1:=hx5.q 1 rfl
  have c3:=hx5.q 2 rfl
  have f2:=hx5.frozen 2
  have JX:=AA hb5;have Qw:=AA hx5
  clear hb5 hx5
  go_wp2_with fail
  generalize hw7:w5.setCell _ _=w7
  have M_:Below w.heap.size w w7:=by rw [←hw7];exact JX.out.setCell (p:=⟨w.heap.size,2,none⟩) (Nat.le_refl _) _
  have hx7:AL w7 w.heap.size 82 [.int .u8 119,.bool true,.int .u64 (((n%4294967296).toNat:Nat):Int)]:=by
   have e:n%4294967296=(((n%4294967296).toNat:Nat):Int):=by omega
   rw [←hw7,←e];exact Qw.out.set 2 _
  clear hw7 c0 c1 c3 f2 Qw JX
  have HV:Hid ((n%4294967296).toNat<18446744073709551616):=AA (by omega)
  generalize (n%4294967296).toNat=vv at*
  have c0:=hx7.q 0 rfl
  have c1:=hx7.q 1 rfl
  have c3:=hx7.q 2 rfl
  have g1:=(M_.cell (p:=⟨b,2,none⟩) (show b<w.heap.size by omega)).trans hc1
  have QU:=hx7.lt
  have aV:=M_.size
  have EM:Below w7.heap.size w7 (w7.alloc (.cells #[.int .u8 119,.bool true,.int .u64 vv] 82)).drew:=((Below.refl _ _).alloc (Nat.le_refl _) _).drew
  have KQ:=AA (M_.trans (EM.mono aV))
  have k1:=(EM.cell (p:=⟨b,2,none⟩) (show b<w7.heap.size by omega)).trans g1
  have kx0:=(EM.cell (p:=⟨w.heap.size,0,none⟩) QU).trans c0
  have kx1:=(EM.cell (p:=⟨w.heap.size,1,none⟩) QU).trans c1
  have kx2:=(EM.cell (p:=⟨w.heap.size,2,none⟩) QU).trans c3
  have Uy:=AA (BI HP.out.own KQ.out)
  have GK:Hid (Row (w7.alloc (.cells #[.int .u8 119,.bool true,.int .u64 vv] 82)).drew (w7.heap.size+1) (some ⟨w7.heap.size,0,none⟩) [.int .u8 119,.bool true,.int .u64 vv]):=AA (Ak w7 [.int .u8 119,.bool true,.int .u64 vv] 82)
  clear EM hx7 M_
  go_wp2_with fail
  go_region_law (refine Au rfl (.tmp 64) (.tmp 66) 24 rfl B 82 i0 _ 3 16 underlying24 hi0 hz hs' hby rfl (by omega) _ m.globs.length BJ rfl Uy.out (w7.heap.size+1) _ 1 1 [.int .u8 119,.bool true,.int .u64 vv] rfl rfl GK.out (by intro u hu;simp at hu;rcases hu with rfl | rfl | rfl<;>rfl) (by unfold maxLen;omega) (by omega) (by simp;omega) ?_;intro A4 c4 w9 h2 h3 h4;have Du:=HR.out.old KQ.out h3 (fun g e=>(HP.out.lt g e).1);have TJ:=Du.frozen 2;have hc4:=Du.cell 2;have H2:=AA h2;have H3:=AA h3;have H4:=AA h4;clear h2 h3 h4 Du)
  all_goals
   go_end0
   refine .inr ⟨_,HG.out,rfl,HR.out.Uu HP.out KQ.out (lo:=w.heap.size) (hi:=w.heap.size) (x:=⟨119,true,vv⟩) (Jw.2 ⟨rfl,HV.out⟩) (Nat.le_refl _) (by simp;omega) H2.out H3.out H4.out⟩
theorem TU {x0 x3:ByteArray} (h:Uv B b A hi w col v1 v2 v3 v6 v7 v8 m st ln [x0,wW,JV,x3]):
 Calls prog 91 #[.pointer (some ⟨b,0,none⟩),.slice (some ⟨A,0,none⟩) 4 4] w (Jd (fun W m'=>Ru B b W m' st ln) B b w (Av 4 m [wW,JV,x3])):=by
 obtain⟨A2,c2,BJ,e2,hP⟩:=h.rd.six.p3
 subst e2
 obtain⟨i0,hi0,hz,hs',hby⟩:=info_parts Lm
 have hc1:=h.rd.blk.q 2 rfl
 have hw1:w.cell? ⟨A,1,none⟩=some (.string ⟨#[119]⟩):=h.wd.at_ 1 _ rfl
 have hw2:w.cell? ⟨A,2,none⟩=some (.string ⟨#[99,111,110,115,116]⟩):=h.wd.at_ 2 _ rfl
 have hw3:w.cell? ⟨A,3,none⟩=some (.string x3):=h.wd.at_ 3 _ rfl
 have hbl:=h.rd.blk.lt
 have Md:=h.wd.lt
 have hhi:=h.hhi
 have hlow:=h.rd.low
 have htop:=h.rd.top
 have hq:=h.lens.globs
 have hb5:Below w.heap.size w (w.alloc (.cells #[.int .u8 0,.bool false,.int .u64 0] 82)).drew:=((Below.refl _ _).alloc (Nat.le_refl _) _).drew
 have k1:=(hb5.cell (p:=⟨A,1,none⟩) Md).trans hw1
 have k2:=(hb5.cell (p:=⟨A,2,none⟩) Md).trans hw2
 have HX:=AA (h.wd.sz x3 (by simp));have HE:=AA h.env;have HR:=AA h.rd;have HP:=AA hP
 clear h hP
 go_enter func91,ntmps91
 go_wp2_with fail
 refine(BU (some ⟨A,0,none⟩) 4 4 4 w).mono ?_
 rintro e w1 ⟨rfl,D5⟩
 rcases D5 with⟨_,rfl⟩ | ⟨hf,_⟩
 case inr=>exact absurd hf (by decide)
 go_wp2_with fail
 refine(AO _).mono ?_
 rintro e w1 ⟨rfl,rfl⟩
 go_wp2_with fail
 refine(AO _).mono ?_
 rintro e w1 ⟨rfl,rfl⟩
 go_wp2_with fail
 go_region
 all_goals
  clear k1 k2 hb5
  go_wp2_with fail
  generalize hw3:World.drew _=w3
  have hb3:Below w.heap.size w w3:=by rw [←hw3];exact((Below.refl _ _).alloc (Nat.le_refl _) _).drew
  have hx3:AL w3 w.heap.size 82 [.int .u8 119,.bool false,.int .u64 0]:=by rw [←hw3];exact(AL.new w _ [.int .u8 119,.bool false,.int .u64 0]).drewN 1
  clear hw3
  have SG:=hb3.size
  refine(CQ x3 (by have:=HX.out;omega) w3 (HE.out.up hb3 (by omega)) (by omega)).mono ?_
  rintro e w4 ⟨hb4,⟨h0,rfl⟩ | ⟨n,hn,hn63,rfl⟩⟩
  ·go_wp2_with fail
   refine⟨rfl,.inl ⟨?_,rfl,hb3.trans (hb4.mono SG)⟩⟩
   show(BH x3).bind _=none
   rw [h0];rfl
  have hx4:=hx3.below hb4 hx3.lt
  have J9:=AA (hb3.trans (hb4.mono SG))
  have c0:=hx4.q 0 rfl
  have c1:=hx4.q 1 rfl
  have c3:=hx4.q 2 rfl
  have f2:=hx4.frozen 2
  have Zz:=AA hx4;have HN:=AA hn;have wB:=AA hn63
  have hn0:=hn63.1
  have hn1:=hn63.2
  clear hb4 hx4 hn hb3 hx3 hn63
  go_wp2_with fail
  generalize Mr:w4.setCell _ _=w5
  have hb5:Below w.heap.size w w5:=by rw [←Mr];exact J9.out.setCell (p:=⟨w.heap.size,2,none⟩) (Nat.le_refl _) _
  have hx5:AL w5 w.heap.size 82 [.int .u8 119,.bool false,.int .u64 (IntKind.u64.wrap n)]:=by rw [←Mr];exact Zz.out.set 2 _
  clear Mr c0 c1 c3 f2 Zz J9
  refine(Qs _ _).mono ?_
  rintro e w6 ⟨rfl,⟨h0,rfl⟩ | ⟨h0,rfl⟩⟩
  case inr=>
   go_wp2_with fail
   refine⟨rfl,.inl ⟨?_,rfl,hb5⟩⟩
   show(BH x3).bind _=none
   rw [HN.out]
   show(Ju wW JV n).map _=none
   have: ¬(-2147483648≤n∧n<2147483648):=fun h=>by rw [(XV n).2 h] at h0;cases h0
   unfold Ju
   rw [if_pos (by decide),if_pos (by decide),if_neg this]
   rfl
  have HG:Hid (Av 4 m [wW,JV,x3]=some {m with globs:=m.globs++ [⟨119,false,(n%4294967296).toNat⟩]}):=AA (by
   show(BH x3).bind (fun n=>(Ju wW JV n).map fun g=>({m with globs:=m.globs++ [g]}:AP))=_
   rw [HN.out,Option.bind_some]
   unfold Ju
   rw [if_pos (by decide),if_pos (by decide),if_pos ((XV n).1 h0)]
   rfl)
  have hr:(n==wrap64 (wrap32 n))=true:=h0
  clear h0
  have c0:=hx5.q 0 rfl
  have c1:=hx5.q 1 rfl
  have c3:=hx5.q 2 rfl
  have f2:=hx5.frozen 2
  have JX:=AA hb5;have Qw:=AA hx5
  clear hb5 hx5
  go_wp2_with fail
  generalize hw7:w5.setCell _ _=w7
  have M_:Below w.heap.size w w7:=by rw [←hw7];exact JX.out.setCell (p:=⟨w.heap.size,2,none⟩) (Nat.le_refl _) _
  have hx7:AL w7 w.heap.size 82 [.int .u8 119,.bool false,.int .u64 (((n%4294967296).toNat:Nat):Int)]:=by
   have e:n%4294967296=(((n%4294967296).toNat:Nat):Int):=by omega
   rw [←hw7,←e];exact Qw.out.set 2 _
  clear hw7 c0 c1 c3 f2 Qw JX
  have HV:Hid ((n%4294967296).toNat<18446744073709551616):=AA (by omega)
  generalize (n%4294967296).toNat=vv at*
  have c0:=hx7.q 0 rfl
  have c1:=hx7.q 1 rfl
  have c3:=hx7.q 2 rfl
  have g1:=(M_.cell (p:=⟨b,2,none⟩) (show b<w.heap.size by omega)).trans hc1
  have QU:=hx7.lt
  have aV:=M_.size
  have EM:Below w7.heap.size w7 (w7.alloc (.cells #[.int .u8 119,.bool false,.int .u64 vv] 82)).drew:=((Below.refl _ _).alloc (Nat.le_refl _) _).drew
  have KQ:=AA (M_.trans (EM.mono aV))
  have k1:=(EM.cell (p:=⟨b,2,none⟩) (show b<w7.heap.size by omega)).trans g1
  have kx0:=(EM.cell (p:=⟨w.heap.size,0,none⟩) QU).trans c0
  have kx1:=(EM.cell (p:=⟨w.heap.size,1,none⟩) QU).trans c1
  have kx2:=(EM.cell (p:=⟨w.heap.size,2,none⟩) QU).trans c3
  have Uy:=AA (BI HP.out.own KQ.out)
  have GK:Hid (Row (w7.alloc (.cells #[.int .u8 119,.bool false,.int .u64 vv] 82)).drew (w7.heap.size+1) (some ⟨w7.heap.size,0,none⟩) [.int .u8 119,.bool false,.int .u64 vv]):=AA (Ak w7 [.int .u8 119,.bool false,.int .u64 vv] 82)
  clear EM hx7 M_
  go_wp2_with fail
  go_region_law (refine Au rfl (.tmp 64) (.tmp 66) 24 rfl B 82 i0 _ 3 16 underlying24 hi0 hz hs' hby rfl (by omega) _ m.globs.length BJ rfl Uy.out (w7.heap.size+1) _ 1 1 [.int .u8 119,.bool false,.int .u64 vv] rfl rfl GK.out (by intro u hu;simp at hu;rcases hu with rfl | rfl | rfl<;>rfl) (by unfold maxLen;omega) (by omega) (by simp;omega) ?_;intro A4 c4 w9 h2 h3 h4;have Du:=HR.out.old KQ.out h3 (fun g e=>(HP.out.lt g e).1);have TJ:=Du.frozen 2;have hc4:=Du.cell 2;have H2:=AA h2;have H3:=AA h3;have H4:=AA h4;clear h2 h3 h4 Du)
  all_goals
   go_end0
   refine .inr ⟨_,HG.out,rfl,HR.out.Uu HP.out KQ.out (lo:=w.heap.size) (hi:=w.heap.size) (x:=⟨119,false,vv⟩) (Jw.2 ⟨rfl,HV.out⟩) (Nat.le_refl _) (by simp;omega) H2.out H3.out H4.out⟩
theorem Uz {x0 x3:ByteArray} (h:Uv B b A hi w col v1 v2 v3 v6 v7 v8 m st ln [x0,lW,OQ,x3]):
 Calls prog 91 #[.pointer (some ⟨b,0,none⟩),.slice (some ⟨A,0,none⟩) 4 4] w (Jd (fun W m'=>Ru B b W m' st ln) B b w (Av 4 m [lW,OQ,x3])):=by
 obtain⟨A2,c2,BJ,e2,hP⟩:=h.rd.six.p3
 subst e2
 obtain⟨i0,hi0,hz,hs',hby⟩:=info_parts Lm
 have hc1:=h.rd.blk.q 2 rfl
 have hw1:w.cell? ⟨A,1,none⟩=some (.string ⟨#[108]⟩):=h.wd.at_ 1 _ rfl
 have hw2:w.cell? ⟨A,2,none⟩=some (.string ⟨#[118,97,114]⟩):=h.wd.at_ 2 _ rfl
 have hw3:w.cell? ⟨A,3,none⟩=some (.string x3):=h.wd.at_ 3 _ rfl
 have hbl:=h.rd.blk.lt
 have Md:=h.wd.lt
 have hhi:=h.hhi
 have hlow:=h.rd.low
 have htop:=h.rd.top
 have hq:=h.lens.globs
 have hb5:Below w.heap.size w (w.alloc (.cells #[.int .u8 0,.bool false,.int .u64 0] 82)).drew:=((Below.refl _ _).alloc (Nat.le_refl _) _).drew
 have k1:=(hb5.cell (p:=⟨A,1,none⟩) Md).trans hw1
 have k2:=(hb5.cell (p:=⟨A,2,none⟩) Md).trans hw2
 have HX:=AA (h.wd.sz x3 (by simp));have HE:=AA h.env;have HR:=AA h.rd;have HP:=AA hP
 clear h hP
 go_enter func91,ntmps91
 go_wp2_with fail
 refine(BU (some ⟨A,0,none⟩) 4 4 4 w).mono ?_
 rintro e w1 ⟨rfl,D5⟩
 rcases D5 with⟨_,rfl⟩ | ⟨hf,_⟩
 case inr=>exact absurd hf (by decide)
 go_wp2_with fail
 refine(AO _).mono ?_
 rintro e w1 ⟨rfl,rfl⟩
 go_wp2_with fail
 refine(AO _).mono ?_
 rintro e w1 ⟨rfl,rfl⟩
 go_wp2_with fail
 go_region
 all_goals
  clear k1 k2 hb5
  go_wp2_with fail
  generalize hw3:World.drew _=w3
  have hb3:Below w.heap.size w w3:=by rw [←hw3];exact((Below.refl _ _).alloc (Nat.le_refl _) _).drew
  have hx3:AL w3 w.heap.size 82 [.int .u8 108,.bool true,.int .u64 0]:=by rw [←hw3];exact(AL.new w _ [.int .u8 108,.bool true,.int .u64 0]).drewN 1
  clear hw3
  have SG:=hb3.size
  refine(CQ x3 (by have:=HX.out;omega) w3 (HE.out.up hb3 (by omega)) (by omega)).mono ?_
  rintro e w4 ⟨hb4,⟨h0,rfl⟩ | ⟨n,hn,hn63,rfl⟩⟩
  ·go_wp2_with fail
   refine⟨rfl,.inl ⟨?_,rfl,hb3.trans (hb4.mono SG)⟩⟩
   show(BH x3).bind _=none
   rw [h0];rfl
  have hx4:=hx3.below hb4 hx3.lt
  have J9:=AA (hb3.trans (hb4.mono SG))
  have c0:=hx4.q 0 rfl
  have c1:=hx4.q 1 rfl
  have c3:=hx4.q 2 rfl
  have f2:=hx4.frozen 2
  have Zz:=AA hx4;have HN:=AA hn;have wB:=AA hn63
  have hn0:=hn63.1
  have hn1:=hn63.2
  clear hb4 hx4 hn hb3 hx3 hn63
  go_wp2_with fail
  generalize hw7:w4.setCell _ _=w7
  have M_:Below w.heap.size w w7:=by rw [←hw7];exact J9.out.setCell (p:=⟨w.heap.size,2,none⟩) (Nat.le_refl _) _
  have hx7:AL w7 w.heap.size 82 [.int .u8 108,.bool true,.int .u64 (((n%18446744073709551616).toNat:Nat):Int)]:=by rw [←hw7,←m_];exact Zz.out.set 2 _
  clear hw7 c0 c1 c3 f2 Zz J9
  have HG:Hid (Av 4 m [lW,OQ,x3]=some {m with globs:=m.globs++ [⟨108,true,(n%18446744073709551616).toNat⟩]}):=AA (by
   show(BH x3).bind (fun n=>(Ju lW OQ n).map fun g=>({m with globs:=m.globs++ [g]}:AP))=_
   rw [HN.out,Option.bind_some]
   unfold Ju
   rw [if_pos (by decide),if_neg (by decide)]
   rfl)
  have HV:Hid ((n%18446744073709551616).toNat<18446744073709551616):=AA (by omega)
  generalize (n%18446744073709551616).toNat=vv at*
  have c0:=hx7.q 0 rfl
  have c1:=hx7.q 1 rfl
  have c3:=hx7.q 2 rfl
  have g1:=(M_.cell (p:=⟨b,2,none⟩) (show b<w.heap.size by omega)).trans hc1
  have QU:=hx7.lt
  have aV:=M_.size
  have EM:Below w7.heap.size w7 (w7.alloc (.cells #[.int .u8 108,.bool true,.int .u64 vv] 82)).drew:=((Below.refl _ _).alloc (Nat.le_refl _) _).drew
  have KQ:=AA (M_.trans (EM.mono aV))
  have k1:=(EM.cell (p:=⟨b,2,none⟩) (show b<w7.heap.size by omega)).trans g1
  have kx0:=(EM.cell (p:=⟨w.heap.size,0,none⟩) QU).trans c0
  have kx1:=(EM.cell (p:=⟨w.heap.size,1,none⟩) QU).trans c1
  have kx2:=(EM.cell (p:=⟨w.heap.size,2,none⟩) QU).trans c3
  have Uy:=AA (BI HP.out.own KQ.out)
  have GK:Hid (Row (w7.alloc (.cells #[.int .u8 108,.bool true,.int .u64 vv] 82)).drew (w7.heap.size+1) (some ⟨w7.heap.size,0,none⟩) [.int .u8 108,.bool true,.int .u64 vv]):=AA (Ak w7 [.int .u8 108,.bool true,.int .u64 vv] 82)
  clear EM hx7 M_
  go_wp2_with fail
  go_region_law (refine Au rfl (.tmp 64) (.tmp 66) 24 rfl B 82 i0 _ 3 16 underlying24 hi0 hz hs' hby rfl (by omega) _ m.globs.length BJ rfl Uy.out (w7.heap.size+1) _ 1 1 [.int .u8 108,.bool true,.int .u64 vv] rfl rfl GK.out (by intro u hu;simp at hu;rcases hu with rfl | rfl | rfl<;>rfl) (by unfold maxLen;omega) (by omega) (by simp;omega) ?_;intro A4 c4 w9 h2 h3 h4;have Du:=HR.out.old KQ.out h3 (fun g e=>(HP.out.lt g e).1);have TJ:=Du.frozen 2;have hc4:=Du.cell 2;have H2:=AA h2;have H3:=AA h3;have H4:=AA h4;clear h2 h3 h4 Du)
  all_goals
   go_end0
   refine .inr ⟨_,HG.out,rfl,HR.out.Uu HP.out KQ.out (lo:=w.heap.size) (hi:=w.heap.size) (x:=⟨108,true,vv⟩) (Jw.2 ⟨rfl,HV.out⟩) (Nat.le_refl _) (by simp;omega) H2.out H3.out H4.out⟩
theorem TV {x0 x3:ByteArray} (h:Uv B b A hi w col v1 v2 v3 v6 v7 v8 m st ln [x0,lW,JV,x3]):
 Calls prog 91 #[.pointer (some ⟨b,0,none⟩),.slice (some ⟨A,0,none⟩) 4 4] w (Jd (fun W m'=>Ru B b W m' st ln) B b w (Av 4 m [lW,JV,x3])):=by
 obtain⟨A2,c2,BJ,e2,hP⟩:=h.rd.six.p3
 subst e2
 obtain⟨i0,hi0,hz,hs',hby⟩:=info_parts Lm
 have hc1:=h.rd.blk.q 2 rfl
 have hw1:w.cell? ⟨A,1,none⟩=some (.string ⟨#[108]⟩):=h.wd.at_ 1 _ rfl
 have hw2:w.cell? ⟨A,2,none⟩=some (.string ⟨#[99,111,110,115,116]⟩):=h.wd.at_ 2 _ rfl
 have hw3:w.cell? ⟨A,3,none⟩=some (.string x3):=h.wd.at_ 3 _ rfl
 have hbl:=h.rd.blk.lt
 have Md:=h.wd.lt
 have hhi:=h.hhi
 have hlow:=h.rd.low
 have htop:=h.rd.top
 have hq:=h.lens.globs
 have hb5:Below w.heap.size w (w.alloc (.cells #[.int .u8 0,.bool false,.int .u64 0] 82)).drew:=((Below.refl _ _).alloc (Nat.le_refl _) _).drew
 have k1:=(hb5.cell (p:=⟨A,1,none⟩) Md).trans hw1
 have k2:=(hb5.cell (p:=⟨A,2,none⟩) Md).trans hw2
 have HX:=AA (h.wd.sz x3 (by simp));have HE:=AA h.env;have HR:=AA h.rd;have HP:=AA hP
 clear h hP
 go_enter func91,ntmps91
 go_wp2_with fail
 refine(BU (some ⟨A,0,none⟩) 4 4 4 w).mono ?_
 rintro e w1 ⟨rfl,D5⟩
 rcases D5 with⟨_,rfl⟩ | ⟨hf,_⟩
 case inr=>exact absurd hf (by decide)
 go_wp2_with fail
 refine(AO _).mono ?_
 rintro e w1 ⟨rfl,rfl⟩
 go_wp2_with fail
 refine(AO _).mono ?_
 rintro e w1 ⟨rfl,rfl⟩
 go_wp2_with fail
 go_region
 all_goals
  clear k1 k2 hb5
  go_wp2_with fail
  generalize hw3:World.drew _=w3
  have hb3:Below w.heap.size w w3:=by rw [←hw3];exact((Below.refl _ _).alloc (Nat.le_refl _) _).drew
  have hx3:AL w3 w.heap.size 82 [.int .u8 108,.bool false,.int .u64 0]:=by rw [←hw3];exact(AL.new w _ [.int .u8 108,.bool false,.int .u64 0]).drewN 1
  clear hw3
  have SG:=hb3.size
  refine(CQ x3 (by have:=HX.out;omega) w3 (HE.out.up hb3 (by omega)) (by omega)).mono ?_
  rintro e w4 ⟨hb4,⟨h0,rfl⟩ | ⟨n,hn,hn63,rfl⟩⟩
  ·go_wp2_with fail
   refine⟨rfl,.inl ⟨?_,rfl,hb3.trans (hb4.mono SG)⟩⟩
   show(BH x3).bind _=none
   rw [h0];rfl
  have hx4:=hx3.below hb4 hx3.lt
  have J9:=AA (hb3.trans (hb4.mono SG))
  have c0:=hx4.q 0 rfl
  have c1:=hx4.q 1 rfl
  have c3:=hx4.q 2 rfl
  have f2:=hx4.frozen 2
  have Zz:=AA hx4;have HN:=AA hn;have wB:=AA hn63
  have hn0:=hn63.1
  have hn1:=hn63.2
  clear hb4 hx4 hn hb3 hx3 hn63
  go_wp2_with fail
  generalize hw7:w4.setCell _ _=w7
  have M_:Below w.heap.size w w7:=by rw [←hw7];exact J9.out.setCell (p:=⟨w.heap.size,2,none⟩) (Nat.le_refl _) _
  have hx7:AL w7 w.heap.size 82 [.int .u8 108,.bool false,.int .u64 (((n%18446744073709551616).toNat:Nat):Int)]:=by rw [←hw7,←m_];exact Zz.out.set 2 _
  clear hw7 c0 c1 c3 f2 Zz J9
  have HG:Hid (Av 4 m [lW,JV,x3]=some {m with globs:=m.globs++ [⟨108,false,(n%18446744073709551616).toNat⟩]}):=AA (by
   show(BH x3).bind (fun n=>(Ju lW JV n).map fun g=>({m with globs:=m.globs++ [g]}:AP))=_
   rw [HN.out,Option.bind_some]
   unfold Ju
   rw [if_pos (by decide),if_neg (by decide)]
   rfl)
  have HV:Hid ((n%18446744073709551616).toNat<18446744073709551616):=AA (by omega)
  generalize (n%18446744073709551616).toNat=vv at*
  have c0:=hx7.q 0 rfl
  have c1:=hx7.q 1 rfl
  have c3:=hx7.q 2 rfl
  have g1:=(M_.cell (p:=⟨b,2,none⟩) (show b<w.heap.size by omega)).trans hc1
  have QU:=hx7.lt
  have aV:=M_.size
  have EM:Below w7.heap.size w7 (w7.alloc (.cells #[.int .u8 108,.bool false,.int .u64 vv] 82)).drew:=((Below.refl _ _).alloc (Nat.le_refl _) _).drew
  have KQ:=AA (M_.trans (EM.mono aV))
  have k1:=(EM.cell (p:=⟨b,2,none⟩) (show b<w7.heap.size by omega)).trans g1
  have kx0:=(EM.cell (p:=⟨w.heap.size,0,none⟩) QU).trans c0
  have kx1:=(EM.cell (p:=⟨w.heap.size,1,none⟩) QU).trans c1
  have kx2:=(EM.cell (p:=⟨w.heap.size,2,none⟩) QU).trans c3
  have Uy:=AA (BI HP.out.own KQ.out)
  have GK:Hid (Row (w7.alloc (.cells #[.int .u8 108,.bool false,.int .u64 vv] 82)).drew (w7.heap.size+1) (some ⟨w7.heap.size,0,none⟩) [.int .u8 108,.bool false,.int .u64 vv]):=AA (Ak w7 [.int .u8 108,.bool false,.int .u64 vv] 82)
  clear EM hx7 M_
  go_wp2_with fail
  go_region_law (refine Au rfl (.tmp 64) (.tmp 66) 24 rfl B 82 i0 _ 3 16 underlying24 hi0 hz hs' hby rfl (by omega) _ m.globs.length BJ rfl Uy.out (w7.heap.size+1) _ 1 1 [.int .u8 108,.bool false,.int .u64 vv] rfl rfl GK.out (by intro u hu;simp at hu;rcases hu with rfl | rfl | rfl<;>rfl) (by unfold maxLen;omega) (by omega) (by simp;omega) ?_;intro A4 c4 w9 h2 h3 h4;have Du:=HR.out.old KQ.out h3 (fun g e=>(HP.out.lt g e).1);have TJ:=Du.frozen 2;have hc4:=Du.cell 2;have H2:=AA h2;have H3:=AA h3;have H4:=AA h4;clear h2 h3 h4 Du)
  all_goals
   go_end0
   refine .inr ⟨_,HG.out,rfl,HR.out.Uu HP.out KQ.out (lo:=w.heap.size) (hi:=w.heap.size) (x:=⟨108,false,vv⟩) (Jw.2 ⟨rfl,HV.out⟩) (Nat.le_refl _) (by simp;omega) H2.out H3.out H4.out⟩
theorem Y9 {x0 x1 x2 x3:ByteArray} (h:Uv B b A hi w col v1 v2 v3 v6 v7 v8 m st ln [x0,x1,x2,x3]) (hb: ¬((x1=wW∨x1=lW)∧(x2=OQ∨x2=JV))) (Inv:World→AP→Prop):
 Calls prog 91 #[.pointer (some ⟨b,0,none⟩),.slice (some ⟨A,0,none⟩) 4 4] w (Jd Inv B b w (Av 4 m [x1,x2,x3])):=by
 have HG:Hid (Av 4 m [x1,x2,x3]=none):=AA (by
  show(BH x3).bind _=none
  cases BH x3 with
  | none=>rfl
  | some n=>
   show(Ju x1 x2 n).map _=none
   unfold Ju
   rw [if_neg hb]
   rfl)
 have hw1:w.cell? ⟨A,1,none⟩=some (.string x1):=h.wd.at_ 1 _ rfl
 have hw2:w.cell? ⟨A,2,none⟩=some (.string x2):=h.wd.at_ 2 _ rfl
 have hs: ∀(x:ByteArray) (l:List UInt8),x≠⟨l.toArray⟩→(x.toList==l)=false:=fun x l hn=>by
  rw [beq_eq_false_iff_ne,ByteArray.toList_eq]
  intro e
  apply hn
  cases x
  simp at e
  subst e
  simp
 clear h
 go_enter func91,ntmps91
 go_wp2_with fail
 refine(BU (some ⟨A,0,none⟩) 4 4 4 w).mono ?_
 rintro e w1 ⟨rfl,D5⟩
 rcases D5 with⟨_,rfl⟩ | ⟨hf,_⟩
 case inr=>exact absurd hf (by decide)
 by_cases h1:x1=wW∨x1=lW
 case neg=>
  have e1:(x1.toList== [119])=false:=hs x1 [119] (fun e=>h1 (.inl e))
  have e2:(x1.toList== [108])=false:=hs x1 [108] (fun e=>h1 (.inr e))
  clear hb hs h1
  go_wp2_with fail
  refine(AY _).mono ?_
  rintro e w1 ⟨rfl,rfl⟩
  go_wp2_with fail
  exact⟨rfl,.inl ⟨HG.out,rfl,Below.refl _ _⟩⟩
 have e3:(x2.toList== [118,97,114])=false:=hs x2 [118,97,114] (fun e=>hb ⟨h1,.inl e⟩)
 have e4:(x2.toList== [99,111,110,115,116])=false:=hs x2 [99,111,110,115,116] (fun e=>hb ⟨h1,.inr e⟩)
 have hx1: ∃l,(l=119∨l=108)∧x1=⟨#[l]⟩:=h1.elim (fun e=>⟨119,.inl rfl,e⟩) (fun e=>⟨108,.inr rfl,e⟩)
 clear hb hs h1
 obtain⟨l,rfl | rfl,rfl⟩:=hx1
 all_goals
  go_wp2_with fail
  refine(AO _).mono ?_
  rintro e w1 ⟨rfl,rfl⟩
  go_wp2_with fail
  refine(AY _).mono ?_
  rintro e w1 ⟨rfl,rfl⟩
  go_wp2_with fail
  exact⟨rfl,.inl ⟨HG.out,rfl,Below.refl _ _⟩⟩
theorem Vp (h0:ws≠ []) (hk:ws.length≠4) (Inv:World→AP→Prop):
 Calls prog 91 #[.pointer (some ⟨b,0,none⟩),.slice (some ⟨A,0,none⟩) ws.length ws.length] w (Jd Inv B b w (Av 4 m ws.tail)):=by
 have HN:=AA (J8 (m:=m) (p:=4) (k:=4) (by decide) h0 hk)
 have HK:Hid (decide (ws.length=4)=false):=AA (decide_eq_false hk)
 clear h0 hk
 go_enter func91,ntmps91
 go_wp2_with fail
 refine(BU (some ⟨A,0,none⟩) ws.length ws.length 4 w).mono ?_
 rintro e w1 ⟨rfl,⟨h1,rfl⟩ | ⟨h1,rfl⟩⟩
 ·rw [HK.out] at h1;cases h1
 go_wp2_with fail
 exact⟨rfl,.inl ⟨HN.out,rfl,Below.refl _ _⟩⟩
theorem iG (h:Uv B b A hi w col v1 v2 v3 v6 v7 v8 m st ln ws) (h0:ws≠ []):
 Calls prog 91 #[.pointer (some ⟨b,0,none⟩),.slice (some ⟨A,0,none⟩) ws.length ws.length] w (Jd (fun W m'=>Ru B b W m' st ln) B b w (Av 4 m ws.tail)):=by
 by_cases hk:ws.length=4
 case neg=>exact Vp h0 hk _
 obtain⟨x0,x1,x2,x3,rfl⟩:=len4 hk
 by_cases hb:(x1=wW∨x1=lW)∧(x2=OQ∨x2=JV)
 case neg=>exact Y9 h hb _
 obtain⟨rfl | rfl,rfl | rfl⟩:=hb
 ·exact Ux h
 ·exact TU h
 ·exact Uz h
 ·exact TV h
end
section
variable {B b A hi:Nat} {w:World} {col:Nat→Nat} {v1 v2 v3 v6 v7 v8:Value} {m:AP} {st ln:Nat} {ws:List ByteArray}
theorem Y7 (h0:ws≠ []) (hk:ws.length≠2) (Inv:World→AP→Prop):
 Calls prog 90 #[.pointer (some ⟨b,0,none⟩),.slice (some ⟨A,0,none⟩) ws.length ws.length] w (Jd Inv B b w (Av 3 m ws.tail)):=by
 have HN:=AA (J8 (m:=m) (p:=3) (k:=2) (by decide) h0 hk)
 have HK:Hid (decide (ws.length=2)=false):=AA (decide_eq_false hk)
 clear h0 hk
 go_enter func90,ntmps90
 go_wp2_with fail
 refine(BU (some ⟨A,0,none⟩) ws.length ws.length 2 w).mono ?_
 rintro e w1 ⟨rfl,⟨h1,rfl⟩ | ⟨h1,rfl⟩⟩
 ·rw [HK.out] at h1;cases h1
 go_wp2_with fail
 exact⟨rfl,.inl ⟨HN.out,rfl,Below.refl _ _⟩⟩
theorem aR {x0 x1:ByteArray} (h:Uv B b A hi w col v1 v2 v3 v6 v7 v8 m st ln [x0,x1]) (hn:BH x1=none) (Inv:World→AP→Prop):
 Calls prog 90 #[.pointer (some ⟨b,0,none⟩),.slice (some ⟨A,0,none⟩) 2 2] w (Jd Inv B b w (Av 3 m [x1])):=by
 obtain⟨A2,c2,BJ,e2,hP⟩:=h.rd.six.p2
 subst e2
 have hc1:=h.rd.blk.q 1 rfl
 have hw1:w.cell? ⟨A,1,none⟩=some (.string x1):=h.wd.at_ 1 _ rfl
 have hbl:=h.rd.blk.lt
 have Md:=h.wd.lt
 have hhi:=h.hhi
 have HX:=AA (h.wd.sz x1 (by simp));have HN:=AA hn;have HE:=AA h.env
 have HRN:Hid (Av 3 m [x1]=none):=AA (by show(BH x1).map _=none;rw [hn];rfl)
 clear h hn hP
 go_enter func90,ntmps90
 go_wp2_with fail
 refine(BU (some ⟨A,0,none⟩) 2 2 2 w).mono ?_
 rintro e w1 ⟨rfl,D5⟩
 rcases D5 with⟨_,rfl⟩ | ⟨hf,_⟩
 case inr=>exact absurd hf (by decide)
 go_wp2_with fail
 refine wp_region_held_drew (S:=fun W=>W.cell? ⟨b,1,none⟩=some (.slice A2 m.hosts.length c2)∧W.cell? ⟨A,1,none⟩=some (.string x1)) (by kernel_rfl) ⟨hc1,hw1⟩ (fun hHeld=> ?_)
 refine AB (i:=0) (v:= ?_) rfl (by kernel_rfl) (fun _ _ _ h=>h) (by intro w hSw;(try dsimp only at hSw);go_simp;try with_reducible rfl) hHeld ?_
 refine AB (i:=1) (v:= ?_) rfl (by kernel_rfl) (fun _ _ _ h=>h) (by intro w hSw;(try dsimp only at hSw);go_simp;try with_reducible rfl) hHeld ?_
 refine AB (i:=2) (v:= ?_) rfl (by kernel_rfl) (fun _ _ _ h=>h) (by intro w hSw;(try dsimp only at hSw);go_simp;try with_reducible rfl) hHeld ?_
 refine AB (i:=3) (v:= ?_) rfl (by kernel_rfl) (fun _ _ _ h=>h) (by intro w hSw;(try dsimp only at hSw);go_simp;try with_reducible rfl) hHeld ?_
 refine AB (i:=4) (v:= ?_) rfl (by kernel_rfl) (fun _ _ _ h=>h) (by intro w hSw;(try dsimp only at hSw);go_simp;try with_reducible rfl) hHeld ?_
 refine AB (i:=5) (v:= ?_) rfl (by kernel_rfl) (fun _ _ _ h=>h) (by intro w hSw;(try dsimp only at hSw);go_simp;try with_reducible rfl) hHeld ?_
 refine AB (i:=6) (v:= ?_) rfl (by kernel_rfl) (fun _ _ _ h=>h) (by intro w hSw;(try dsimp only at hSw);go_simp;try with_reducible rfl) hHeld ?_
 refine AB (i:=7) (v:= ?_) rfl (by kernel_rfl) (fun _ _ _ h=>h) (by intro w hSw;(try dsimp only at hSw);go_simp;try with_reducible rfl) hHeld ?_
 refine AB (i:=8) (v:= ?_) rfl (by kernel_rfl) (fun _ _ _ h=>h) (by intro w hSw;(try dsimp only at hSw);go_simp;try with_reducible rfl) hHeld ?_
 refine wpAnyH_ready (rs:= [9]) (by kernel_rfl) (by simp) ?_
 refine AllReadyH.cons rfl (fun K hK=> ?_) AllReadyH.nil
 go_simp
 go_at_call 142
 refine(CQ x1 (by have:=HX.out;omega) _ (HE.out.up (below_drewN (Below.refl _ _) 1) (by omega)) (by first | (simp;omega) | omega)).mono ?_
 rintro e w2 ⟨hb2,⟨h0,rfl⟩ | ⟨k,hk,_,rfl⟩⟩
 ·go_wp2_with fail
  exact⟨rfl,.inl ⟨HRN.out,rfl,Am hb2⟩⟩
 ·exact absurd (hk.symm.trans HN.out) (by simp)
theorem aS {x0 x1:ByteArray} {n:Int} (h:Uv B b A hi w col v1 v2 v3 v6 v7 v8 m st ln [x0,x1]) (hn:BH x1=some n):
 Calls prog 90 #[.pointer (some ⟨b,0,none⟩),.slice (some ⟨A,0,none⟩) 2 2] w fun e w'=>e= .returned (.tuple #[])∧Keep (fun k=>k<B∧k≠b) w w'∧Ru B b w' {m with hosts:=m.hosts++ [n]} st ln:=by
 obtain⟨A2,c2,BJ,e2,hP⟩:=h.rd.six.p2
 subst e2
 obtain⟨i0,hi0,hz,hs',hby⟩:=info_parts Qu
 have hc1:=h.rd.blk.q 1 rfl
 have hw1:w.cell? ⟨A,1,none⟩=some (.string x1):=h.wd.at_ 1 _ rfl
 have hbl:=h.rd.blk.lt
 have Md:=h.wd.lt
 have hhi:=h.hhi
 have hlow:=h.rd.low
 have htop:=h.rd.top
 have hq:=h.lens.hosts
 have HX:=AA (h.wd.sz x1 (by simp));have iE:=AA (h.wd.sz x1 (by simp));have HN:=AA hn;have HE:=AA h.env;have HR:=AA h.rd;have HP:=AA hP
 clear h hn hP
 go_enter func90,ntmps90
 go_wp2_with fail
 refine(BU (some ⟨A,0,none⟩) 2 2 2 w).mono ?_
 rintro e w1 ⟨rfl,D5⟩
 rcases D5 with⟨_,rfl⟩ | ⟨hf,_⟩
 case inr=>exact absurd hf (by decide)
 go_wp2_with fail
 go_region_law
  (first
   | (go_simp;go_at_call 142;refine(CQ x1 (by have:=HX.out;omega) w.drew (HE.out.up (below_drewN (Below.refl _ _) 1) (by omega)) (by first | (simp;omega) | omega)).mono ?_;rintro e w2 ⟨hb2,⟨h0,rfl⟩ | ⟨k,hk,Y8,rfl⟩⟩;exact absurd (h0.symm.trans HN.out) (by simp);obtain rfl:k=n:=Option.some.inj (hk.symm.trans HN.out);have hS:=Am hb2;have HS:=AA hS;have g1:=(hS.cell (p:=⟨b,1,none⟩) (show b<w.heap.size by omega)).trans hc1;have hsz2:w.heap.size≤w2.heap.size:=hS.size;have g1a:=(((Below.refl w2.heap.size w2).alloc (Nat.le_refl _) (.cells #[.int .i64 k] 3)).cell (p:=⟨b,1,none⟩) (show b<w2.heap.size by omega)).trans g1;have GK:=AA (Ak w2 [.int .i64 k] 3);have mg:=AA Y8;have kS:=AA (BI HP.out.own hS);clear hb2 hk Y8 hS)
   | (refine Au rfl (.tmp 11) (.tmp 16) 23 rfl B 3 i0 _ 1 8 underlying23 hi0 hz hs' hby rfl (by omega) _ m.hosts.length BJ rfl (kS.out.alloc _) (w2.heap.size+1) _ 1 1 [.int .i64 k] rfl rfl GK.out (by intro u hu;simp at hu;rcases hu with rfl<;>rfl) (by unfold maxLen;omega) (by omega) (by simp;omega) ?_;intro A4 c4 w4 h2 h3 h4;have Du:=HR.out.old (HS.out.alloc HS.out.size _) h3 (fun g e=>(HP.out.lt g e).1);have TJ:=Du.frozen 1;have hc4:=Du.cell 1;have H2:=AA h2;have H3:=AA h3;have H4:=AA h4;clear h2 h3 h4 Du))
 all_goals
  go_end0
  exact⟨rfl,HR.out.Y3 HP.out (HS.out.alloc HS.out.size _) (lo:=w.heap.size) (hi:=w.heap.size) (⟨rfl,mg.out⟩) (Nat.le_refl _) (by simp;omega) H2.out H3.out H4.out⟩
theorem sM (h:Uv B b A hi w col v1 v2 v3 v6 v7 v8 m st ln ws) (h0:ws≠ []):
 Calls prog 90 #[.pointer (some ⟨b,0,none⟩),.slice (some ⟨A,0,none⟩) ws.length ws.length] w (Jd (fun W m'=>Ru B b W m' st ln) B b w (Av 3 m ws.tail)):=by
 by_cases hk:ws.length=2
 case neg=>exact Y7 h0 hk _
 obtain⟨x0,x1,rfl⟩:=len2 hk
 cases hn:BH x1 with
 | none=>exact aR h hn _
 | some n=>
  refine(aS h hn).mono ?_
  rintro e w' ⟨rfl,hk,hr⟩
  exact .inr ⟨_,by show(BH x1).map _=_;rw [hn];rfl,rfl,hk,hr⟩
end
section
variable {B b A hi:Nat} {w:World} {col:Nat→Nat} {v1 v2 v3 v6 v7 v8:Value} {m:AP} {st ln:Nat} {ws:List ByteArray}
theorem OL.mem (h:OL B b w col v1 v2 v3 v6 v7 v8 m st ln) {x y:Int} (hx:Rd.ER x) (hy:Rd.ER y) {w4 w5:World} (hb:Below w.heap.size w w4) (hK:Keep (fun k=>k≠b) w4 w5)
 (hB:AL w5 b 104 [v1,v2,v3,.int .i64 x,.int .i64 y,v6,v7,v8,.int .i64 st,.int .i64 ln]):
 Keep (fun k=>k<B∧k≠b) w w5∧Ru B b w5 {m with first:=x,most:=y} st ln:=by
 have hlow:=h.low
 have hK2:Keep (fun k=>k≠b) w w5:=((Keep.Aq hb).Dt (fun k hk _=>hk)).trans hK
 refine⟨hK2.mono fun k hk=>hk.2,⟨Dy w col 0,v1,v2,v3,v6,v7,v8,hB,?_,h.low,Nat.le_trans h.top hK2.size,hx,hy⟩⟩
 have:=h.six.keep hK2 (fun k hk _ _=>by omega) (Dy w col 0) (fun k hk _=>AV hk rfl)
 exact⟨this.p1,this.p2,this.p3,this.p6,this.p7,this.p8⟩
theorem cell_far (W:World) (u:Value) {p q:Addr} (h:p.block≠q.block):(W.setCell q u).cell? p=W.cell? p:=by
 have:=Below.heap_setCell W q u p.block h
 simp [World.cell?,this]
theorem ZB {x0 x1 x2:ByteArray} (h:Uv B b A hi w col v1 v2 v3 v6 v7 v8 m st ln [x0,x1,x2]):
 Calls prog 92 #[.pointer (some ⟨b,0,none⟩),.slice (some ⟨A,0,none⟩) 3 3] w (Jd (fun W m'=>Ru B b W m' st ln) B b w (Av 5 m [x1,x2])):=by
 have hw1:w.cell? ⟨A,1,none⟩=some (.string x1):=h.wd.at_ 1 _ rfl
 have hw2:w.cell? ⟨A,2,none⟩=some (.string x2):=h.wd.at_ 2 _ rfl
 have Md:=h.wd.lt
 have hbl:=h.rd.blk.lt
 have hhi:=h.hhi
 have iE:=AA (h.wd.sz x1 (by simp));have OU:=AA (h.wd.sz x2 (by simp));have HE:=AA h.env;have HR:=AA h.rd;have qm:=AA h.ne
 have yF:Hid (BH x1=none→Av 5 m [x1,x2]=none):=AA fun h=>by show(BH x1).bind _=none;rw [h];rfl
 have nE:Hid (BH x2=none→Av 5 m [x1,x2]=none):=AA fun h=>by show(BH x1).bind (fun x=>(BH x2).map fun y=>({m with first:=x,most:=y}:AP))=none;rw [h];cases BH x1<;>rfl
 have iH:Hid (∀a c,BH x1=some a→BH x2=some c→Av 5 m [x1,x2]=some {m with first:=a,most:=c}):=AA fun a c h1 h2=>by show(BH x1).bind (fun x=>(BH x2).map fun y=>({m with first:=x,most:=y}:AP))=_;rw [h1,h2];rfl
 clear h
 go_enter func92,ntmps92
 go_wp2_with fail
 refine(BU (some ⟨A,0,none⟩) 3 3 3 w).mono ?_
 rintro e w1 ⟨rfl,D5⟩
 rcases D5 with⟨_,rfl⟩ | ⟨hf,_⟩
 case inr=>exact absurd hf (by decide)
 go_wp2_with fail
 refine wp_region_held_drew (S:=fun W=>W.cell? ⟨A,1,none⟩=some (.string x1)∧W.cell? ⟨A,2,none⟩=some (.string x2)) (by kernel_rfl) ⟨hw1,hw2⟩ (fun hHeld=> ?_)
 refine AB (i:=0) (v:= ?_) rfl (by kernel_rfl) (fun _ _ _ h=>h) (by intro w hSw;(try dsimp only at hSw);go_simp;try with_reducible rfl) hHeld ?_
 refine AB (i:=1) (v:= ?_) rfl (by kernel_rfl) (fun _ _ _ h=>h) (by intro w hSw;(try dsimp only at hSw);go_simp;try with_reducible rfl) hHeld ?_
 refine AB (i:=2) (v:= ?_) rfl (by kernel_rfl) (fun _ _ _ h=>h) (by intro w hSw;(try dsimp only at hSw);go_simp;try with_reducible rfl) hHeld ?_
 refine AB (i:=3) (v:= ?_) rfl (by kernel_rfl) (fun _ _ _ h=>h) (by intro w hSw;(try dsimp only at hSw);go_simp;try with_reducible rfl) hHeld ?_
 refine AB (i:=4) (v:= ?_) rfl (by kernel_rfl) (fun _ _ _ h=>h) (by intro w hSw;(try dsimp only at hSw);go_simp;try with_reducible rfl) hHeld ?_
 refine AB (i:=6) (v:= ?_) rfl (by kernel_rfl) (fun _ _ _ h=>h) (by intro w hSw;(try dsimp only at hSw);go_simp;try with_reducible rfl) hHeld ?_
 refine AB (i:=7) (v:= ?_) rfl (by kernel_rfl) (fun _ _ _ h=>h) (by intro w hSw;(try dsimp only at hSw);go_simp;try with_reducible rfl) hHeld ?_
 refine AB (i:=8) (v:= ?_) rfl (by kernel_rfl) (fun _ _ _ h=>h) (by intro w hSw;(try dsimp only at hSw);go_simp;try with_reducible rfl) hHeld ?_
 refine wpAnyH_ready (rs:= [5]) (by kernel_rfl) (by simp) ?_
 refine AllReadyH.cons rfl (fun K hK=> ?_) AllReadyH.nil
 ·go_simp
  go_at_call 142
  refine(CQ x1 (by have:=iE.out;omega) _ (HE.out.up (below_drewN (Below.refl _ _) 1) (by omega)) (by simp;omega)).mono ?_
  rintro e w2 ⟨hb2,⟨h0,rfl⟩ | ⟨n1,hn1,hm1,rfl⟩⟩
  ·go_wp2_with fail
   exact⟨rfl,.inl ⟨yF.out h0,rfl,Am hb2⟩⟩
  have hS2:=Am hb2
  have hsz2:=hS2.size
  refine hK.out _ _ ⟨(hS2.cell (p:=⟨A,1,none⟩) Md).trans hw1,(hS2.cell (p:=⟨A,2,none⟩) Md).trans hw2⟩ (fun Ag=> ?_)
  clear hK K
  refine wpAnyH_ready (rs:= [9]) (by kernel_rfl) (by simp) ?_
  refine AllReadyH.cons rfl (fun K hK=> ?_) AllReadyH.nil
  go_simp
  go_at_call 142
  refine(CQ x2 (by have:=OU.out;omega) w2 (HE.out.up hS2 (by omega)) (by omega)).mono ?_
  rintro e w3 ⟨hb3,⟨h0,rfl⟩ | ⟨n2,hn2,hm2,rfl⟩⟩
  ·go_wp2_with fail
   exact⟨rfl,.inl ⟨nE.out h0,rfl,hS2.trans (hb3.mono hsz2)⟩⟩
  have eH:=hS2.trans (hb3.mono hsz2)
  refine hK.out _ _ ⟨(eH.cell (p:=⟨A,1,none⟩) Md).trans hw1,(eH.cell (p:=⟨A,2,none⟩) Md).trans hw2⟩ (fun CO=> ?_)
  clear hK K
  have hY:=iH.out n1 n2 hn1 hn2
  have hbk:=HR.out.blk.below eH hbl
  have HY:=AA hY;have Z4:=AA hm1;have aW:=AA hm2;have yG:=AA eH;have HBK:=AA hbk
  have c3:=hbk.q 3 rfl
  have c4:=hbk.q 4 rfl
  have f3:=hbk.frozen 3
  have f4:=hbk.frozen 4
  clear hY hm1 hm2 hb2 hb3 hn1 hn2 hS2 eH hbk
  clear hHeld Ag
  refine AB (i:=10) (v:= ?_) rfl (by kernel_rfl) (fun _ _ _ h=>h) (by intro w hSw;(try dsimp only at hSw);go_simp;try with_reducible rfl) CO ?_
  refine AB (i:=11) (v:= ?_) rfl (by kernel_rfl) (fun _ _ _ h=>h) (by intro w hSw;(try dsimp only at hSw);go_simp;try with_reducible rfl) CO ?_
  refine AB (i:=12) (v:= ?_) rfl (by kernel_rfl) (fun _ _ _ h=>h) (by intro w hSw;(try dsimp only at hSw);go_simp;try with_reducible rfl) CO ?_
  refine wpAnyH_ready (rs:= [13]) (by kernel_rfl) (by simp) ?_
  refine AllReadyH.cons rfl (fun K hK=> ?_) AllReadyH.nil
  go_simp
  have hB5:=(HBK.out.set 3 (.int .i64 n1))
  have c4':=hB5.q 4 rfl
  have f4':=hB5.frozen 4
  have sN:=qm.out
  refine hK.out _ _ ⟨(cell_far _ _ (p:=⟨A,1,none⟩) (q:=⟨b,3,none⟩) sN).trans ((yG.out.cell (p:=⟨A,1,none⟩) Md).trans hw1),(cell_far _ _ (p:=⟨A,2,none⟩) (q:=⟨b,3,none⟩) sN).trans ((yG.out.cell (p:=⟨A,2,none⟩) Md).trans hw2)⟩ (fun JY=> ?_)
  clear hK K
  refine AB (i:=14) (v:= ?_) rfl (by kernel_rfl) (fun _ _ _ h=>h) (by intro w hSw;(try dsimp only at hSw);go_simp;try with_reducible rfl) JY ?_
  refine AB (i:=15) (v:= ?_) rfl (by kernel_rfl) (fun _ _ _ h=>h) (by intro w hSw;(try dsimp only at hSw);go_simp;try with_reducible rfl) JY ?_
  refine AB (i:=16) (v:= ?_) rfl (by kernel_rfl) (fun _ _ _ h=>h) (by intro w hSw;(try dsimp only at hSw);go_simp;try with_reducible rfl) JY ?_
  refine wpAnyH_ready (rs:= [17]) (by kernel_rfl) (by simp) ?_
  refine AllReadyH.cons rfl (fun K hK=> ?_) AllReadyH.nil
  go_simp
  refine hK.out _ _ ⟨(cell_far _ _ (p:=⟨A,1,none⟩) (q:=⟨b,4,none⟩) sN).trans ((cell_far _ _ (p:=⟨A,1,none⟩) (q:=⟨b,3,none⟩) sN).trans ((yG.out.cell (p:=⟨A,1,none⟩) Md).trans hw1)),(cell_far _ _ (p:=⟨A,2,none⟩) (q:=⟨b,4,none⟩) sN).trans ((cell_far _ _ (p:=⟨A,2,none⟩) (q:=⟨b,3,none⟩) sN).trans ((yG.out.cell (p:=⟨A,2,none⟩) Md).trans hw2))⟩ (fun nC=> ?_)
  clear hK K
  refine wpAnyH_done (by kernel_rfl) ?_ _
  go_simp
  have hfin:=HR.out.mem Z4.out aW.out yG.out (((Keep.refl _ w3).setCell (p:=⟨b,3,none⟩) (fun e=>e rfl) (.int .i64 n1)).setCell (p:=⟨b,4,none⟩) (fun e=>e rfl) (.int .i64 n2)) (hB5.set 4 _)
  go_end0
  exact .inr ⟨_,HY.out,rfl,hfin⟩
theorem Vr (h0:ws≠ []) (hk:ws.length≠3) (Inv:World→AP→Prop):
 Calls prog 92 #[.pointer (some ⟨b,0,none⟩),.slice (some ⟨A,0,none⟩) ws.length ws.length] w (Jd Inv B b w (Av 5 m ws.tail)):=by
 have HN:=AA (J8 (m:=m) (p:=5) (k:=3) (by decide) h0 hk)
 have HK:Hid (decide (ws.length=3)=false):=AA (decide_eq_false hk)
 clear h0 hk
 go_enter func92,ntmps92
 go_wp2_with fail
 refine(BU (some ⟨A,0,none⟩) ws.length ws.length 3 w).mono ?_
 rintro e w1 ⟨rfl,⟨h1,rfl⟩ | ⟨h1,rfl⟩⟩
 ·rw [HK.out] at h1;cases h1
 go_wp2_with fail
 exact⟨rfl,.inl ⟨HN.out,rfl,Below.refl _ _⟩⟩
theorem iI (h:Uv B b A hi w col v1 v2 v3 v6 v7 v8 m st ln ws) (h0:ws≠ []):
 Calls prog 92 #[.pointer (some ⟨b,0,none⟩),.slice (some ⟨A,0,none⟩) ws.length ws.length] w (Jd (fun W m'=>Ru B b W m' st ln) B b w (Av 5 m ws.tail)):=by
 by_cases hk:ws.length=3
 case neg=>exact Vr h0 hk _
 obtain⟨x0,x1,x2,rfl⟩:=sK hk
 exact ZB h
end
end Go.Proofs.YtejbcledkhioeaaGreatDoor
