/- Part 27 of the proof: RdrG RdrJ RdrF -/
import Derived.Lib.EndianBits
import Derived.Test.YtebgikflpgcnlaaGreatDoorT09
import Derived.Test.YtebgikflpgcnlaaGreatDoorT25
namespace Go.Proofs.YtebgikflpgcnlaaGreatDoor
set_option linter.unusedVariables false
set_option linter.unusedSimpArgs false
set_option maxRecDepth 100000
set_option maxHeartbeats 4000000
open Go.RowKit Tryz
theorem back32 (n:Int):(n==wrap64 (wrap32 n))=true↔ -2147483648≤n∧n<2147483648:=by
 rw [beq_iff_eq]
 unfold wrap64 wrap32
 omega
theorem wrap_l (n:Int):IntKind.u64.wrap n=((n%18446744073709551616).toNat:Int):=by rw [IntKind.wrap_u64];omega
theorem wrap_w (n:Int):IntKind.u64.wrap (IntKind.u32.wrap n)=((n%4294967296).toNat:Int):=by
 have h:IntKind.u32.wrap n=n%4294967296:=by simp [IntKind.wrap,IntKind.bits,IntKind.signed]
 rw [h,IntKind.wrap_u64]
 omega
section
variable {B b A hi:Nat} {w:World} {col:Nat→Nat} {v1 v2 v3 v6 v7 v8:Value} {m:ModV} {st ln:Nat} {ws:List ByteArray}
theorem info_glob3:(prog.info? 82).map (fun i=>(i.zero,i.size,i.bytes))=some (some (.agg #[.int .u8 0,.bool false,.int .u64 0]),3,16):=by kernel_rfl
theorem rd_glob_w_true {x0 x3:ByteArray} (h:MIn B b A hi w col v1 v2 v3 v6 v7 v8 m st ln [x0,wW,varW,x3]):
 Calls prog 91 #[.pointer (some ⟨b,0,none⟩),.slice (some ⟨A,0,none⟩) 4 4] w (MEnd (fun W m'=>RdM B b W m' st ln) B b w (readK 4 m [wW,varW,x3])):=by
 obtain⟨A2,c2,cells2,e2,hP⟩:=h.rd.six.p3
 subst e2
 obtain⟨i0,hi0,hz,hs',hby⟩:=info_parts info_glob3
 have hc1:=h.rd.blk.q 2 rfl
 have hw1:w.cell? ⟨A,1,none⟩=some (.string ⟨#[119]⟩):=h.wd.at_ 1 _ rfl
 have hw2:w.cell? ⟨A,2,none⟩=some (.string ⟨#[118,97,114]⟩):=h.wd.at_ 2 _ rfl
 have hw3:w.cell? ⟨A,3,none⟩=some (.string x3):=h.wd.at_ 3 _ rfl
 have hbl:=h.rd.blk.lt
 have hAl:=h.wd.lt
 have hhi:=h.hhi
 have hlow:=h.rd.low
 have htop:=h.rd.top
 have hq:=h.lens.globs
 have hb5:Below w.heap.size w (w.alloc (.cells #[.int .u8 0,.bool false,.int .u64 0] 82)).drew:=((Below.refl _ _).alloc (Nat.le_refl _) _).drew
 have k1:=(hb5.cell (p:=⟨A,1,none⟩) hAl).trans hw1
 have k2:=(hb5.cell (p:=⟨A,2,none⟩) hAl).trans hw2
 have HX:=hideIt (h.wd.sz x3 (by simp));have HE:=hideIt h.env;have HR:=hideIt h.rd;have HP:=hideIt hP
 clear h hP
 go_enter func91,ntmps91
 go_wp2_with fail
 refine(txt_count (some ⟨A,0,none⟩) 4 4 4 w).mono ?_
 rintro e w1 ⟨rfl,hends⟩
 rcases hends with⟨_,rfl⟩ | ⟨hf,_⟩
 case inr=>exact absurd hf (by decide)
 go_wp2_with fail
 refine(txt_must_yes _).mono ?_
 rintro e w1 ⟨rfl,rfl⟩
 go_wp2_with fail
 refine(txt_must_yes _).mono ?_
 rintro e w1 ⟨rfl,rfl⟩
 go_wp2_with fail
 go_region
 all_goals
  clear k1 k2 hb5
  go_wp2_with fail
  generalize hw3:World.drew _=w3
  have hb3:Below w.heap.size w w3:=by rw [←hw3];exact((Below.refl _ _).alloc (Nat.le_refl _) _).drew
  have hx3:Blk w3 w.heap.size 82 [.int .u8 119,.bool true,.int .u64 0]:=by rw [←hw3];exact(Blk.new w _ [.int .u8 119,.bool true,.int .u64 0]).drewN 1
  clear hw3
  have hsz3:=hb3.size
  refine(txt_number x3 (by have:=HX.out;omega) w3 (HE.out.up hb3 (by omega)) (by omega)).mono ?_
  rintro e w4 ⟨hb4,⟨h0,rfl⟩ | ⟨n,hn,hn63,rfl⟩⟩
  ·go_wp2_with fail
   refine⟨rfl,.inl ⟨?_,rfl,hb3.trans (hb4.mono hsz3)⟩⟩
   show(numW x3).bind _=none
   rw [h0];rfl
  have hx4:=hx3.below hb4 hx3.lt
  have HB4:=hideIt (hb3.trans (hb4.mono hsz3))
  have c0:=hx4.q 0 rfl
  have c1:=hx4.q 1 rfl
  have c3:=hx4.q 2 rfl
  have f2:=hx4.frozen 2
  have HX4:=hideIt hx4;have HN:=hideIt hn;have H63:=hideIt hn63
  have hn0:=hn63.1
  have hn1:=hn63.2
  clear hb4 hx4 hn hb3 hx3 hn63
  go_wp2_with fail
  generalize hw5:w4.setCell _ _=w5
  have hb5:Below w.heap.size w w5:=by rw [←hw5];exact HB4.out.setCell (p:=⟨w.heap.size,2,none⟩) (Nat.le_refl _) _
  have hx5:Blk w5 w.heap.size 82 [.int .u8 119,.bool true,.int .u64 (IntKind.u64.wrap n)]:=by rw [←hw5];exact HX4.out.set 2 _
  clear hw5 c0 c1 c3 f2 HX4 HB4
  refine(txt_must _ _).mono ?_
  rintro e w6 ⟨rfl,⟨h0,rfl⟩ | ⟨h0,rfl⟩⟩
  case inr=>
   go_wp2_with fail
   refine⟨rfl,.inl ⟨?_,rfl,hb5⟩⟩
   show(numW x3).bind _=none
   rw [HN.out]
   show(globR wW varW n).map _=none
   have: ¬(-2147483648≤n∧n<2147483648):=fun h=>by rw [(back32 n).2 h] at h0;cases h0
   unfold globR
   rw [if_pos (by decide),if_pos (by decide),if_neg this]
   rfl
  have HG:Hid (readK 4 m [wW,varW,x3]=some {m with globs:=m.globs++ [⟨119,true,(n%4294967296).toNat⟩]}):=hideIt (by
   show(numW x3).bind (fun n=>(globR wW varW n).map fun g=>({m with globs:=m.globs++ [g]}:ModV))=_
   rw [HN.out,Option.bind_some]
   unfold globR
   rw [if_pos (by decide),if_pos (by decide),if_pos ((back32 n).1 h0)]
   rfl)
  have hr:(n==wrap64 (wrap32 n))=true:=h0
  clear h0
  have c0:=hx5.q 0 rfl
  have c1:=hx5.q 1 rfl
  have c3:=hx5.q 2 rfl
  have f2:=hx5.frozen 2
  have HB5:=hideIt hb5;have HX5:=hideIt hx5
  clear hb5 hx5
  go_wp2_with fail
  generalize hw7:w5.setCell _ _=w7
  have hb7:Below w.heap.size w w7:=by rw [←hw7];exact HB5.out.setCell (p:=⟨w.heap.size,2,none⟩) (Nat.le_refl _) _
  have hx7:Blk w7 w.heap.size 82 [.int .u8 119,.bool true,.int .u64 (((n%4294967296).toNat:Nat):Int)]:=by
   have e:n%4294967296=(((n%4294967296).toNat:Nat):Int):=by omega
   rw [←hw7,←e];exact HX5.out.set 2 _
  clear hw7 c0 c1 c3 f2 HX5 HB5
  have HV:Hid ((n%4294967296).toNat<18446744073709551616):=hideIt (by omega)
  generalize (n%4294967296).toNat=vv at*
  have c0:=hx7.q 0 rfl
  have c1:=hx7.q 1 rfl
  have c3:=hx7.q 2 rfl
  have g1:=(hb7.cell (p:=⟨b,2,none⟩) (show b<w.heap.size by omega)).trans hc1
  have hlt7:=hx7.lt
  have hsz7:=hb7.size
  have hb8:Below w7.heap.size w7 (w7.alloc (.cells #[.int .u8 119,.bool true,.int .u64 vv] 82)).drew:=((Below.refl _ _).alloc (Nat.le_refl _) _).drew
  have HB8:=hideIt (hb7.trans (hb8.mono hsz7))
  have k1:=(hb8.cell (p:=⟨b,2,none⟩) (show b<w7.heap.size by omega)).trans g1
  have kx0:=(hb8.cell (p:=⟨w.heap.size,0,none⟩) hlt7).trans c0
  have kx1:=(hb8.cell (p:=⟨w.heap.size,1,none⟩) hlt7).trans c1
  have kx2:=(hb8.cell (p:=⟨w.heap.size,2,none⟩) hlt7).trans c3
  have HO8:=hideIt (own_keptz HP.out.own HB8.out)
  have Hrow:Hid (Row (w7.alloc (.cells #[.int .u8 119,.bool true,.int .u64 vv] 82)).drew (w7.heap.size+1) (some ⟨w7.heap.size,0,none⟩) [.int .u8 119,.bool true,.int .u64 vv]):=hideIt (row_cells w7 [.int .u8 119,.bool true,.int .u64 vv] 82)
  clear hb8 hx7 hb7
  go_wp2_with fail
  go_region_law (refine step_appz rfl (.tmp 64) (.tmp 66) 24 rfl B 82 i0 _ 3 16 underlying24 hi0 hz hs' hby rfl (by omega) _ m.globs.length cells2 rfl HO8.out (w7.heap.size+1) _ 1 1 [.int .u8 119,.bool true,.int .u64 vv] rfl rfl Hrow.out (by intro u hu;simp at hu;rcases hu with rfl | rfl | rfl<;>rfl) (by unfold maxLen;omega) (by omega) (by simp;omega) ?_;intro A4 c4 w9 h2 h3 h4;have hbl4:=HR.out.old HB8.out h3 (fun g e=>(HP.out.lt g e).1);have hf4:=hbl4.frozen 2;have hc4:=hbl4.cell 2;have H2:=hideIt h2;have H3:=hideIt h3;have H4:=hideIt h4;clear h2 h3 h4 hbl4)
  all_goals
   go_end0
   refine .inr ⟨_,HG.out,rfl,HR.out.push3 HP.out HB8.out (lo:=w.heap.size) (hi:=w.heap.size) (x:=⟨119,true,vv⟩) (rGlob_iff.2 ⟨rfl,HV.out⟩) (Nat.le_refl _) (by simp;omega) H2.out H3.out H4.out⟩
theorem rd_glob_w_false {x0 x3:ByteArray} (h:MIn B b A hi w col v1 v2 v3 v6 v7 v8 m st ln [x0,wW,constW,x3]):
 Calls prog 91 #[.pointer (some ⟨b,0,none⟩),.slice (some ⟨A,0,none⟩) 4 4] w (MEnd (fun W m'=>RdM B b W m' st ln) B b w (readK 4 m [wW,constW,x3])):=by
 obtain⟨A2,c2,cells2,e2,hP⟩:=h.rd.six.p3
 subst e2
 obtain⟨i0,hi0,hz,hs',hby⟩:=info_parts info_glob3
 have hc1:=h.rd.blk.q 2 rfl
 have hw1:w.cell? ⟨A,1,none⟩=some (.string ⟨#[119]⟩):=h.wd.at_ 1 _ rfl
 have hw2:w.cell? ⟨A,2,none⟩=some (.string ⟨#[99,111,110,115,116]⟩):=h.wd.at_ 2 _ rfl
 have hw3:w.cell? ⟨A,3,none⟩=some (.string x3):=h.wd.at_ 3 _ rfl
 have hbl:=h.rd.blk.lt
 have hAl:=h.wd.lt
 have hhi:=h.hhi
 have hlow:=h.rd.low
 have htop:=h.rd.top
 have hq:=h.lens.globs
 have hb5:Below w.heap.size w (w.alloc (.cells #[.int .u8 0,.bool false,.int .u64 0] 82)).drew:=((Below.refl _ _).alloc (Nat.le_refl _) _).drew
 have k1:=(hb5.cell (p:=⟨A,1,none⟩) hAl).trans hw1
 have k2:=(hb5.cell (p:=⟨A,2,none⟩) hAl).trans hw2
 have HX:=hideIt (h.wd.sz x3 (by simp));have HE:=hideIt h.env;have HR:=hideIt h.rd;have HP:=hideIt hP
 clear h hP
 go_enter func91,ntmps91
 go_wp2_with fail
 refine(txt_count (some ⟨A,0,none⟩) 4 4 4 w).mono ?_
 rintro e w1 ⟨rfl,hends⟩
 rcases hends with⟨_,rfl⟩ | ⟨hf,_⟩
 case inr=>exact absurd hf (by decide)
 go_wp2_with fail
 refine(txt_must_yes _).mono ?_
 rintro e w1 ⟨rfl,rfl⟩
 go_wp2_with fail
 refine(txt_must_yes _).mono ?_
 rintro e w1 ⟨rfl,rfl⟩
 go_wp2_with fail
 go_region
 all_goals
  clear k1 k2 hb5
  go_wp2_with fail
  generalize hw3:World.drew _=w3
  have hb3:Below w.heap.size w w3:=by rw [←hw3];exact((Below.refl _ _).alloc (Nat.le_refl _) _).drew
  have hx3:Blk w3 w.heap.size 82 [.int .u8 119,.bool false,.int .u64 0]:=by rw [←hw3];exact(Blk.new w _ [.int .u8 119,.bool false,.int .u64 0]).drewN 1
  clear hw3
  have hsz3:=hb3.size
  refine(txt_number x3 (by have:=HX.out;omega) w3 (HE.out.up hb3 (by omega)) (by omega)).mono ?_
  rintro e w4 ⟨hb4,⟨h0,rfl⟩ | ⟨n,hn,hn63,rfl⟩⟩
  ·go_wp2_with fail
   refine⟨rfl,.inl ⟨?_,rfl,hb3.trans (hb4.mono hsz3)⟩⟩
   show(numW x3).bind _=none
   rw [h0];rfl
  have hx4:=hx3.below hb4 hx3.lt
  have HB4:=hideIt (hb3.trans (hb4.mono hsz3))
  have c0:=hx4.q 0 rfl
  have c1:=hx4.q 1 rfl
  have c3:=hx4.q 2 rfl
  have f2:=hx4.frozen 2
  have HX4:=hideIt hx4;have HN:=hideIt hn;have H63:=hideIt hn63
  have hn0:=hn63.1
  have hn1:=hn63.2
  clear hb4 hx4 hn hb3 hx3 hn63
  go_wp2_with fail
  generalize hw5:w4.setCell _ _=w5
  have hb5:Below w.heap.size w w5:=by rw [←hw5];exact HB4.out.setCell (p:=⟨w.heap.size,2,none⟩) (Nat.le_refl _) _
  have hx5:Blk w5 w.heap.size 82 [.int .u8 119,.bool false,.int .u64 (IntKind.u64.wrap n)]:=by rw [←hw5];exact HX4.out.set 2 _
  clear hw5 c0 c1 c3 f2 HX4 HB4
  refine(txt_must _ _).mono ?_
  rintro e w6 ⟨rfl,⟨h0,rfl⟩ | ⟨h0,rfl⟩⟩
  case inr=>
   go_wp2_with fail
   refine⟨rfl,.inl ⟨?_,rfl,hb5⟩⟩
   show(numW x3).bind _=none
   rw [HN.out]
   show(globR wW constW n).map _=none
   have: ¬(-2147483648≤n∧n<2147483648):=fun h=>by rw [(back32 n).2 h] at h0;cases h0
   unfold globR
   rw [if_pos (by decide),if_pos (by decide),if_neg this]
   rfl
  have HG:Hid (readK 4 m [wW,constW,x3]=some {m with globs:=m.globs++ [⟨119,false,(n%4294967296).toNat⟩]}):=hideIt (by
   show(numW x3).bind (fun n=>(globR wW constW n).map fun g=>({m with globs:=m.globs++ [g]}:ModV))=_
   rw [HN.out,Option.bind_some]
   unfold globR
   rw [if_pos (by decide),if_pos (by decide),if_pos ((back32 n).1 h0)]
   rfl)
  have hr:(n==wrap64 (wrap32 n))=true:=h0
  clear h0
  have c0:=hx5.q 0 rfl
  have c1:=hx5.q 1 rfl
  have c3:=hx5.q 2 rfl
  have f2:=hx5.frozen 2
  have HB5:=hideIt hb5;have HX5:=hideIt hx5
  clear hb5 hx5
  go_wp2_with fail
  generalize hw7:w5.setCell _ _=w7
  have hb7:Below w.heap.size w w7:=by rw [←hw7];exact HB5.out.setCell (p:=⟨w.heap.size,2,none⟩) (Nat.le_refl _) _
  have hx7:Blk w7 w.heap.size 82 [.int .u8 119,.bool false,.int .u64 (((n%4294967296).toNat:Nat):Int)]:=by
   have e:n%4294967296=(((n%4294967296).toNat:Nat):Int):=by omega
   rw [←hw7,←e];exact HX5.out.set 2 _
  clear hw7 c0 c1 c3 f2 HX5 HB5
  have HV:Hid ((n%4294967296).toNat<18446744073709551616):=hideIt (by omega)
  generalize (n%4294967296).toNat=vv at*
  have c0:=hx7.q 0 rfl
  have c1:=hx7.q 1 rfl
  have c3:=hx7.q 2 rfl
  have g1:=(hb7.cell (p:=⟨b,2,none⟩) (show b<w.heap.size by omega)).trans hc1
  have hlt7:=hx7.lt
  have hsz7:=hb7.size
  have hb8:Below w7.heap.size w7 (w7.alloc (.cells #[.int .u8 119,.bool false,.int .u64 vv] 82)).drew:=((Below.refl _ _).alloc (Nat.le_refl _) _).drew
  have HB8:=hideIt (hb7.trans (hb8.mono hsz7))
  have k1:=(hb8.cell (p:=⟨b,2,none⟩) (show b<w7.heap.size by omega)).trans g1
  have kx0:=(hb8.cell (p:=⟨w.heap.size,0,none⟩) hlt7).trans c0
  have kx1:=(hb8.cell (p:=⟨w.heap.size,1,none⟩) hlt7).trans c1
  have kx2:=(hb8.cell (p:=⟨w.heap.size,2,none⟩) hlt7).trans c3
  have HO8:=hideIt (own_keptz HP.out.own HB8.out)
  have Hrow:Hid (Row (w7.alloc (.cells #[.int .u8 119,.bool false,.int .u64 vv] 82)).drew (w7.heap.size+1) (some ⟨w7.heap.size,0,none⟩) [.int .u8 119,.bool false,.int .u64 vv]):=hideIt (row_cells w7 [.int .u8 119,.bool false,.int .u64 vv] 82)
  clear hb8 hx7 hb7
  go_wp2_with fail
  go_region_law (refine step_appz rfl (.tmp 64) (.tmp 66) 24 rfl B 82 i0 _ 3 16 underlying24 hi0 hz hs' hby rfl (by omega) _ m.globs.length cells2 rfl HO8.out (w7.heap.size+1) _ 1 1 [.int .u8 119,.bool false,.int .u64 vv] rfl rfl Hrow.out (by intro u hu;simp at hu;rcases hu with rfl | rfl | rfl<;>rfl) (by unfold maxLen;omega) (by omega) (by simp;omega) ?_;intro A4 c4 w9 h2 h3 h4;have hbl4:=HR.out.old HB8.out h3 (fun g e=>(HP.out.lt g e).1);have hf4:=hbl4.frozen 2;have hc4:=hbl4.cell 2;have H2:=hideIt h2;have H3:=hideIt h3;have H4:=hideIt h4;clear h2 h3 h4 hbl4)
  all_goals
   go_end0
   refine .inr ⟨_,HG.out,rfl,HR.out.push3 HP.out HB8.out (lo:=w.heap.size) (hi:=w.heap.size) (x:=⟨119,false,vv⟩) (rGlob_iff.2 ⟨rfl,HV.out⟩) (Nat.le_refl _) (by simp;omega) H2.out H3.out H4.out⟩
theorem rd_glob_l_true {x0 x3:ByteArray} (h:MIn B b A hi w col v1 v2 v3 v6 v7 v8 m st ln [x0,lW,varW,x3]):
 Calls prog 91 #[.pointer (some ⟨b,0,none⟩),.slice (some ⟨A,0,none⟩) 4 4] w (MEnd (fun W m'=>RdM B b W m' st ln) B b w (readK 4 m [lW,varW,x3])):=by
 obtain⟨A2,c2,cells2,e2,hP⟩:=h.rd.six.p3
 subst e2
 obtain⟨i0,hi0,hz,hs',hby⟩:=info_parts info_glob3
 have hc1:=h.rd.blk.q 2 rfl
 have hw1:w.cell? ⟨A,1,none⟩=some (.string ⟨#[108]⟩):=h.wd.at_ 1 _ rfl
 have hw2:w.cell? ⟨A,2,none⟩=some (.string ⟨#[118,97,114]⟩):=h.wd.at_ 2 _ rfl
 have hw3:w.cell? ⟨A,3,none⟩=some (.string x3):=h.wd.at_ 3 _ rfl
 have hbl:=h.rd.blk.lt
 have hAl:=h.wd.lt
 have hhi:=h.hhi
 have hlow:=h.rd.low
 have htop:=h.rd.top
 have hq:=h.lens.globs
 have hb5:Below w.heap.size w (w.alloc (.cells #[.int .u8 0,.bool false,.int .u64 0] 82)).drew:=((Below.refl _ _).alloc (Nat.le_refl _) _).drew
 have k1:=(hb5.cell (p:=⟨A,1,none⟩) hAl).trans hw1
 have k2:=(hb5.cell (p:=⟨A,2,none⟩) hAl).trans hw2
 have HX:=hideIt (h.wd.sz x3 (by simp));have HE:=hideIt h.env;have HR:=hideIt h.rd;have HP:=hideIt hP
 clear h hP
 go_enter func91,ntmps91
 go_wp2_with fail
 refine(txt_count (some ⟨A,0,none⟩) 4 4 4 w).mono ?_
 rintro e w1 ⟨rfl,hends⟩
 rcases hends with⟨_,rfl⟩ | ⟨hf,_⟩
 case inr=>exact absurd hf (by decide)
 go_wp2_with fail
 refine(txt_must_yes _).mono ?_
 rintro e w1 ⟨rfl,rfl⟩
 go_wp2_with fail
 refine(txt_must_yes _).mono ?_
 rintro e w1 ⟨rfl,rfl⟩
 go_wp2_with fail
 go_region
 all_goals
  clear k1 k2 hb5
  go_wp2_with fail
  generalize hw3:World.drew _=w3
  have hb3:Below w.heap.size w w3:=by rw [←hw3];exact((Below.refl _ _).alloc (Nat.le_refl _) _).drew
  have hx3:Blk w3 w.heap.size 82 [.int .u8 108,.bool true,.int .u64 0]:=by rw [←hw3];exact(Blk.new w _ [.int .u8 108,.bool true,.int .u64 0]).drewN 1
  clear hw3
  have hsz3:=hb3.size
  refine(txt_number x3 (by have:=HX.out;omega) w3 (HE.out.up hb3 (by omega)) (by omega)).mono ?_
  rintro e w4 ⟨hb4,⟨h0,rfl⟩ | ⟨n,hn,hn63,rfl⟩⟩
  ·go_wp2_with fail
   refine⟨rfl,.inl ⟨?_,rfl,hb3.trans (hb4.mono hsz3)⟩⟩
   show(numW x3).bind _=none
   rw [h0];rfl
  have hx4:=hx3.below hb4 hx3.lt
  have HB4:=hideIt (hb3.trans (hb4.mono hsz3))
  have c0:=hx4.q 0 rfl
  have c1:=hx4.q 1 rfl
  have c3:=hx4.q 2 rfl
  have f2:=hx4.frozen 2
  have HX4:=hideIt hx4;have HN:=hideIt hn;have H63:=hideIt hn63
  have hn0:=hn63.1
  have hn1:=hn63.2
  clear hb4 hx4 hn hb3 hx3 hn63
  go_wp2_with fail
  generalize hw7:w4.setCell _ _=w7
  have hb7:Below w.heap.size w w7:=by rw [←hw7];exact HB4.out.setCell (p:=⟨w.heap.size,2,none⟩) (Nat.le_refl _) _
  have hx7:Blk w7 w.heap.size 82 [.int .u8 108,.bool true,.int .u64 (((n%18446744073709551616).toNat:Nat):Int)]:=by rw [←hw7,←wrap_l];exact HX4.out.set 2 _
  clear hw7 c0 c1 c3 f2 HX4 HB4
  have HG:Hid (readK 4 m [lW,varW,x3]=some {m with globs:=m.globs++ [⟨108,true,(n%18446744073709551616).toNat⟩]}):=hideIt (by
   show(numW x3).bind (fun n=>(globR lW varW n).map fun g=>({m with globs:=m.globs++ [g]}:ModV))=_
   rw [HN.out,Option.bind_some]
   unfold globR
   rw [if_pos (by decide),if_neg (by decide)]
   rfl)
  have HV:Hid ((n%18446744073709551616).toNat<18446744073709551616):=hideIt (by omega)
  generalize (n%18446744073709551616).toNat=vv at*
  have c0:=hx7.q 0 rfl
  have c1:=hx7.q 1 rfl
  have c3:=hx7.q 2 rfl
  have g1:=(hb7.cell (p:=⟨b,2,none⟩) (show b<w.heap.size by omega)).trans hc1
  have hlt7:=hx7.lt
  have hsz7:=hb7.size
  have hb8:Below w7.heap.size w7 (w7.alloc (.cells #[.int .u8 108,.bool true,.int .u64 vv] 82)).drew:=((Below.refl _ _).alloc (Nat.le_refl _) _).drew
  have HB8:=hideIt (hb7.trans (hb8.mono hsz7))
  have k1:=(hb8.cell (p:=⟨b,2,none⟩) (show b<w7.heap.size by omega)).trans g1
  have kx0:=(hb8.cell (p:=⟨w.heap.size,0,none⟩) hlt7).trans c0
  have kx1:=(hb8.cell (p:=⟨w.heap.size,1,none⟩) hlt7).trans c1
  have kx2:=(hb8.cell (p:=⟨w.heap.size,2,none⟩) hlt7).trans c3
  have HO8:=hideIt (own_keptz HP.out.own HB8.out)
  have Hrow:Hid (Row (w7.alloc (.cells #[.int .u8 108,.bool true,.int .u64 vv] 82)).drew (w7.heap.size+1) (some ⟨w7.heap.size,0,none⟩) [.int .u8 108,.bool true,.int .u64 vv]):=hideIt (row_cells w7 [.int .u8 108,.bool true,.int .u64 vv] 82)
  clear hb8 hx7 hb7
  go_wp2_with fail
  go_region_law (refine step_appz rfl (.tmp 64) (.tmp 66) 24 rfl B 82 i0 _ 3 16 underlying24 hi0 hz hs' hby rfl (by omega) _ m.globs.length cells2 rfl HO8.out (w7.heap.size+1) _ 1 1 [.int .u8 108,.bool true,.int .u64 vv] rfl rfl Hrow.out (by intro u hu;simp at hu;rcases hu with rfl | rfl | rfl<;>rfl) (by unfold maxLen;omega) (by omega) (by simp;omega) ?_;intro A4 c4 w9 h2 h3 h4;have hbl4:=HR.out.old HB8.out h3 (fun g e=>(HP.out.lt g e).1);have hf4:=hbl4.frozen 2;have hc4:=hbl4.cell 2;have H2:=hideIt h2;have H3:=hideIt h3;have H4:=hideIt h4;clear h2 h3 h4 hbl4)
  all_goals
   go_end0
   refine .inr ⟨_,HG.out,rfl,HR.out.push3 HP.out HB8.out (lo:=w.heap.size) (hi:=w.heap.size) (x:=⟨108,true,vv⟩) (rGlob_iff.2 ⟨rfl,HV.out⟩) (Nat.le_refl _) (by simp;omega) H2.out H3.out H4.out⟩
theorem rd_glob_l_false {x0 x3:ByteArray} (h:MIn B b A hi w col v1 v2 v3 v6 v7 v8 m st ln [x0,lW,constW,x3]):
 Calls prog 91 #[.pointer (some ⟨b,0,none⟩),.slice (some ⟨A,0,none⟩) 4 4] w (MEnd (fun W m'=>RdM B b W m' st ln) B b w (readK 4 m [lW,constW,x3])):=by
 obtain⟨A2,c2,cells2,e2,hP⟩:=h.rd.six.p3
 subst e2
 obtain⟨i0,hi0,hz,hs',hby⟩:=info_parts info_glob3
 have hc1:=h.rd.blk.q 2 rfl
 have hw1:w.cell? ⟨A,1,none⟩=some (.string ⟨#[108]⟩):=h.wd.at_ 1 _ rfl
 have hw2:w.cell? ⟨A,2,none⟩=some (.string ⟨#[99,111,110,115,116]⟩):=h.wd.at_ 2 _ rfl
 have hw3:w.cell? ⟨A,3,none⟩=some (.string x3):=h.wd.at_ 3 _ rfl
 have hbl:=h.rd.blk.lt
 have hAl:=h.wd.lt
 have hhi:=h.hhi
 have hlow:=h.rd.low
 have htop:=h.rd.top
 have hq:=h.lens.globs
 have hb5:Below w.heap.size w (w.alloc (.cells #[.int .u8 0,.bool false,.int .u64 0] 82)).drew:=((Below.refl _ _).alloc (Nat.le_refl _) _).drew
 have k1:=(hb5.cell (p:=⟨A,1,none⟩) hAl).trans hw1
 have k2:=(hb5.cell (p:=⟨A,2,none⟩) hAl).trans hw2
 have HX:=hideIt (h.wd.sz x3 (by simp));have HE:=hideIt h.env;have HR:=hideIt h.rd;have HP:=hideIt hP
 clear h hP
 go_enter func91,ntmps91
 go_wp2_with fail
 refine(txt_count (some ⟨A,0,none⟩) 4 4 4 w).mono ?_
 rintro e w1 ⟨rfl,hends⟩
 rcases hends with⟨_,rfl⟩ | ⟨hf,_⟩
 case inr=>exact absurd hf (by decide)
 go_wp2_with fail
 refine(txt_must_yes _).mono ?_
 rintro e w1 ⟨rfl,rfl⟩
 go_wp2_with fail
 refine(txt_must_yes _).mono ?_
 rintro e w1 ⟨rfl,rfl⟩
 go_wp2_with fail
 go_region
 all_goals
  clear k1 k2 hb5
  go_wp2_with fail
  generalize hw3:World.drew _=w3
  have hb3:Below w.heap.size w w3:=by rw [←hw3];exact((Below.refl _ _).alloc (Nat.le_refl _) _).drew
  have hx3:Blk w3 w.heap.size 82 [.int .u8 108,.bool false,.int .u64 0]:=by rw [←hw3];exact(Blk.new w _ [.int .u8 108,.bool false,.int .u64 0]).drewN 1
  clear hw3
  have hsz3:=hb3.size
  refine(txt_number x3 (by have:=HX.out;omega) w3 (HE.out.up hb3 (by omega)) (by omega)).mono ?_
  rintro e w4 ⟨hb4,⟨h0,rfl⟩ | ⟨n,hn,hn63,rfl⟩⟩
  ·go_wp2_with fail
   refine⟨rfl,.inl ⟨?_,rfl,hb3.trans (hb4.mono hsz3)⟩⟩
   show(numW x3).bind _=none
   rw [h0];rfl
  have hx4:=hx3.below hb4 hx3.lt
  have HB4:=hideIt (hb3.trans (hb4.mono hsz3))
  have c0:=hx4.q 0 rfl
  have c1:=hx4.q 1 rfl
  have c3:=hx4.q 2 rfl
  have f2:=hx4.frozen 2
  have HX4:=hideIt hx4;have HN:=hideIt hn;have H63:=hideIt hn63
  have hn0:=hn63.1
  have hn1:=hn63.2
  clear hb4 hx4 hn hb3 hx3 hn63
  go_wp2_with fail
  generalize hw7:w4.setCell _ _=w7
  have hb7:Below w.heap.size w w7:=by rw [←hw7];exact HB4.out.setCell (p:=⟨w.heap.size,2,none⟩) (Nat.le_refl _) _
  have hx7:Blk w7 w.heap.size 82 [.int .u8 108,.bool false,.int .u64 (((n%18446744073709551616).toNat:Nat):Int)]:=by rw [←hw7,←wrap_l];exact HX4.out.set 2 _
  clear hw7 c0 c1 c3 f2 HX4 HB4
  have HG:Hid (readK 4 m [lW,constW,x3]=some {m with globs:=m.globs++ [⟨108,false,(n%18446744073709551616).toNat⟩]}):=hideIt (by
   show(numW x3).bind (fun n=>(globR lW constW n).map fun g=>({m with globs:=m.globs++ [g]}:ModV))=_
   rw [HN.out,Option.bind_some]
   unfold globR
   rw [if_pos (by decide),if_neg (by decide)]
   rfl)
  have HV:Hid ((n%18446744073709551616).toNat<18446744073709551616):=hideIt (by omega)
  generalize (n%18446744073709551616).toNat=vv at*
  have c0:=hx7.q 0 rfl
  have c1:=hx7.q 1 rfl
  have c3:=hx7.q 2 rfl
  have g1:=(hb7.cell (p:=⟨b,2,none⟩) (show b<w.heap.size by omega)).trans hc1
  have hlt7:=hx7.lt
  have hsz7:=hb7.size
  have hb8:Below w7.heap.size w7 (w7.alloc (.cells #[.int .u8 108,.bool false,.int .u64 vv] 82)).drew:=((Below.refl _ _).alloc (Nat.le_refl _) _).drew
  have HB8:=hideIt (hb7.trans (hb8.mono hsz7))
  have k1:=(hb8.cell (p:=⟨b,2,none⟩) (show b<w7.heap.size by omega)).trans g1
  have kx0:=(hb8.cell (p:=⟨w.heap.size,0,none⟩) hlt7).trans c0
  have kx1:=(hb8.cell (p:=⟨w.heap.size,1,none⟩) hlt7).trans c1
  have kx2:=(hb8.cell (p:=⟨w.heap.size,2,none⟩) hlt7).trans c3
  have HO8:=hideIt (own_keptz HP.out.own HB8.out)
  have Hrow:Hid (Row (w7.alloc (.cells #[.int .u8 108,.bool false,.int .u64 vv] 82)).drew (w7.heap.size+1) (some ⟨w7.heap.size,0,none⟩) [.int .u8 108,.bool false,.int .u64 vv]):=hideIt (row_cells w7 [.int .u8 108,.bool false,.int .u64 vv] 82)
  clear hb8 hx7 hb7
  go_wp2_with fail
  go_region_law (refine step_appz rfl (.tmp 64) (.tmp 66) 24 rfl B 82 i0 _ 3 16 underlying24 hi0 hz hs' hby rfl (by omega) _ m.globs.length cells2 rfl HO8.out (w7.heap.size+1) _ 1 1 [.int .u8 108,.bool false,.int .u64 vv] rfl rfl Hrow.out (by intro u hu;simp at hu;rcases hu with rfl | rfl | rfl<;>rfl) (by unfold maxLen;omega) (by omega) (by simp;omega) ?_;intro A4 c4 w9 h2 h3 h4;have hbl4:=HR.out.old HB8.out h3 (fun g e=>(HP.out.lt g e).1);have hf4:=hbl4.frozen 2;have hc4:=hbl4.cell 2;have H2:=hideIt h2;have H3:=hideIt h3;have H4:=hideIt h4;clear h2 h3 h4 hbl4)
  all_goals
   go_end0
   refine .inr ⟨_,HG.out,rfl,HR.out.push3 HP.out HB8.out (lo:=w.heap.size) (hi:=w.heap.size) (x:=⟨108,false,vv⟩) (rGlob_iff.2 ⟨rfl,HV.out⟩) (Nat.le_refl _) (by simp;omega) H2.out H3.out H4.out⟩
theorem rd_glob_bad {x0 x1 x2 x3:ByteArray} (h:MIn B b A hi w col v1 v2 v3 v6 v7 v8 m st ln [x0,x1,x2,x3]) (hb: ¬((x1=wW∨x1=lW)∧(x2=varW∨x2=constW))) (Inv:World→ModV→Prop):
 Calls prog 91 #[.pointer (some ⟨b,0,none⟩),.slice (some ⟨A,0,none⟩) 4 4] w (MEnd Inv B b w (readK 4 m [x1,x2,x3])):=by
 have HG:Hid (readK 4 m [x1,x2,x3]=none):=hideIt (by
  show(numW x3).bind _=none
  cases numW x3 with
  | none=>rfl
  | some n=>
   show(globR x1 x2 n).map _=none
   unfold globR
   rw [if_neg hb]
   rfl)
 have hw1:w.cell? ⟨A,1,none⟩=some (.string x1):=h.wd.at_ 1 _ rfl
 have hw2:w.cell? ⟨A,2,none⟩=some (.string x2):=h.wd.at_ 2 _ rfl
 have hs: ∀(x:ByteArray) (l:List UInt8),x≠⟨l.toArray⟩→(x.toList==l)=false:=fun x l hn=>by
  rw [beq_eq_false_iff_ne,ByteArray.toList_eq]
  intro e
  apply hn
  cases x
  simp at e
  subst e
  simp
 clear h
 go_enter func91,ntmps91
 go_wp2_with fail
 refine(txt_count (some ⟨A,0,none⟩) 4 4 4 w).mono ?_
 rintro e w1 ⟨rfl,hends⟩
 rcases hends with⟨_,rfl⟩ | ⟨hf,_⟩
 case inr=>exact absurd hf (by decide)
 by_cases h1:x1=wW∨x1=lW
 case neg=>
  have e1:(x1.toList== [119])=false:=hs x1 [119] (fun e=>h1 (.inl e))
  have e2:(x1.toList== [108])=false:=hs x1 [108] (fun e=>h1 (.inr e))
  clear hb hs h1
  go_wp2_with fail
  refine(txt_must_no _).mono ?_
  rintro e w1 ⟨rfl,rfl⟩
  go_wp2_with fail
  exact⟨rfl,.inl ⟨HG.out,rfl,Below.refl _ _⟩⟩
 have e3:(x2.toList== [118,97,114])=false:=hs x2 [118,97,114] (fun e=>hb ⟨h1,.inl e⟩)
 have e4:(x2.toList== [99,111,110,115,116])=false:=hs x2 [99,111,110,115,116] (fun e=>hb ⟨h1,.inr e⟩)
 have hx1: ∃l,(l=119∨l=108)∧x1=⟨#[l]⟩:=h1.elim (fun e=>⟨119,.inl rfl,e⟩) (fun e=>⟨108,.inr rfl,e⟩)
 clear hb hs h1
 obtain⟨l,rfl | rfl,rfl⟩:=hx1
 all_goals
  go_wp2_with fail
  refine(txt_must_yes _).mono ?_
  rintro e w1 ⟨rfl,rfl⟩
  go_wp2_with fail
  refine(txt_must_no _).mono ?_
  rintro e w1 ⟨rfl,rfl⟩
  go_wp2_with fail
  exact⟨rfl,.inl ⟨HG.out,rfl,Below.refl _ _⟩⟩
theorem rd_global_len (h0:ws≠ []) (hk:ws.length≠4) (Inv:World→ModV→Prop):
 Calls prog 91 #[.pointer (some ⟨b,0,none⟩),.slice (some ⟨A,0,none⟩) ws.length ws.length] w (MEnd Inv B b w (readK 4 m ws.tail)):=by
 have HN:=hideIt (readK_len (m:=m) (p:=4) (k:=4) (by decide) h0 hk)
 have HK:Hid (decide (ws.length=4)=false):=hideIt (decide_eq_false hk)
 clear h0 hk
 go_enter func91,ntmps91
 go_wp2_with fail
 refine(txt_count (some ⟨A,0,none⟩) ws.length ws.length 4 w).mono ?_
 rintro e w1 ⟨rfl,⟨h1,rfl⟩ | ⟨h1,rfl⟩⟩
 ·rw [HK.out] at h1;cases h1
 go_wp2_with fail
 exact⟨rfl,.inl ⟨HN.out,rfl,Below.refl _ _⟩⟩
theorem rd_global (h:MIn B b A hi w col v1 v2 v3 v6 v7 v8 m st ln ws) (h0:ws≠ []):
 Calls prog 91 #[.pointer (some ⟨b,0,none⟩),.slice (some ⟨A,0,none⟩) ws.length ws.length] w (MEnd (fun W m'=>RdM B b W m' st ln) B b w (readK 4 m ws.tail)):=by
 by_cases hk:ws.length=4
 case neg=>exact rd_global_len h0 hk _
 obtain⟨x0,x1,x2,x3,rfl⟩:=len4 hk
 by_cases hb:(x1=wW∨x1=lW)∧(x2=varW∨x2=constW)
 case neg=>exact rd_glob_bad h hb _
 obtain⟨rfl | rfl,rfl | rfl⟩:=hb
 ·exact rd_glob_w_true h
 ·exact rd_glob_w_false h
 ·exact rd_glob_l_true h
 ·exact rd_glob_l_false h
end
theorem info_dat3:(prog.info? 59).map (fun i=>(i.zero,i.size,i.bytes))=some (some (.agg #[.int .i64 0,.slice none 0 0]),2,32):=by kernel_rfl
def DtRel (x:ByteArray) (n:Int) (w:World) (h:Nat) (i:Value) (wr:World):Prop:=
 ∃(k j:Nat) (A:Option Addr) (c:Nat) (bs:List UInt8),j=2*k∧j≤x.size∧i= .int .i64 (j:Nat)∧Below w.heap.size w wr∧Blk wr h 59 [.int .i64 n,.slice A k c]∧wr.ownsRow (h+1) 5 1 (.slice A k c) k (bs.map bv)∧bs.length=k∧hexR (x.data.toList.take (2*k))=some bs
theorem or_hex {a b:Nat} (ha:a<16) (hb:b<16):bits BinOp.or IntKind.i64 ((a:Int)*16) (b:Int)%256=((UInt8.ofNat (16*a+b)).toNat:Int):=by
 have h: ∀x y:Fin 16,bits BinOp.or IntKind.i64 ((x.1:Int)*16) (y.1:Int)%256=((UInt8.ofNat (16*x.1+y.1)).toNat:Int):=by decide+kernel
 exact h ⟨a,ha⟩ ⟨b,hb⟩
def dgt (c:UInt8):Int:=match hexV c with
 | some v=>(v:Int)
 | none=> -1
theorem txt_digit (c:UInt8) (W:World):Calls prog 143 #[.string ⟨#[48,49,50,51,52,53,54,55,56,57,97,98,99,100,101,102]⟩,.int .u8 (c.toNat:Int)] W fun e w'=>W=w'∧e= .returned (.int .i64 (dgt c)):=by
 refine(strings_IndexByte digB (c.toNat:Int) W).mono ?_
 rintro e w' ⟨rfl,rfl⟩
 refine⟨rfl,?_⟩
 have h:((c.toNat:Int)).toNat.toUInt8=c:=by simp
 rw [h,idx_hex]
 rfl
section
variable {B b A hi:Nat} {w:World} {col:Nat→Nat} {v1 v2 v3 v6 v7 v8:Value} {m:ModV} {st ln:Nat} {ws:List ByteArray}
theorem rd_data_x {x0 x1 x2:ByteArray} (h:MIn B b A hi w col v1 v2 v3 v6 v7 v8 m st ln [x0,x1,x2]):
 Calls prog 94 #[.pointer (some ⟨b,0,none⟩),.slice (some ⟨A,0,none⟩) 3 3] w (MEnd (fun W m'=>RdM B b W m' st ln) B b w (readK 7 m [x1,x2])):=by
 obtain⟨A2,c2,cells2,e2,hP⟩:=h.rd.six.p7
 subst e2
 have hc1:=h.rd.blk.q 6 rfl
 have hw1:w.cell? ⟨A,1,none⟩=some (.string x1):=h.wd.at_ 1 _ rfl
 have hw2:w.cell? ⟨A,2,none⟩=some (.string x2):=h.wd.at_ 2 _ rfl
 have hAl:=h.wd.lt
 have hbl:=h.rd.blk.lt
 have hhi:=h.hhi
 have hq:=h.lens.dat
 have hx2:=h.wd.sz x2 (by simp)
 have HX1:=hideIt (h.wd.sz x1 (by simp));have HE:=hideIt h.env;have HR:=hideIt h.rd;have HP:=hideIt hP
 have hlow:=h.rd.low
 have htop:=h.rd.top
 have HNO1:Hid (numW x1=none→readK 7 m [x1,x2]=none):=hideIt fun h=>by show(numW x1).bind _=none;rw [h];rfl
 have HNO2:Hid (hexR x2.data.toList=none→readK 7 m [x1,x2]=none):=hideIt fun h=>by show(numW x1).bind (fun n=>(hexR x2.data.toList).map fun b=>({m with dat:=m.dat++ [⟨n,b⟩]}:ModV))=none;rw [h];cases numW x1<;>rfl
 have HYES:Hid (∀a l,numW x1=some a→hexR x2.data.toList=some l→readK 7 m [x1,x2]=some {m with dat:=m.dat++ [⟨a,l⟩]}):=hideIt fun a l h1 h2=>by show(numW x1).bind (fun n=>(hexR x2.data.toList).map fun b=>({m with dat:=m.dat++ [⟨n,b⟩]}:ModV))=_;rw [h1,h2];rfl
 clear h hP
 go_enter func94,ntmps94
 go_wp2_with fail
 refine(txt_count (some ⟨A,0,none⟩) 3 3 3 w).mono ?_
 rintro e w1 ⟨rfl,hends⟩
 rcases hends with⟨_,rfl⟩ | ⟨hf,_⟩
 case inr=>exact absurd hf (by decide)
 go_wp2_with fail
 refine(txt_number x1 (by have:=HX1.out;omega) w (HE.out) (by omega)).mono ?_
 rintro e w2 ⟨hb2,⟨h0,rfl⟩ | ⟨n,hn,hm,rfl⟩⟩
 ·go_wp2_with fail
  exact⟨rfl,.inl ⟨HNO1.out h0,rfl,hb2⟩⟩
 have HN:=hideIt hn;have HM:=hideIt hm
 have HB2:=hideIt hb2
 have hw22:=(hb2.cell (p:=⟨A,2,none⟩) hAl).trans hw2
 have hsz2:=hb2.size
 have hw23: ∀o:Obj,(w2.alloc o).cell? ⟨A,2,none⟩=some (.string x2):=fun o=>(((Below.refl w2.heap.size w2).alloc (Nat.le_refl _) o).cell (p:=⟨A,2,none⟩) (show A<w2.heap.size by omega)).trans hw22
 have hw24:=hw23 (.cells #[.int .i64 n,.slice none 0 0] 59)
 clear hn hm hb2
 go_wp2_with fail
 generalize hw3:w2.alloc _=w3 at*
 have hb3:Below w.heap.size w w3:=by rw [←hw3];exact HB2.out.alloc hsz2 _
 have hx3:Blk w3 w2.heap.size 59 [.int .i64 n,.slice none 0 0]:=by rw [←hw3];exact Blk.new w2 _ [.int .i64 n,.slice none 0 0]
 obtain⟨h,hh⟩: ∃h,h=w2.heap.size:=⟨_,rfl⟩
 have hhl:w.heap.size≤h:=by omega
 rw [←hh] at hx3⊢
 clear hw3 hw23 hw22 hh HB2 hsz2
 refine(txt_must _ _).mono ?_
 rintro e w4 ⟨rfl,⟨h0,rfl⟩ | ⟨h0,rfl⟩⟩
 case inr=>
  have hodd:x2.data.toList.length%2=1:=by
   rw [beq_eq_false_iff_ne] at h0
   have:x2.data.toList.length=x2.size:=by simp
   omega
  have HN2:=hideIt (HNO2.out (hexR_odd _ hodd))
  clear h0 hodd
  go_wp2_with fail
  exact⟨rfl,.inl ⟨HN2.out,rfl,hb3⟩⟩
 have hev:x2.size%2=0:=by rw [beq_iff_eq] at h0;omega
 have HEV:=hideIt hev
 have hBt:(x2.size%2==0)=true:=by rw [hev];rfl
 clear h0 hev
 have hrel:DtRel x2 n w h (.int .i64 0) w3:=⟨0,0,none,0,[],rfl,Nat.zero_le _,rfl,hb3,hx3,⟨by simp,.inl ⟨rfl,rfl⟩⟩,rfl,rfl⟩
 have HREL:=hideIt hrel
 have HHL:=hideIt hhl
 clear hrel hb3 hx3
 go_wp2_with fail
 obtain⟨wo,hwo⟩: ∃wo:World,wo=w:=⟨_,rfl⟩
 go_loopw [5,6,7] (fun i _ _ wr=>DtRel x2 n w h i wr) (fun i _ _ _=>x2.size-(intOf i).toNat)
 case atStart=>exact HREL.out
 case round=>
  clear hw24 hBt
  obtain⟨k,j,A1,c1,bs,hj,hjx,rfl,hbel,hblk,hown,hbl2,hhx⟩:=hrel
  have HJ:=hideIt hj;have HJX:=hideIt hjx;have HBEL:=hideIt hbel;have HBLK:=hideIt hblk;have HOWN:=hideIt hown;have HBSL:=hideIt hbl2;have HHX:=hideIt hhx
  have r2:=(hbel.cell (p:=⟨A,2,none⟩) hAl).trans hw2
  have hhl2:=HHL.out
  have hj0:(0:Int)≤j:=by omega
  have hjs:j≤1048576:=by omega
  clear hj hbel hblk hown hbl2 hhx
  by_cases hlt:j<x2.size
  ·have d1:decide ((j:Int)<(x2.size:Int))=true:=decide_eq_true (by omega)
   have hlt1:j+1<x2.size:=by have:=HEV.out;have:=HJ.out;omega
   have HWR:Hid (IntKind.i64.wrap ((j:Int)+1)=((j+1:Nat):Int)):=hideIt (by simp [IntKind.wrap,IntKind.bits,IntKind.signed];omega)
   go_upto_region 6 with fail
   refine wp_region_held_drew (S:=fun W=>W.cell? ⟨A,2,none⟩=some (.string x2)) (by kernel_rfl) r2 (fun hHeld=> ?_)
   refine takeIt (i:=0) (v:= ?_) rfl (by kernel_rfl) (fun _ _ _ h=>h) rfl (by intro w hSw;(try dsimp only at hSw);go_simp;try with_reducible rfl) hHeld ?_
   refine takeIt (i:=1) (v:= ?_) rfl (by kernel_rfl) (fun _ _ _ h=>h) rfl (by intro w hSw;(try dsimp only at hSw);go_simp;try with_reducible rfl) hHeld ?_
   refine takeIt (i:=2) (v:= ?_) rfl (by kernel_rfl) (fun _ _ _ h=>h) rfl (by intro w hSw;(try dsimp only at hSw);go_simp;try with_reducible rfl) hHeld ?_
   refine takeIt (i:=3) (v:= ?_) rfl (by kernel_rfl) (fun _ _ _ h=>h) rfl (by intro w hSw;(try dsimp only at hSw);go_simp;try with_reducible rfl) hHeld ?_
   refine takeIt (i:=4) (v:= ?_) rfl (by kernel_rfl) (fun _ _ _ h=>h) rfl (by intro w hSw;(try dsimp only at hSw);go_simp;try with_reducible rfl) hHeld ?_
   refine takeIt (i:=6) (v:= ?_) rfl (by kernel_rfl) (fun _ _ _ h=>h) rfl (by intro w hSw;(try dsimp only at hSw);go_simp;try with_reducible rfl) hHeld ?_
   refine takeIt (i:=7) (v:= ?_) rfl (by kernel_rfl) (fun _ _ _ h=>h) rfl (by intro w hSw;(try dsimp only at hSw);go_simp;try with_reducible rfl) hHeld ?_
   refine takeIt (i:=8) (v:= ?_) rfl (by kernel_rfl) (fun _ _ _ h=>h) rfl (by intro w hSw;(try dsimp only at hSw);go_simp;try with_reducible rfl) hHeld ?_
   refine takeIt (i:=9) (v:= ?_) rfl (by kernel_rfl) (fun _ _ _ h=>h) rfl (by intro w hSw;(try dsimp only at hSw);go_simp;try with_reducible rfl) hHeld ?_
   refine takeIt (i:=10) (v:= ?_) rfl (by kernel_rfl) (fun _ _ _ h=>h) rfl (by intro w hSw;(try dsimp only at hSw);go_simp;try with_reducible rfl) hHeld ?_
   refine wpAnyH_take (i:=11) (v:= .int .u8 ((x2[j+1]'hlt1).toNat:Int)) rfl (by kernel_rfl) (by kernel_rfl) (by kernel_rfl) (fun _ _ _ h=>h) (Or.inl ⟨by rfl,by intro w hSw;(try dsimp only at hSw);go_simp;simp only [HWR.out,Int.toNat_natCast];rw [dif_pos ⟨by omega,by omega⟩];rfl⟩) hHeld ?_
   refine wpAnyH_ready (rs:= [5]) (by kernel_rfl) (by simp) ?_
   refine AllReadyH.cons rfl (fun K hK=> ?_) AllReadyH.nil
   go_simp
   refine(txt_digit (x2[j]'hlt) _).mono ?_
   rintro e w4 ⟨rfl,rfl⟩
   refine hK.out _ _ r2 (fun hHeld2=> ?_)
   clear hK K
   refine wpAnyH_ready (rs:= [12]) (by kernel_rfl) (by simp) ?_
   refine AllReadyH.cons rfl (fun K hK=> ?_) AllReadyH.nil
   go_simp
   refine(txt_digit (x2[j+1]'hlt1) _).mono ?_
   rintro e w4 ⟨rfl,rfl⟩
   refine hK.out _ _ r2 (fun hHeld3=> ?_)
   clear hK K
   refine wpAnyH_take (i:=13) (v:= ?_) rfl (by kernel_rfl) (by kernel_rfl) (by kernel_rfl) (fun _ _ _ h=>h) (Or.inl ⟨by rfl,by intro w hSw;(try dsimp only at hSw);go_simp;try with_reducible rfl⟩) hHeld3 ?_
   refine wpAnyH_take (i:=14) (v:= ?_) rfl (by kernel_rfl) (by kernel_rfl) (by kernel_rfl) (fun _ _ _ h=>h) (Or.inl ⟨by rfl,by intro w hSw;(try dsimp only at hSw);go_simp;try with_reducible rfl⟩) hHeld3 ?_
   refine wpAnyH_done (by kernel_rfl) ?_ _
   obtain⟨ca,hca⟩: ∃ca,ca=x2[j]:=⟨_,rfl⟩
   obtain⟨cb,hcb⟩: ∃cb,cb=x2[j+1]:=⟨_,rfl⟩
   rw [←hca,←hcb]
   have hCA:x2.data.toList[j]?=some ca:=by
    rw [hca]
    have:j<x2.data.toList.length:=by rw [←Lib.size_eq];exact hlt
    rw [List.getElem?_eq_getElem this]
    rfl
   have hCB:x2.data.toList[j+1]?=some cb:=by
    rw [hcb]
    have:j+1<x2.data.toList.length:=by rw [←Lib.size_eq];exact hlt1
    rw [List.getElem?_eq_getElem this]
    rfl
   have hnx:=hex_next (k:=k) HHX.out (by rw [←HJ.out];exact hCA) (by rw [←HJ.out];exact hCB)
   have HNX:=hideIt hnx
   have HB5:=hideIt (HBEL.out.drew)
   have hx5:Blk wr.drew h 59 [.int .i64 n,.slice A1 k c1]:=HBLK.out.drewN 1
   have ho5:wr.drew.ownsRow (h+1) 5 1 (.slice A1 k c1) k (bs.map bv):=HOWN.out
   generalize wr.drew=w5 at*
   have q0:=hx5.q 0 rfl
   have q1:=hx5.q 1 rfl
   have qf:=hx5.frozen 1
   have HX5:=hideIt hx5;have HO5:=hideIt ho5
   clear hx5 ho5 hHeld hHeld2 hHeld3 r2 hca hcb hCA hCB HHX HBEL HBLK HOWN hnx
   cases hva:hexV ca with
   | none=>
    have e1:dgt ca= -1:=by unfold dgt;rw [hva]
    have HNN:=hideIt (HNO2.out (HNX.out.2 (.inl hva)))
    rw [e1]
    go_wp2_with fail
    refine(txt_must_no _).mono ?_
    rintro e w6 ⟨rfl,rfl⟩
    go_wp2_with fail
    exact⟨rfl,.inl ⟨HNN.out,rfl,HB5.out⟩⟩
   | some xa=>
    have e1:dgt ca=(xa:Int):=by unfold dgt;rw [hva]
    have hxa:=hexV_lt hva
    rw [e1]
    cases hvb:hexV cb with
    | none=>
     have e2:dgt cb= -1:=by unfold dgt;rw [hvb]
     have HNN:=hideIt (HNO2.out (HNX.out.2 (.inr hvb)))
     rw [e2]
     go_wp2_with fail
     refine(txt_must_no _).mono ?_
     rintro e w6 ⟨rfl,rfl⟩
     go_wp2_with fail
     exact⟨rfl,.inl ⟨HNN.out,rfl,HB5.out⟩⟩
    | some xb=>
     have e2:dgt cb=(xb:Int):=by unfold dgt;rw [hvb]
     have hxb:=hexV_lt hvb
     have HNN:=hideIt (HNX.out.1 xa xb hva hvb)
     rw [e2]
     clear e1 e2 HNX hva hvb
     go_wp2_with fail
     refine(txt_must_yes _).mono ?_
     rintro e w6 ⟨rfl,rfl⟩
     have hor:=or_hex hxa hxb
     have Hrow:Hid (Row (w5.alloc (.cells #[.int .u8 (bits BinOp.or IntKind.i64 ((xa:Int)*16) (xb:Int)%256)] 5)) (w5.heap.size+1) (some ⟨w5.heap.size,0,none⟩) [.int .u8 (bits BinOp.or IntKind.i64 ((xa:Int)*16) (xb:Int)%256)]):=hideIt (row_cells w5 [.int .u8 (bits BinOp.or IntKind.i64 ((xa:Int)*16) (xb:Int)%256)] 5)
     have HOR:=hideIt hor
     obtain⟨i0,hi0,hz,hs',hby⟩:=info_parts info_u8
     have hkk:k≤1048576:=by have:=HJ.out;omega
     have hlt5:=HX5.out.lt
     clear hor
     go_wp2_with (at_builtin;refine wpList_appz _ rfl (.tmp 51) (.tmp 57) 41 rfl (h+1) 5 i0 _ 1 1 underlying41 hi0 hz hs' hby rfl (by omega) _ k (bs.map bv) rfl (HO5.out.alloc _) (w5.heap.size+1) _ 1 1 [.int .u8 (bits BinOp.or IntKind.i64 ((xa:Int)*16) (xb:Int)%256)] rfl rfl Hrow.out (by intro u hu;simp at hu;subst hu;rfl) (by unfold maxLen;omega) (by omega) (by simp;omega) ?_)
     intro A4 c4 w9 h2 h3 h4
     have hnb: ∀g,(Value.slice A1 k c1).ownBlock=some g→h+1≤g∧g<w5.heap.size:=fun g e=>HO5.out.lt g e
     have hb9:Blk w9 h 59 [.int .i64 n,.slice A1 k c1]:=(h3.block h (by rw [World.size_alloc];omega) (fun e=>by have:=(hnb h e.symm).1;omega)).trans ((HX5.out.alloc _))
     have q0:=hb9.q 0 rfl
     have q1:=hb9.q 1 rfl
     have qf:=hb9.frozen 1
     have hbel9:Below w.heap.size w w9:=by
      have h1:=HB5.out.alloc HB5.out.size (.cells #[.int .u8 (bits BinOp.or IntKind.i64 ((xa:Int)*16) (xb:Int)%256)] 5)
      exact⟨h3.os.trans h1.os,h3.tape.trans h1.tape,h3.output.trans h1.output,Nat.le_trans h1.size h3.size,fun q hq=>(h3.block q (Nat.lt_of_lt_of_le hq h1.size) (fun e=>by have:=(hnb q e.symm).1;omega)).trans (h1.block q hq)⟩
     have hfin:DtRel x2 n w h (.int .i64 ((j+2:Nat):Int)) (w9.setCell ⟨h,1,none⟩ (.slice A4 (k+1) c4)):=by
      refine⟨k+1,j+2,A4,c4,bs++ [UInt8.ofNat (16*xa+xb)],by have:=HJ.out;omega,hlt1,rfl,hbel9.setCell (p:=⟨h,1,none⟩) HHL.out _,hb9.set 1 _,?_,by rw [List.length_append,HBSL.out];rfl,HNN.out⟩
      refine own_set_ne (p:=⟨h,1,none⟩) ?_ (fun e=>by have:=(h2.lt h e).1;omega) _
      rw [List.map_append]
      have hv:(bv (UInt8.ofNat (16*xa+xb)))= .int .u8 (bits BinOp.or IntKind.i64 ((xa:Int)*16) (xb:Int)%256):=by rw [HOR.out];rfl
      show World.ownsRow _ _ _ _ _ _ (bs.map bv++ [bv (UInt8.ofNat (16*xa+xb))])
      rw [hv]
      exact h2
     have HFIN:=hideIt hfin
     clear h2 h3 h4 hb9 hbel9 hfin hnb
     go_wp2_with fail
     exact⟨HFIN.out,by show x2.size-((j:Int)+2).toNat<x2.size-((j:Int)).toNat;omega⟩
  ·have d1:decide ((j:Int)<(x2.size:Int))=false:=decide_eq_false (by omega)
   have hfull:hexR x2.data.toList=some bs:=by
    have h1:=HHX.out
    have h2:x2.data.toList.length≤2*k:=by have:=HJ.out;rw [←Lib.size_eq];omega
    rwa [List.take_of_length_le h2] at h1
   have HY:=hideIt (HYES.out n bs HN.out hfull)
   obtain⟨i0,hi0,hz,hs',hby⟩:=info_parts info_dat3
   have g1:=(HBEL.out.cell (p:=⟨b,6,none⟩) hbl).trans hc1
   have e0:=HBLK.out.q 0 rfl
   have e1:=HBLK.out.q 1 rfl
   have hlt6:=HBLK.out.lt
   have hsz6:=HBEL.out.size
   have hb8:Below wr.heap.size wr (wr.alloc (.cells #[.int .i64 n,.slice A1 k c1] 59)).drew:=((Below.refl _ _).alloc (Nat.le_refl _) _).drew
   have HB8:=hideIt (HBEL.out.trans (hb8.mono hsz6))
   have k1:=(hb8.cell (p:=⟨b,6,none⟩) (show b<wr.heap.size by omega)).trans g1
   have k2:=(hb8.cell (p:=⟨h,0,none⟩) hlt6).trans e0
   have k3:=(hb8.cell (p:=⟨h,1,none⟩) hlt6).trans e1
   have HO8:=hideIt (own_keptz HP.out.own HB8.out)
   have hrd:(Rd.u8.sl false).R (wr.alloc (.cells #[.int .i64 n,.slice A1 k c1] 59)).drew (h+1) wr.heap.size [.slice A1 k c1] bs:=by
    have h0:(Rd.u8.sl false).R wr (h+1) wr.heap.size [.slice A1 k c1] bs:=Rd.own false (r:=Rd.u8) HOWN.out HBSL.out.symm (fun q x hx=>by
     show((bs.map bv).drop (q*1)).take 1= [bv x]∧True
     have hlt:=(List.getElem?_eq_some_iff.1 hx)
     refine⟨?_,trivial⟩
     rw [Nat.mul_one,←List.map_drop,List.drop_eq_getElem_cons hlt.1,hlt.2]
     rfl)
    exact(Rd.u8.sl false).below h0 hb8 (Nat.le_refl _)
   have HRD:=hideIt hrd
   have Hrow:Hid (Row (wr.alloc (.cells #[.int .i64 n,.slice A1 k c1] 59)).drew (wr.heap.size+1) (some ⟨wr.heap.size,0,none⟩) [.int .i64 n,.slice A1 k c1]):=hideIt (row_cells wr [.int .i64 n,.slice A1 k c1] 59)
   have HKB:=hideIt HBSL.out
   clear hb8 hrd HBLK HOWN HHX hfull
   go_wp2_with fail
   go_region_law (refine step_appz rfl (.tmp 65) (.tmp 67) 26 rfl B 59 i0 _ 2 32 underlying26 hi0 hz hs' hby rfl (by omega) _ m.dat.length cells2 rfl HO8.out _ _ 1 1 [.int .i64 n,.slice A1 k c1] rfl rfl Hrow.out (by intro u hu;simp at hu;rcases hu with rfl | rfl<;>rfl) (by unfold maxLen;omega) (by omega) (by simp;omega) ?_;intro A4 c4 w9 h2 h3 h4;have hbl4:=HR.out.old HB8.out h3 (fun g e=>(HP.out.lt g e).1);have hf4:=hbl4.frozen 6;have hc4:=hbl4.cell 6;have H2:=hideIt h2;have H3:=hideIt h3;have H4:=hideIt h4;clear h2 h3 h4 hbl4)
   all_goals
    go_end0
    refine .inr ⟨_,HY.out,rfl,HR.out.push7 HP.out HB8.out (lo:=h+1) (hi:=wr.heap.size) (x:=⟨n,bs⟩) (rDat_iff.2 ⟨.slice A1 k c1,rfl,HM.out,HRD.out⟩) (by have:=HHL.out;omega) (by first | (simp;done) | (simp;omega)) H2.out H3.out H4.out⟩
theorem rd_data_len (h0:ws≠ []) (hk:ws.length≠3) (Inv:World→ModV→Prop):
 Calls prog 94 #[.pointer (some ⟨b,0,none⟩),.slice (some ⟨A,0,none⟩) ws.length ws.length] w (MEnd Inv B b w (readK 7 m ws.tail)):=by
 have HN:=hideIt (readK_len (m:=m) (p:=7) (k:=3) (by decide) h0 hk)
 have HK:Hid (decide (ws.length=3)=false):=hideIt (decide_eq_false hk)
 clear h0 hk
 go_enter func94,ntmps94
 go_wp2_with fail
 refine(txt_count (some ⟨A,0,none⟩) ws.length ws.length 3 w).mono ?_
 rintro e w1 ⟨rfl,⟨h1,rfl⟩ | ⟨h1,rfl⟩⟩
 ·rw [HK.out] at h1;cases h1
 go_wp2_with fail
 exact⟨rfl,.inl ⟨HN.out,rfl,Below.refl _ _⟩⟩
theorem rd_data (h:MIn B b A hi w col v1 v2 v3 v6 v7 v8 m st ln ws) (h0:ws≠ []):
 Calls prog 94 #[.pointer (some ⟨b,0,none⟩),.slice (some ⟨A,0,none⟩) ws.length ws.length] w (MEnd (fun W m'=>RdM B b W m' st ln) B b w (readK 7 m ws.tail)):=by
 by_cases hk:ws.length=3
 case neg=>exact rd_data_len h0 hk _
 obtain⟨x0,x1,x2,rfl⟩:=len3 hk
 exact rd_data_x h
end
section
variable {B b A hi:Nat} {w:World} {col:Nat→Nat} {v1 v2 v3 v6 v7 v8:Value} {m:ModV} {st ln:Nat} {ws:List ByteArray}
theorem readS_le (s:ByteArray):(readS s).1.size≤s.size∧(readS s).2.1.size≤s.size:=by
 have h1:=cut_size s
 have h2:=meant_size (cutA s)
 have h3:=meant_size (cutB s)
 unfold readS
 split
 ·exact⟨by simp only;omega,by simp only;omega⟩
 ·exact⟨Nat.zero_le _,Nat.zero_le _⟩
theorem info_sig3:(prog.info? 51).map (fun i=>(i.zero,i.size,i.bytes))=some (some (.agg #[.string ⟨#[]⟩,.string ⟨#[]⟩]),2,32):=by kernel_rfl
theorem rd_typed_x {x0 x1:ByteArray} {t:List ByteArray} (h:MIn B b A hi w col v1 v2 v3 v6 v7 v8 m st ln (x0::x1::t)):
 Calls prog 89 #[.pointer (some ⟨b,0,none⟩),.slice (some ⟨A,0,none⟩) (t.length+2) (t.length+2)] w (MEnd (fun W m'=>RdM B b W m' st ln) B b w (readK 2 m (x1::t))):=by
 obtain⟨A2,c2,cells2,e2,hP⟩:=h.rd.six.p1
 subst e2
 obtain⟨i0,hi0,hz,hs',hby⟩:=info_parts info_sig3
 have hc1:=h.rd.blk.q 0 rfl
 have hbl:=h.rd.blk.lt
 have hAl:=h.wd.lt
 have hhi:=h.hhi
 have hlow:=h.rd.low
 have htop:=h.rd.top
 have hq:=h.lens.types
 have htl:t.length≤4194304:=by have:=wsum_len (x0::x1::t);have:=h.wd.tot;simp at*;omega
 have HW:=hideIt h.wd;have HE:=hideIt h.env;have HR:=hideIt h.rd;have HP:=hideIt hP
 clear h hP
 go_enter func89,ntmps89
 go_wp2_with fail
 refine(strings_Join A 1 (t.length+1) (x1::t) ⟨#[32]⟩ w (fun j x hx=>by have:=HW.out.at_ (j+1) x hx;rw [Nat.add_comm 1 j];exact this) hAl (by simp;omega) (by simp) (by have h1:=joinW_le (x1::t);have h2:=HW.out.tot;have h3:wsum (x0::x1::t)=x0.size+1+wsum (x1::t):=rfl;show(Lib.join _ [32]).length≤_;omega)).mono ?_
 rintro e w1 ⟨rfl,hb1⟩
 have hjs:(joinW (x1::t)).size≤1048577:=by
  have h1:=joinW_le (x1::t);have h2:=HW.out.tot;have h3:wsum (x0::x1::t)=x0.size+1+wsum (x1::t):=rfl
  show(List.toArray _).size≤_
  rw [List.size_toArray]
  omega
 obtain⟨mx,hmx⟩:=(HE.out.up hb1 (by omega)).mx w1 (Below.refl _ _)
 have HB1:=hideIt hb1
 have hsz1:=hb1.size
 have HC:=hideIt (types_ReadSig (joinW (x1::t)) (by omega) mx w1 hmx)
 have HJ:=hideIt hjs
 clear hb1 hmx hjs
 go_wp2_with fail
 refine HC.out.mono ?_
 clear HC
 rintro e w2 ⟨hb2,rfl⟩
 have hle:=readS_le (joinW (x1::t))
 have HLE:=hideIt hle
 have HRD:Hid (readK 2 m (x1::t)=if(readS (joinW (x1::t))).2.2=0 then some {m with types:=m.types++ [⟨(readS (joinW (x1::t))).1,(readS (joinW (x1::t))).2.1⟩]} else none):=hideIt rfl
 have HB2:=hideIt (HB1.out.trans (hb2.mono HB1.out.size))
 clear hb2 hle
 generalize (readS (joinW (x1::t))).1=rp at*
 generalize (readS (joinW (x1::t))).2.1=rr at*
 generalize (readS (joinW (x1::t))).2.2=re at*
 go_wp2_with fail
 generalize hw3:w2.alloc (.cells #[.string rp,.string rr] 51)=w3
 have hsz2:=HB2.out.size
 have hb23:Below w2.heap.size w2 w3:=by rw [←hw3];exact(Below.refl _ _).alloc (Nat.le_refl _) _
 have hx:Blk w3 w2.heap.size 51 [.string rp,.string rr]:=by rw [←hw3];exact Blk.new w2 _ [.string rp,.string rr]
 have hlt3:w2.heap.size<w3.heap.size:=by rw [←hw3];simp
 have HB3:=hideIt (HB2.out.trans (hb23.mono hsz2))
 have g1:=(HB3.out.cell (p:=⟨b,0,none⟩) (show b<w.heap.size by omega)).trans hc1
 have gx0:=hx.q 0 rfl
 have gx1:=hx.q 1 rfl
 clear hw3 hb23 hx
 refine(txt_must _ _).mono ?_
 rintro e w4 ⟨rfl,⟨h0,rfl⟩ | ⟨h0,rfl⟩⟩
 case inr=>
  have HN:Hid (readK 2 m (x1::t)=none):=hideIt (by rw [HRD.out,if_neg (by rw [beq_eq_false_iff_ne] at h0;omega)])
  clear h0
  go_wp2_with fail
  exact⟨rfl,.inl ⟨HN.out,rfl,HB3.out⟩⟩
 have HN:Hid (readK 2 m (x1::t)=some {m with types:=m.types++ [⟨rp,rr⟩]}):=hideIt (by rw [HRD.out,if_pos (by rw [beq_iff_eq] at h0;omega)])
 have hrw:(re:Int)=0:=by rw [beq_iff_eq] at h0;exact h0
 clear h0 HRD
 generalize (re:Int)=rz at*
 subst hrw
 have hb5:Below w3.heap.size w3 (w3.alloc (.cells #[.string rp,.string rr] 51)).drew:=((Below.refl _ _).alloc (Nat.le_refl _) _).drew
 have hsz3:=HB3.out.size
 have HB5:=hideIt (HB3.out.trans (hb5.mono hsz3))
 have k1:=(hb5.cell (p:=⟨b,0,none⟩) (show b<w3.heap.size by omega)).trans g1
 have kx0:=(hb5.cell (p:=⟨w2.heap.size,0,none⟩) hlt3).trans gx0
 have kx1:=(hb5.cell (p:=⟨w2.heap.size,1,none⟩) hlt3).trans gx1
 have HO5:=hideIt (own_keptz HP.out.own HB5.out)
 have Hrow:Hid (Row (w3.alloc (.cells #[.string rp,.string rr] 51)).drew (w3.heap.size+1) (some ⟨w3.heap.size,0,none⟩) [.string rp,.string rr]):=hideIt (row_cells w3 [.string rp,.string rr] 51)
 clear hb5
 go_wp2_with fail
 go_region_law (refine step_appz rfl (.tmp 21) (.tmp 23) 22 rfl B 51 i0 _ 2 32 underlying22 hi0 hz hs' hby rfl (by omega) _ m.types.length cells2 rfl HO5.out (w3.heap.size+1) _ 1 1 [.string rp,.string rr] rfl rfl Hrow.out (by intro u hu;simp at hu;rcases hu with rfl | rfl<;>rfl) (by unfold maxLen;omega) (by omega) (by simp;omega) ?_;intro A4 c4 w4 h2 h3 h4;have hbl4:=HR.out.old HB5.out h3 (fun g e=>(HP.out.lt g e).1);have hf4:=hbl4.frozen 0;have hc4:=hbl4.cell 0;have H2:=hideIt h2;have H3:=hideIt h3;have H4:=hideIt h4;clear h2 h3 h4 hbl4)
 all_goals
  go_end0
  refine .inr ⟨_,HN.out,rfl,HR.out.push1 HP.out HB5.out (lo:=w.heap.size) (hi:=w.heap.size) (x:=⟨rp,rr⟩) (rSig_iff.2 ⟨rfl,(show rp.size≤140737488351232 by have:=HLE.out.1;have:=HJ.out;omega),(show rr.size≤140737488351232 by have:=HLE.out.2;have:=HJ.out;omega)⟩) (Nat.le_refl _) (by simp;omega) H2.out H3.out H4.out⟩
theorem readS_none:(readS (joinW [])).2.2=15:=by decide+kernel
theorem rd_typed_0 {x0:ByteArray} (h:MIn B b A hi w col v1 v2 v3 v6 v7 v8 m st ln [x0]) (Inv:World→ModV→Prop):
 Calls prog 89 #[.pointer (some ⟨b,0,none⟩),.slice (some ⟨A,0,none⟩) 1 1] w (MEnd Inv B b w (readK 2 m [])):=by
 have HRD:Hid (readK 2 m []=none):=hideIt (by unfold readK;exact if_neg (by rw [readS_none];decide))
 have hhi:=h.hhi
 have hbl:=h.rd.blk.lt
 obtain⟨mx,hmx⟩:=h.env.mx w (Below.refl _ _)
 have HC:=hideIt (types_ReadSig (joinW []) (by decide) mx w hmx)
 clear h hmx
 go_enter func89,ntmps89
 go_wp2_with fail
 refine(strings_Join_none _ _ _ w).mono ?_
 rintro e w1 ⟨rfl,rfl⟩
 go_wp2_with fail
 refine HC.out.mono ?_
 clear HC
 rintro e w2 ⟨hb2,rfl⟩
 rw [readS_none]
 generalize (readS (joinW [])).1=rp at*
 generalize (readS (joinW [])).2.1=rr at*
 have HB:=hideIt hb2
 clear hb2
 go_wp2_with fail
 refine(txt_must_no _).mono ?_
 rintro e w4 ⟨rfl,rfl⟩
 go_wp2_with fail
 exact⟨rfl,.inl ⟨HRD.out,rfl,HB.out.alloc HB.out.size _⟩⟩
theorem rd_typed (h:MIn B b A hi w col v1 v2 v3 v6 v7 v8 m st ln ws) (h0:ws≠ []):
 Calls prog 89 #[.pointer (some ⟨b,0,none⟩),.slice (some ⟨A,0,none⟩) ws.length ws.length] w (MEnd (fun W m'=>RdM B b W m' st ln) B b w (readK 2 m ws.tail)):=by
 rcases ws with _ | ⟨x0,_ | ⟨x1,t⟩⟩
 ·exact absurd rfl h0
 ·exact rd_typed_0 h _
 ·exact rd_typed_x h
end
end Go.Proofs.YtebgikflpgcnlaaGreatDoor
