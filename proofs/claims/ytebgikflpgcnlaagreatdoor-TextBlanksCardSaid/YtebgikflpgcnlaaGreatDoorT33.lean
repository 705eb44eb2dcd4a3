/- Part 33 of the proof: WrkA TbkA -/
import Derived.Test.YtebgikflpgcnlaaGreatDoorT23
import Derived.Test.YtebgikflpgcnlaaGreatDoorT24
import Derived.Test.YtebgikflpgcnlaaGreatDoorT32
namespace Go.Proofs.YtebgikflpgcnlaaGreatDoor
set_option linter.unusedVariables false
set_option linter.unusedSimpArgs false
set_option maxRecDepth 100000
set_option maxHeartbeats 4000000
open Go.RowKit Tryz
theorem sl_blk {α:Type} {r:Rd α} {W:World} {hi g:Nat} {t:TypeId} {vs:List Value} {xs:List α} (n:Nat) (hn:n=xs.length) (hb:Blk W g t vs) (hg:g<hi) (hx: ∀(k:Nat) x,xs[k]?=some x→ ∃cs,r.R W 0 hi cs x∧ ∀(j:Nat) u,cs[j]?=some u→vs[k*r.z+j]?=some u):
 (r.sl false).R W 0 hi [.slice (some ⟨g,0,none⟩) n n] xs:=by
 subst hn
 refine⟨_,_,rfl,⟨fun h=>(by cases h),Nat.le_refl _⟩,fun _=>⟨g,0,rfl,Nat.zero_le _,hg,fun k x hk=> ?_⟩⟩
 obtain⟨cs,hr,hc⟩:=hx k x hk
 refine⟨cs,fun j u hu=> ?_,hr⟩
 have:=hb.cell (k*r.z+j)
 rw [hc j u hu] at this
 rwa [Nat.zero_add]
theorem km_reads {W:World} {hi g1 g2 g3 g4:Nat} (hb1:Blk W g1 51 [.string ⟨#[119]⟩,.string ⟨#[]⟩]) (hb2:Blk W g2 3 [.int .i64 0,.int .i64 1]) (hb3:Blk W g3 53 [.int .u8 9,.int .i64 0,.slice (some ⟨g2,0,none⟩) 2 2,.int .u8 6,.int .i64 0,.slice none 0 0])
 (hb4:Blk W g4 56 [.int .i64 0,.string ⟨#[108]⟩,.slice (some ⟨g3,0,none⟩) 2 2]) (h1:g1<hi) (h2:g2<hi) (h3:g3<hi) (h4:g4<hi):
 rMod.R W 0 hi [.slice (some ⟨g1,0,none⟩) 1 1,.slice none 0 0,.slice none 0 0,.int .i64 1,.int .i64 2,.slice (some ⟨g4,0,none⟩) 1 1,.slice none 0 0,.slice none 0 0] kM:=by
 have hz: ∀ {α:Type} (r:Rd α),(r.sl false).R W 0 hi [.slice none 0 0] []:=fun r=>⟨_,_,rfl,⟨fun h=>(by cases h),Nat.le_refl _⟩,fun h=>absurd h (Nat.lt_irrefl 0)⟩
 have hl:(Rd.i64.sl false).R W 0 hi [.slice (some ⟨g2,0,none⟩) 2 2] [0,1]:=sl_blk 2 rfl hb2 h2 fun k x hk=>by
  rcases k with _ | _ | k
  ·obtain rfl:(0:Int)=x:=by simpa using hk
   exact⟨_,⟨rfl,by decide,by decide⟩,fun j u hu=>by rcases j with _ | j;exact hu;simp at hu⟩
  ·obtain rfl:(1:Int)=x:=by simpa using hk
   exact⟨_,⟨rfl,by decide,by decide⟩,fun j u hu=>by rcases j with _ | j;exact hu;simp at hu⟩
  ·simp at hk
 have hc:(rIns.sl false).R W 0 hi [.slice (some ⟨g3,0,none⟩) 2 2] [⟨9,0,[0,1]⟩,⟨6,0,[]⟩]:=sl_blk 2 rfl hb3 h3 fun k x hk=>by
  rcases k with _ | _ | k
  ·obtain rfl:(⟨9,0,[0,1]⟩:InsV)=x:=by simpa using hk
   exact⟨_,rIns_iff.2 ⟨_,rfl,⟨by decide,by decide⟩,hl⟩,fun j u hu=>by rcases j with _ | _ | _ | j;exact hu;exact hu;exact hu;simp at hu⟩
  ·obtain rfl:(⟨6,0,[]⟩:InsV)=x:=by simpa using hk
   exact⟨_,rIns_iff.2 ⟨_,rfl,⟨by decide,by decide⟩,hz _⟩,fun j u hu=>by rcases j with _ | _ | _ | j;exact hu;exact hu;exact hu;simp at hu⟩
  ·simp at hk
 have hf:(rFn.sl false).R W 0 hi [.slice (some ⟨g4,0,none⟩) 1 1] kM.fns:=sl_blk 1 rfl hb4 h4 fun k x hk=>by
  rcases k with _ | k
  ·obtain rfl:(⟨0,⟨#[108]⟩,[⟨9,0,[0,1]⟩,⟨6,0,[]⟩]⟩:FnV)=x:=by simpa [kM] using hk
   exact⟨_,rFn_iff.2 ⟨_,rfl,⟨by decide,by decide⟩,(by decide:(1:Nat)≤140737488351232),hc⟩,fun j u hu=>by rcases j with _ | _ | _ | j;exact hu;exact hu;exact hu;simp at hu⟩
  ·simp [kM] at hk
 have ht:(rSig.sl false).R W 0 hi [.slice (some ⟨g1,0,none⟩) 1 1] kM.types:=sl_blk 1 rfl hb1 h1 fun k x hk=>by
  rcases k with _ | k
  ·obtain rfl:(⟨⟨#[119]⟩,⟨#[]⟩⟩:SigV)=x:=by simpa [kM] using hk
   exact⟨_,rSig_iff.2 ⟨rfl,(by decide:(1:Nat)≤140737488351232),Nat.zero_le _⟩,fun j u hu=>by rcases j with _ | _ | j;exact hu;exact hu;simp at hu⟩
  ·simp [kM] at hk
 exact rMod_iff.2 ⟨_,_,_,_,_,_,rfl,ht,hz _,hz _,⟨by decide,by decide⟩,⟨by decide,by decide⟩,hf,hz _,hz _⟩
theorem works06 {hi:Nat} (w:World) (hE:EnvAt hi w) (hhi:hi≤w.heap.size):
 Calls prog 7 #[] w fun e w'=>Below w.heap.size w w'∧e= .returned (.bool true):=by
 have HE:=hideIt hE
 clear hE
 go_enter func7,ntmps7
 go_upto_region 2 with fail
 generalize hw1:World.alloc _ _=w1
 have hb1:Below w.heap.size w w1:=by
  rw [←hw1]
  exact(((((Below.refl _ _).alloc (Nat.le_refl _) _).alloc (by simp only [World.size_alloc];omega) _).alloc (by simp only [World.size_alloc];omega) _).alloc (by simp only [World.size_alloc];omega) _).alloc (by simp only [World.size_alloc];omega) _
 have hk1:w1.heap.size=w.heap.size+1+1+1+1+1:=by rw [←hw1];simp only [World.size_alloc]
 have hm1:Blk w1 (w.heap.size+1+1+1+1) 29 [.slice (some ⟨w.heap.size,0,none⟩) 1 1,.slice none 0 0,.slice none 0 0,.int .i64 1,.int .i64 2,.slice (some ⟨w.heap.size+1+1+1,0,none⟩) 1 1,.slice none 0 0,.slice none 0 0]:=by
  rw [←hw1];exact blk_at _ _ [_,_,_,_,_,_,_,_] (by simp only [World.size_alloc])
 have hr1:rMod.R w1 0 w1.heap.size [.slice (some ⟨w.heap.size,0,none⟩) 1 1,.slice none 0 0,.slice none 0 0,.int .i64 1,.int .i64 2,.slice (some ⟨w.heap.size+1+1+1,0,none⟩) 1 1,.slice none 0 0,.slice none 0 0] kM:=by
  refine km_reads (g2:=w.heap.size+1) (g3:=w.heap.size+1+1) ?_ ?_ ?_ ?_ (by omega) (by omega) (by omega) (by omega)
  ·rw [←hw1];exact((((blk_at w _ [_,_] rfl).alloc _).alloc _).alloc _).alloc _
  ·rw [←hw1];exact(((blk_at _ _ [_,_] (by simp only [World.size_alloc])).alloc _).alloc _).alloc _
  ·rw [←hw1];exact((blk_at _ _ [_,_,_,_,_,_] (by simp only [World.size_alloc])).alloc _).alloc _
  ·rw [←hw1];exact(blk_at _ _ [_,_,_] (by simp only [World.size_alloc])).alloc _
 have HM1:=hideIt hm1;have HR1:=hideIt hr1;have HB1:=hideIt hb1
 have hl1:=hm1.lt
 clear hw1 hb1 hm1 hr1
 go_wp2_with (refine ldM HM1.out rfl _ rfl rfl ?_)
 refine(txt_Print [.slice (some ⟨w.heap.size,0,none⟩) 1 1,.slice none 0 0,.slice none 0 0,.int .i64 1,.int .i64 2,.slice (some ⟨w.heap.size+1+1+1,0,none⟩) 1 1,.slice none 0 0,.slice none 0 0] w1.heap.size hi kM w1 HR1.out (Nat.le_refl _) (by decide+kernel) (HE.out.to (HB1.out.mono hhi)) (by omega)).mono ?_
 rintro e w2 ⟨hb2,he2⟩
 rw [if_pos kM_E,kM_T,kM_E] at he2
 subst he2
 have HB2:=hideIt (HB1.out.trans (hb2.mono HB1.out.size))
 have hs2:w.heap.size≤w2.heap.size:=HB2.out.size
 have hs12:=hb2.size
 have HM2:=hideIt (HM1.out.below hb2 hl1)
 have HR2:=hideIt (Rd.below HR1.out hb2 (Nat.le_refl _))
 clear hb2
 go_wp2_with fail
 refine(txt_Parse kT (hi:=hi) w2 (HE.out.to (HB2.out.mono hhi)) (by omega)).mono ?_
 rintro e w3 ⟨hb3,cs3,hl3,he3,hr3⟩
 simp only [kT_parse] at he3 hr3
 obtain⟨u1,u2,u3,u6,u7,u8,rfl,h1,h2,h3,h4,h5,h6,h7,h8⟩:=rMod_iff.1 hr3
 obtain⟨A1,c1,rfl⟩:=sl_form h1
 obtain⟨A2,c2,rfl⟩:=sl_form h2
 obtain⟨A3,c3,rfl⟩:=sl_form h3
 obtain⟨A6,c6,rfl⟩:=sl_form h6
 obtain⟨A7,c7,rfl⟩:=sl_form h7
 obtain⟨A8,c8,rfl⟩:=sl_form h8
 subst he3
 have HB3:=hideIt (HB2.out.trans (hb3.mono hs2))
 have hs3:w.heap.size≤w3.heap.size:=HB3.out.size
 have hs23:=hb3.size
 have HM3:=hideIt (HM2.out.below hb3 HM2.out.lt)
 have HR3:=hideIt (Rd.below HR2.out hb3 hs12)
 have HP3:=hideIt hr3
 clear hb3 hr3 h1 h2 h3 h4 h5 h6 h7 h8 hl3
 go_wp2_with fail
 generalize hw4:World.alloc _ _=w4
 have hb4:Below w3.heap.size w3 w4:=by rw [←hw4];exact(Below.refl _ _).alloc (Nat.le_refl _) _
 have hn4:Blk w4 w3.heap.size 29 [.slice A1 kM.types.length c1,.slice A2 kM.hosts.length c2,.slice A3 kM.globs.length c3,.int .i64 kM.first,.int .i64 kM.most,.slice A6 kM.fns.length c6,.slice A7 kM.dat.length c7,.slice A8 kM.exps.length c8]:=by rw [←hw4];exact Blk.new w3 _ _
 have HN4:=hideIt hn4
 have hn4l:=hn4.lt
 have HB4:=hideIt (HB3.out.trans (hb4.mono hs3))
 have hs4:w.heap.size≤w4.heap.size:=HB4.out.size
 have hs34:=hb4.size
 have HM4:=hideIt (HM3.out.below hb4 HM3.out.lt)
 have HR4:=hideIt (Rd.below HR3.out hb4 (Nat.le_trans hs12 hs23))
 have HP4:=hideIt (Rd.below HP3.out hb4 (Nat.le_refl _))
 clear hw4 hb4 hn4
 refine(txt_Parse kB (hi:=hi) w4 (HE.out.to (HB4.out.mono hhi)) (by omega)).mono ?_
 rintro e w5 ⟨hb5,cs5,hl5,he5,hr5⟩
 simp only [kB_parse] at he5 hr5
 obtain⟨u1,u2,u3,u6,u7,u8,rfl,h1,h2,h3,h4,h5,h6,h7,h8⟩:=rMod_iff.1 hr5
 obtain⟨D1,d1,rfl⟩:=sl_form h1
 obtain⟨D2,d2,rfl⟩:=sl_form h2
 obtain⟨D3,d3,rfl⟩:=sl_form h3
 obtain⟨D6,d6,rfl⟩:=sl_form h6
 obtain⟨D7,d7,rfl⟩:=sl_form h7
 obtain⟨D8,d8,rfl⟩:=sl_form h8
 subst he5
 have HB5:=hideIt (HB4.out.trans (hb5.mono hs4))
 have HM5:=hideIt (HM4.out.below hb5 HM4.out.lt)
 have HN5:=hideIt (HN4.out.below hb5 hn4l)
 have HR5:=hideIt (Rd.below HR4.out hb5 (Nat.le_trans hs12 (Nat.le_trans hs23 hs34)))
 have HP5:=hideIt (Rd.below HP4.out hb5 hs34)
 have hs45:=hb5.size
 clear hb5 hr5 h1 h2 h3 h4 h5 h6 h7 h8 hl5
 go_upto_region 6 with fail
 generalize hw6:World.alloc _ _=w6
 have hb6:Below w5.heap.size w5 w6:=by rw [←hw6];exact(Below.refl _ _).alloc (Nat.le_refl _) _
 have HB6:=hideIt (HB5.out.trans (hb6.mono (Nat.le_trans hs4 hs45)))
 have HM6:=hideIt (HM5.out.below hb6 HM5.out.lt)
 have HN6:=hideIt (HN5.out.below hb6 HN5.out.lt)
 have HEQ:=hideIt (eq_module [.slice A1 kM.types.length c1,.slice A2 kM.hosts.length c2,.slice A3 kM.globs.length c3,.int .i64 kM.first,.int .i64 kM.most,.slice A6 kM.fns.length c6,.slice A7 kM.dat.length c7,.slice A8 kM.exps.length c8] [.slice (some ⟨w.heap.size,0,none⟩) 1 1,.slice none 0 0,.slice none 0 0,.int .i64 1,.int .i64 2,.slice (some ⟨w.heap.size+1+1+1,0,none⟩) 1 1,.slice none 0 0,.slice none 0 0] w5.heap.size w5.heap.size kM kM w6 (rMod.more (Nat.zero_le _) (Nat.le_trans hs34 hs45) (Rd.below HP5.out hb6 (Nat.le_trans hs34 hs45))) (rMod.more (Nat.le_refl _) (Nat.le_trans hs12 (Nat.le_trans hs23 (Nat.le_trans hs34 hs45))) (Rd.below HR5.out hb6 (Nat.le_trans hs12 (Nat.le_trans hs23 (Nat.le_trans hs34 hs45))))) hb6.size hb6.size (modLe_of (by decide+kernel)))
 have hz6:=HB6.out.size
 clear hw6 hb6
 rw [show({data:= #[102,108,97,103,111,110,10,116,121,112,101,32,119,32,45,62,32,45,10,109,101,109,111,114,121,32,49,32,50,10,102,117,110,99,32,48,32,108,10,32,32,98,114,116,97,98,108,101,32,48,32,49,10,32,32,101,110,100,10]}:ByteArray)=kT from rfl]
 go_wp2_with (first | refine ldMg HM6.out rfl _ rfl rfl ?_ | refine ldMg HN6.out rfl _ rfl rfl ?_)
 refine HEQ.out.mono ?_
 rintro e w7 ⟨hb7,b,rfl,hb⟩
 obtain rfl:b=true:=hb.2 rfl
 have HB7:=hideIt (HB6.out.trans (hb7.mono hz6))
 clear hb7 hb HEQ
 go_wp2_with fail
 go_ret
 exact⟨HB7.out,rfl⟩
theorem printV_if {m:ModV} (h:modE m=0):(if modE m=0 then bOf (printT m) else none_)=bOf (printT m):=if_pos h
theorem law_back (cs:List Value) (hi hj:Nat) (m:ModV) (s:ByteArray) (w:World) (h:rMod.R w 0 hi cs m) (hhi:hi≤w.heap.size) (hin:ModIn m) (hs:Rd.SOk s) (hE:EnvAt hj w) (hhj:hj≤w.heap.size):
 Calls prog 4 #[.agg cs.toArray,.string s] w fun e w'=>Below w.heap.size w w'∧e= .returned (.bool true):=by
 obtain⟨v1,v2,v3,v6,v7,v8,rfl,h1,h2,h3,h4,h5,h6,h7,h8⟩:=rMod_iff.1 h
 obtain⟨A1,c1,rfl⟩:=sl_form h1
 obtain⟨A2,c2,rfl⟩:=sl_form h2
 obtain⟨A3,c3,rfl⟩:=sl_form h3
 obtain⟨A6,c6,rfl⟩:=sl_form h6
 obtain⟨A7,c7,rfl⟩:=sl_form h7
 obtain⟨A8,c8,rfl⟩:=sl_form h8
 have HNUM:=hideIt (modNum_of h)
 have HH:=hideIt h;have HE:=hideIt hE;have HIN:=hideIt hin
 have hsz:(s.size:Int)≤140737488351232:=by have:s.size≤140737488351232:=hs;omega
 clear h hE hin hs h1 h2 h3 h4 h5 h6 h7 h8
 go_enter func4,ntmps4
 go_wp2_with fail
 generalize hw1:World.alloc _ _=w1
 have hb1:Below w.heap.size w w1:=by rw [←hw1];exact(Below.refl _ _).alloc (Nat.le_refl _) _
 have hm1:Blk w1 w.heap.size 29 [.slice A1 m.types.length c1,.slice A2 m.hosts.length c2,.slice A3 m.globs.length c3,.int .i64 m.first,.int .i64 m.most,.slice A6 m.fns.length c6,.slice A7 m.dat.length c7,.slice A8 m.exps.length c8]:=by rw [←hw1];exact Blk.new w _ _
 have HB1:=hideIt hb1;have HM1:=hideIt hm1
 have hl1:=hm1.lt
 clear hw1 hb1 hm1
 refine(works06 (hi:=hj) w1 (HE.out.to (HB1.out.mono hhj)) (Nat.le_trans hhj HB1.out.size)).mono ?_
 rintro e w2 ⟨hb2,rfl⟩
 have HB2:=hideIt (HB1.out.trans (hb2.mono HB1.out.size))
 have HM2:=hideIt (HM1.out.below hb2 hl1)
 have hs2:w.heap.size≤w2.heap.size:=HB2.out.size
 clear hb2
 have HR2:=hideIt (Rd.below HH.out HB2.out hhi)
 have HSZ:=hideIt (size_module _ hi m w2 HR2.out (Nat.le_trans hhi hs2) HIN.out)
 go_wp2_with (refine ldM HM2.out rfl _ rfl rfl ?_)
 refine HSZ.out.mono ?_
 rintro e w3 ⟨hb3,n,rfl,hcap⟩
 have HB3:=hideIt (HB2.out.trans (hb3.mono hs2))
 have HM3:=hideIt (HM2.out.below hb3 HM2.out.lt)
 have hs3:w.heap.size≤w3.heap.size:=HB3.out.size
 have HR3:=hideIt (Rd.below HH.out HB3.out hhi)
 have HCAP:=hideIt hcap
 clear hb3 hcap HSZ
 by_cases hn:131072<n
 ·have d1:decide ((131072:Int)<n)=true:=decide_eq_true (by omega)
  clear hn
  go_wp2_with fail
  go_ret
  exact⟨HB3.out,rfl⟩
 have d1:decide ((131072:Int)<n)=false:=decide_eq_false (by omega)
 by_cases hl:131072<s.size
 ·have d2:decide ((131072:Int)<s.size)=true:=decide_eq_true (by omega)
  clear hn hl
  go_wp2_with fail
  go_ret
  exact⟨HB3.out,rfl⟩
 have d2:decide ((131072:Int)<s.size)=false:=decide_eq_false (by omega)
 have hsm:szMod m≤2147483647:=by have:=HCAP.out;unfold Cap at this;omega
 have HSM:=hideIt hsm
 clear hn hl hsm
 go_wp2_with (refine ldM HM3.out rfl _ rfl rfl ?_)
 refine(txt_Print [.slice A1 m.types.length c1,.slice A2 m.hosts.length c2,.slice A3 m.globs.length c3,.int .i64 m.first,.int .i64 m.most,.slice A6 m.fns.length c6,.slice A7 m.dat.length c7,.slice A8 m.exps.length c8] hi hj m w3 HR3.out (Nat.le_trans hhi hs3) HSM.out (HE.out.to (HB3.out.mono hhj)) (Nat.le_trans hhj hs3)).mono ?_
 rintro e w4 ⟨hb4,rfl⟩
 have HB4:=hideIt (HB3.out.trans (hb4.mono hs3))
 have HM4:=hideIt (HM3.out.below hb4 HM3.out.lt)
 have hs4:w.heap.size≤w4.heap.size:=HB4.out.size
 have HR4:=hideIt (Rd.below HH.out HB4.out hhi)
 clear hb4
 by_cases hz:modE m=0
 case' pos=>
  rw [if_pos hz,hz]
  have hpp:=parse_print hz HNUM.out
  have HLE:=hideIt (modLe_of HSM.out)
  clear hz
  go_wp2_with fail
  refine(txt_Parse (bOf (printT m)) (hi:=hj) w4 (HE.out.to (HB4.out.mono hhj)) (Nat.le_trans hhj hs4)).mono ?_
  rintro e w5 ⟨hb5,cs5,hl5,he5,hr5⟩
  simp only [hpp] at he5 hr5
  obtain⟨u1,u2,u3,u6,u7,u8,rfl,h1,h2,h3,h4,h5,h6,h7,h8⟩:=rMod_iff.1 hr5
  obtain⟨D1,d1,rfl⟩:=sl_form h1
  obtain⟨D2,d2,rfl⟩:=sl_form h2
  obtain⟨D3,d3,rfl⟩:=sl_form h3
  obtain⟨D6,d6,rfl⟩:=sl_form h6
  obtain⟨D7,d7,rfl⟩:=sl_form h7
  obtain⟨D8,d8,rfl⟩:=sl_form h8
  subst he5
  have HB5:=hideIt (HB4.out.trans (hb5.mono hs4))
  have HM5:=hideIt (HM4.out.below hb5 HM4.out.lt)
  have HR5:=hideIt (Rd.below HH.out HB5.out hhi)
  have HP5:=hideIt hr5
  have hs5:w.heap.size≤w5.heap.size:=HB5.out.size
  clear hb5 hr5 h1 h2 h3 h4 h5 h6 h7 h8 hl5 hpp
  go_upto_region 7 with fail
  generalize hw6:World.alloc _ _=w6
  have hb6:Below w5.heap.size w5 w6:=by rw [←hw6];exact(Below.refl _ _).alloc (Nat.le_refl _) _
  have hn6:Blk w6 w5.heap.size 29 [.slice D1 m.types.length d1,.slice D2 m.hosts.length d2,.slice D3 m.globs.length d3,.int .i64 m.first,.int .i64 m.most,.slice D6 m.fns.length d6,.slice D7 m.dat.length d7,.slice D8 m.exps.length d8]:=by rw [←hw6];exact Blk.new w5 _ _
  have HN6:=hideIt hn6
  have HB6:=hideIt (HB5.out.trans (hb6.mono hs5))
  have HM6:=hideIt (HM5.out.below hb6 HM5.out.lt)
  have HEQ:=hideIt (eq_module [.slice D1 m.types.length d1,.slice D2 m.hosts.length d2,.slice D3 m.globs.length d3,.int .i64 m.first,.int .i64 m.most,.slice D6 m.fns.length d6,.slice D7 m.dat.length d7,.slice D8 m.exps.length d8] [.slice A1 m.types.length c1,.slice A2 m.hosts.length c2,.slice A3 m.globs.length c3,.int .i64 m.first,.int .i64 m.most,.slice A6 m.fns.length c6,.slice A7 m.dat.length c7,.slice A8 m.exps.length c8] w5.heap.size hi m m w6 (rMod.more (Nat.zero_le _) (Nat.le_refl _) (Rd.below HP5.out hb6 (Nat.le_refl _))) (Rd.below HH.out HB6.out hhi) hb6.size (Nat.le_trans hhi HB6.out.size) HLE.out)
  have hs6:w.heap.size≤w6.heap.size:=HB6.out.size
  clear hw6 hb6 hn6
  go_wp2_with (first | refine ldMg HM6.out rfl _ rfl rfl ?_ | refine ldMg HN6.out rfl _ rfl rfl ?_)
  refine HEQ.out.mono ?_
  rintro e w9 ⟨hb7,b,rfl,hb⟩
  obtain rfl:b=true:=hb.2 rfl
  have HB9:=hideIt (HB6.out.trans (hb7.mono hs6))
  clear hb7 hb HEQ HM6 HN6 HP5 HR5 HM5
 case' neg=>
  rw [if_neg hz]
  have hz0:(modE m==0)=false:=beq_eq_false_iff_ne.2 hz
  clear hz
  go_upto_region 9 with fail
  generalize hx9:w4=w9 at*
  have HB9:=HB4
  clear hx9
 all_goals
  have hs9:w.heap.size≤w9.heap.size:=HB9.out.size
  go_wp2_with fail
  refine(txt_Parse s (hi:=hj) w9 (HE.out.to (HB9.out.mono hhj)) (Nat.le_trans hhj hs9)).mono ?_
  rintro e w10 ⟨hb10,cs10,hl10,he10,hr10⟩
  have HK0:=hideIt (parseV_zero (s:=s))
  have HKS:=hideIt (parse_small s)
  generalize (parseV s).1=m2 at*
  generalize (parseV s).2.1=er at*
  generalize (parseV s).2.2=ln at*
  have HNM2:=hideIt (modNum_of hr10)
  obtain⟨u1,u2,u3,u6,u7,u8,rfl,h1,h2,h3,h4,h5,h6,h7,h8⟩:=rMod_iff.1 hr10
  obtain⟨E1,e1,rfl⟩:=sl_form h1
  obtain⟨E2,e2,rfl⟩:=sl_form h2
  obtain⟨E3,e3,rfl⟩:=sl_form h3
  obtain⟨E6,e6,rfl⟩:=sl_form h6
  obtain⟨E7,e7,rfl⟩:=sl_form h7
  obtain⟨E8,e8,rfl⟩:=sl_form h8
  subst he10
  have HB10:=hideIt (HB9.out.trans (hb10.mono hs9))
  have hs10:w.heap.size≤w10.heap.size:=HB10.out.size
  have HP10:=hideIt hr10
  clear hb10 hr10 h1 h2 h3 h4 h5 h6 h7 h8 hl10
  go_upto_region 10 with fail
  generalize hw11:World.alloc _ _=w11
  have hb11:Below w10.heap.size w10 w11:=by rw [←hw11];exact(Below.refl _ _).alloc (Nat.le_refl _) _
  have hn11:Blk w11 w10.heap.size 29 [.slice E1 m2.types.length e1,.slice E2 m2.hosts.length e2,.slice E3 m2.globs.length e3,.int .i64 m2.first,.int .i64 m2.most,.slice E6 m2.fns.length e6,.slice E7 m2.dat.length e7,.slice E8 m2.exps.length e8]:=by rw [←hw11];exact Blk.new w10 _ _
  have HN11:=hideIt hn11
  have HB11:=hideIt (HB10.out.trans (hb11.mono hs10))
  have hs11:w.heap.size≤w11.heap.size:=HB11.out.size
  have hz11:w10.heap.size≤w11.heap.size:=hb11.size
  have HP11:=hideIt (rMod.more (Nat.zero_le _) (Nat.le_refl _) (Rd.below HP10.out hb11 (Nat.le_refl _)))
  clear hw11 hb11 hn11
  by_cases he:er=0
  case neg=>
   have hz0:(er !=0)=true:=bne_iff_ne.2 he
   clear he
   go_wp2_with fail
   go_ret
   exact⟨HB11.out,rfl⟩
  subst he
  have hmz:=HK0.out rfl
  have hpp:=parse_print hmz HNM2.out
  have HLE2:=hideIt (modLe_of HKS.out)
  have HMZ:=hideIt hmz
  clear hmz
  go_wp2_with (refine ldM HN11.out rfl _ rfl rfl ?_)
  refine(txt_Print [.slice E1 m2.types.length e1,.slice E2 m2.hosts.length e2,.slice E3 m2.globs.length e3,.int .i64 m2.first,.int .i64 m2.most,.slice E6 m2.fns.length e6,.slice E7 m2.dat.length e7,.slice E8 m2.exps.length e8] w10.heap.size hj m2 w11 HP11.out hz11 HKS.out (HE.out.to (HB11.out.mono hhj)) (Nat.le_trans hhj hs11)).mono ?_
  rintro e w12 ⟨hb12,he12⟩
  rw [if_pos HMZ.out,HMZ.out] at he12
  subst he12
  have HB12:=hideIt (HB11.out.trans (hb12.mono hs11))
  have hs12:w.heap.size≤w12.heap.size:=HB12.out.size
  have HN12:=hideIt (HN11.out.below hb12 HN11.out.lt)
  have HP12:=hideIt (Rd.below HP11.out hb12 hz11)
  have hz12:w10.heap.size≤w12.heap.size:=Nat.le_trans hz11 hb12.size
  clear hb12
  go_wp2_with fail
  refine(txt_Parse (bOf (printT m2)) (hi:=hj) w12 (HE.out.to (HB12.out.mono hhj)) (Nat.le_trans hhj hs12)).mono ?_
  rintro e w13 ⟨hb13,cs13,hl13,he13,hr13⟩
  simp only [hpp] at he13 hr13
  obtain⟨u1,u2,u3,u6,u7,u8,rfl,h1,h2,h3,h4,h5,h6,h7,h8⟩:=rMod_iff.1 hr13
  obtain⟨G1,g1,rfl⟩:=sl_form h1
  obtain⟨G2,g2,rfl⟩:=sl_form h2
  obtain⟨G3,g3,rfl⟩:=sl_form h3
  obtain⟨G6,g6,rfl⟩:=sl_form h6
  obtain⟨G7,g7,rfl⟩:=sl_form h7
  obtain⟨G8,g8,rfl⟩:=sl_form h8
  subst he13
  have HB13:=hideIt (HB12.out.trans (hb13.mono hs12))
  have hs13:w.heap.size≤w13.heap.size:=HB13.out.size
  have HN13:=hideIt (HN12.out.below hb13 HN12.out.lt)
  have HP13:=hideIt (Rd.below HP12.out hb13 hz12)
  have hz13:w10.heap.size≤w13.heap.size:=Nat.le_trans hz12 hb13.size
  have HQ13:=hideIt hr13
  clear hb13 hr13 h1 h2 h3 h4 h5 h6 h7 h8 hl13 hpp
  go_upto_region 14 with fail
  generalize hw14:World.alloc _ _=w14
  have hb14:Below w13.heap.size w13 w14:=by rw [←hw14];exact(Below.refl _ _).alloc (Nat.le_refl _) _
  have hn14:Blk w14 w13.heap.size 29 [.slice G1 m2.types.length g1,.slice G2 m2.hosts.length g2,.slice G3 m2.globs.length g3,.int .i64 m2.first,.int .i64 m2.most,.slice G6 m2.fns.length g6,.slice G7 m2.dat.length g7,.slice G8 m2.exps.length g8]:=by rw [←hw14];exact Blk.new w13 _ _
  have HO14:=hideIt hn14
  have HN14:=hideIt (HN13.out.below hb14 HN13.out.lt)
  have HB14:=hideIt (HB13.out.trans (hb14.mono hs13))
  have hs14:w.heap.size≤w14.heap.size:=HB14.out.size
  have HP14:=hideIt (Rd.below HP13.out hb14 hz13)
  have HQ14:=hideIt (rMod.more (Nat.zero_le _) (Nat.le_refl _) (Rd.below HQ13.out hb14 (Nat.le_refl _)))
  have hz14:w13.heap.size≤w14.heap.size:=hb14.size
  clear hw14 hb14 hn14
  go_wp2_with (refine ldM HO14.out rfl _ rfl rfl ?_)
  refine(txt_Print [.slice G1 m2.types.length g1,.slice G2 m2.hosts.length g2,.slice G3 m2.globs.length g3,.int .i64 m2.first,.int .i64 m2.most,.slice G6 m2.fns.length g6,.slice G7 m2.dat.length g7,.slice G8 m2.exps.length g8] w13.heap.size hj m2 w14 HQ14.out hz14 HKS.out (HE.out.to (HB14.out.mono hhj)) (Nat.le_trans hhj hs14)).mono ?_
  rintro e w15 ⟨hb15,he15⟩
  rw [if_pos HMZ.out,HMZ.out] at he15
  subst he15
  have HB15:=hideIt (HB14.out.trans (hb15.mono hs14))
  have hs15:w.heap.size≤w15.heap.size:=HB15.out.size
  have HN15:=hideIt (HN14.out.below hb15 HN14.out.lt)
  have HO15:=hideIt (HO14.out.below hb15 HO14.out.lt)
  have hz15:w13.heap.size≤w15.heap.size:=Nat.le_trans hz14 hb15.size
  have HEQ2:=hideIt (eq_module [.slice E1 m2.types.length e1,.slice E2 m2.hosts.length e2,.slice E3 m2.globs.length e3,.int .i64 m2.first,.int .i64 m2.most,.slice E6 m2.fns.length e6,.slice E7 m2.dat.length e7,.slice E8 m2.exps.length e8] [.slice G1 m2.types.length g1,.slice G2 m2.hosts.length g2,.slice G3 m2.globs.length g3,.int .i64 m2.first,.int .i64 m2.most,.slice G6 m2.fns.length g6,.slice G7 m2.dat.length g7,.slice G8 m2.exps.length g8] w10.heap.size w13.heap.size m2 m2 w15 (Rd.below HP14.out hb15 (Nat.le_trans hz13 hz14)) (Rd.below HQ14.out hb15 hz14) (Nat.le_trans hz13 hz15) hz15 HLE2.out)
  clear hb15
  go_wp2_with (first | refine ldMg HN15.out rfl _ rfl rfl ?_ | refine ldMg HO15.out rfl _ rfl rfl ?_)
  refine HEQ2.out.mono ?_
  rintro e w16 ⟨hb16,b,rfl,hb⟩
  obtain rfl:b=true:=hb.2 rfl
  have HB16:=hideIt (HB15.out.trans (hb16.mono hs15))
  clear hb16 hb HEQ2
  go_wp2_with fail
  go_ret
  exact⟨HB16.out,rfl⟩
end Go.Proofs.YtebgikflpgcnlaaGreatDoor
