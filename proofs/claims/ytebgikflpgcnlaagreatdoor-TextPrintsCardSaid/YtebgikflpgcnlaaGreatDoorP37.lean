/- Part 37 of the proof: WrkA TbkA TpnA OpenM WrapS -/
import Derived.Handed
import Derived.HandedShaped
import Derived.Test.YtebgikflpgcnlaaGreatDoorP18
import Derived.Test.YtebgikflpgcnlaaGreatDoorP28
import Derived.Test.YtebgikflpgcnlaaGreatDoorP36
namespace Go.Proofs.YtebgikflpgcnlaaGreatDoor
set_option linter.unusedVariables false
set_option linter.unusedSimpArgs false
set_option maxRecDepth 100000
set_option maxHeartbeats 4000000
open Go.RowKit Tryz
theorem aB {α:Type} {r:Rd α} {W:World} {hi g:Nat} {t:TypeId} {vs:List Value} {xs:List α} (n:Nat) (hn:n=xs.length) (hb:AV W g t vs) (hg:g<hi) (hx: ∀(k:Nat) x,xs[k]?=some x→ ∃cs,r.R W 0 hi cs x∧ ∀(j:Nat) u,cs[j]?=some u→vs[k*r.z+j]?=some u):
 (r.sl false).R W 0 hi [.slice (some ⟨g,0,none⟩) n n] xs:=by
 subst hn
 refine⟨_,_,rfl,⟨fun h=>(by cases h),Nat.le_refl _⟩,fun _=>⟨g,0,rfl,Nat.zero_le _,hg,fun k x hk=> ?_⟩⟩
 obtain⟨cs,hr,hc⟩:=hx k x hk
 refine⟨cs,fun j u hu=> ?_,hr⟩
 have:=hb.cell (k*r.z+j)
 rw [hc j u hu] at this
 rwa [Nat.zero_add]
theorem vU {W:World} {hi g1 g2 g3 g4:Nat} (hb1:AV W g1 51 [.string ⟨#[119]⟩,.string ⟨#[]⟩]) (hb2:AV W g2 3 [.int .i64 0,.int .i64 1]) (hb3:AV W g3 53 [.int .u8 9,.int .i64 0,.slice (some ⟨g2,0,none⟩) 2 2,.int .u8 6,.int .i64 0,.slice none 0 0])
 (hb4:AV W g4 56 [.int .i64 0,.string ⟨#[108]⟩,.slice (some ⟨g3,0,none⟩) 2 2]) (h1:g1<hi) (h2:g2<hi) (h3:g3<hi) (h4:g4<hi):
 IZ.R W 0 hi [.slice (some ⟨g1,0,none⟩) 1 1,.slice none 0 0,.slice none 0 0,.int .i64 1,.int .i64 2,.slice (some ⟨g4,0,none⟩) 1 1,.slice none 0 0,.slice none 0 0] kM:=by
 have hz: ∀ {α:Type} (r:Rd α),(r.sl false).R W 0 hi [.slice none 0 0] []:=fun r=>⟨_,_,rfl,⟨fun h=>(by cases h),Nat.le_refl _⟩,fun h=>absurd h (Nat.lt_irrefl 0)⟩
 have hl:(Rd.i64.sl false).R W 0 hi [.slice (some ⟨g2,0,none⟩) 2 2] [0,1]:=aB 2 rfl hb2 h2 fun k x hk=>by
  rcases k with _ | _ | k
  ·obtain rfl:(0:Int)=x:=by simpa using hk
   exact⟨_,⟨rfl,by decide,by decide⟩,fun j u hu=>by rcases j with _ | j;exact hu;simp at hu⟩
  ·obtain rfl:(1:Int)=x:=by simpa using hk
   exact⟨_,⟨rfl,by decide,by decide⟩,fun j u hu=>by rcases j with _ | j;exact hu;simp at hu⟩
  ·simp at hk
 have hc:(I_.sl false).R W 0 hi [.slice (some ⟨g3,0,none⟩) 2 2] [⟨9,0,[0,1]⟩,⟨6,0,[]⟩]:=aB 2 rfl hb3 h3 fun k x hk=>by
  rcases k with _ | _ | k
  ·obtain rfl:(⟨9,0,[0,1]⟩:Av)=x:=by simpa using hk
   exact⟨_,D9.2 ⟨_,rfl,⟨by decide,by decide⟩,hl⟩,fun j u hu=>by rcases j with _ | _ | _ | j;exact hu;exact hu;exact hu;simp at hu⟩
  ·obtain rfl:(⟨6,0,[]⟩:Av)=x:=by simpa using hk
   exact⟨_,D9.2 ⟨_,rfl,⟨by decide,by decide⟩,hz _⟩,fun j u hu=>by rcases j with _ | _ | _ | j;exact hu;exact hu;exact hu;simp at hu⟩
  ·simp at hk
 have hf:(Tf.sl false).R W 0 hi [.slice (some ⟨g4,0,none⟩) 1 1] kM.fns:=aB 1 rfl hb4 h4 fun k x hk=>by
  rcases k with _ | k
  ·obtain rfl:(⟨0,⟨#[108]⟩,[⟨9,0,[0,1]⟩,⟨6,0,[]⟩]⟩:FL)=x:=by simpa [kM] using hk
   exact⟨_,Ob.2 ⟨_,rfl,⟨by decide,by decide⟩,(by decide:(1:Nat)≤140737488351232),hc⟩,fun j u hu=>by rcases j with _ | _ | _ | j;exact hu;exact hu;exact hu;simp at hu⟩
  ·simp [kM] at hk
 have ht:(Mr.sl false).R W 0 hi [.slice (some ⟨g1,0,none⟩) 1 1] kM.types:=aB 1 rfl hb1 h1 fun k x hk=>by
  rcases k with _ | k
  ·obtain rfl:(⟨⟨#[119]⟩,⟨#[]⟩⟩:Dl)=x:=by simpa [kM] using hk
   exact⟨_,Qk.2 ⟨rfl,(by decide:(1:Nat)≤140737488351232),Nat.zero_le _⟩,fun j u hu=>by rcases j with _ | _ | j;exact hu;exact hu;simp at hu⟩
  ·simp [kM] at hk
 exact DF.2 ⟨_,_,_,_,_,_,rfl,ht,hz _,hz _,⟨by decide,by decide⟩,⟨by decide,by decide⟩,hf,hz _,hz _⟩
theorem AAD {hi:Nat} (w:World) (hE:Dt hi w) (hhi:hi≤w.heap.size):
 Calls prog 7 #[] w fun e w'=>Below w.heap.size w w'∧e= .returned (.bool true):=by
 have HE:=AA hE
 clear hE
 go_enter func7,ntmps7
 go_upto_region 2 with fail
 generalize hw1:World.alloc _ _=w1
 have hb1:Below w.heap.size w w1:=by
  rw [←hw1]
  exact(((((Below.refl _ _).alloc (Nat.le_refl _) _).alloc (by simp only [World.size_alloc];omega) _).alloc (by simp only [World.size_alloc];omega) _).alloc (by simp only [World.size_alloc];omega) _).alloc (by simp only [World.size_alloc];omega) _
 have hk1:w1.heap.size=w.heap.size+1+1+1+1+1:=by rw [←hw1];simp only [World.size_alloc]
 have hm1:AV w1 (w.heap.size+1+1+1+1) 29 [.slice (some ⟨w.heap.size,0,none⟩) 1 1,.slice none 0 0,.slice none 0 0,.int .i64 1,.int .i64 2,.slice (some ⟨w.heap.size+1+1+1,0,none⟩) 1 1,.slice none 0 0,.slice none 0 0]:=by
  rw [←hw1];exact OL _ _ [_,_,_,_,_,_,_,_] (by simp only [World.size_alloc])
 have hr1:IZ.R w1 0 w1.heap.size [.slice (some ⟨w.heap.size,0,none⟩) 1 1,.slice none 0 0,.slice none 0 0,.int .i64 1,.int .i64 2,.slice (some ⟨w.heap.size+1+1+1,0,none⟩) 1 1,.slice none 0 0,.slice none 0 0] kM:=by
  refine vU (g2:=w.heap.size+1) (g3:=w.heap.size+1+1) ?_ ?_ ?_ ?_ (by omega) (by omega) (by omega) (by omega)
  ·rw [←hw1];exact((((OL w _ [_,_] rfl).alloc _).alloc _).alloc _).alloc _
  ·rw [←hw1];exact(((OL _ _ [_,_] (by simp only [World.size_alloc])).alloc _).alloc _).alloc _
  ·rw [←hw1];exact((OL _ _ [_,_,_,_,_,_] (by simp only [World.size_alloc])).alloc _).alloc _
  ·rw [←hw1];exact(OL _ _ [_,_,_] (by simp only [World.size_alloc])).alloc _
 have Y2:=AA hm1;have HR1:=AA hr1;have HB1:=AA hb1
 have hl1:=hm1.lt
 clear hw1 hb1 hm1 hr1
 go_wp2_with (refine ldM Y2.out rfl _ rfl rfl ?_)
 refine(ZH [.slice (some ⟨w.heap.size,0,none⟩) 1 1,.slice none 0 0,.slice none 0 0,.int .i64 1,.int .i64 2,.slice (some ⟨w.heap.size+1+1+1,0,none⟩) 1 1,.slice none 0 0,.slice none 0 0] w1.heap.size hi kM w1 HR1.out (Nat.le_refl _) (by decide+kernel) (HE.out.to (HB1.out.mono hhi)) (by omega)).mono ?_
 rintro e w2 ⟨hb2,he2⟩
 rw [if_pos ABt,ADu,ABt] at he2
 subst he2
 have HB2:=AA (HB1.out.trans (hb2.mono HB1.out.size))
 have hs2:w.heap.size≤w2.heap.size:=HB2.out.size
 have vV:=hb2.size
 have VF:=AA (Y2.out.below hb2 hl1)
 have HR2:=AA (Rd.below HR1.out hb2 (Nat.le_refl _))
 clear hb2
 go_wp2_with fail
 refine(ZF kT (hi:=hi) w2 (HE.out.to (HB2.out.mono hhi)) (by omega)).mono ?_
 rintro e w3 ⟨hb3,cs3,hl3,yw,hr3⟩
 simp only [sN] at yw hr3
 obtain⟨u1,u2,u3,u6,u7,u8,rfl,h1,h2,h3,h4,h5,h6,h7,h8⟩:=DF.1 hr3
 obtain⟨A1,c1,rfl⟩:=AU h1
 obtain⟨A2,c2,rfl⟩:=AU h2
 obtain⟨A3,c3,rfl⟩:=AU h3
 obtain⟨A6,c6,rfl⟩:=AU h6
 obtain⟨A7,c7,rfl⟩:=AU h7
 obtain⟨A8,c8,rfl⟩:=AU h8
 subst yw
 have HB3:=AA (HB2.out.trans (hb3.mono hs2))
 have hs3:w.heap.size≤w3.heap.size:=HB3.out.size
 have AAE:=hb3.size
 have Gz:=AA (VF.out.below hb3 VF.out.lt)
 have HR3:=AA (Rd.below HR2.out hb3 vV)
 have xQ:=AA hr3
 clear hb3 hr3 h1 h2 h3 h4 h5 h6 h7 h8 hl3
 go_wp2_with fail
 generalize hw4:World.alloc _ _=w4
 have hb4:Below w3.heap.size w3 w4:=by rw [←hw4];exact(Below.refl _ _).alloc (Nat.le_refl _) _
 have hn4:AV w4 w3.heap.size 29 [.slice A1 kM.types.length c1,.slice A2 kM.hosts.length c2,.slice A3 kM.globs.length c3,.int .i64 kM.first,.int .i64 kM.most,.slice A6 kM.fns.length c6,.slice A7 kM.dat.length c7,.slice A8 kM.AO.length c8]:=by rw [←hw4];exact AV.new w3 _ _
 have HN4:=AA hn4
 have hn4l:=hn4.lt
 have Ke:=AA (HB3.out.trans (hb4.mono hs3))
 have hs4:w.heap.size≤w4.heap.size:=Ke.out.size
 have ou:=hb4.size
 have HM4:=AA (Gz.out.below hb4 Gz.out.lt)
 have HR4:=AA (Rd.below HR3.out hb4 (Nat.le_trans vV AAE))
 have HP4:=AA (Rd.below xQ.out hb4 (Nat.le_refl _))
 clear hw4 hb4 hn4
 refine(ZF kB (hi:=hi) w4 (HE.out.to (Ke.out.mono hhi)) (by omega)).mono ?_
 rintro e w5 ⟨hb5,cs5,hl5,he5,Un⟩
 simp only [sO] at he5 Un
 obtain⟨u1,u2,u3,u6,u7,u8,rfl,h1,h2,h3,h4,h5,h6,h7,h8⟩:=DF.1 Un
 obtain⟨D1,d1,rfl⟩:=AU h1
 obtain⟨D2,d2,rfl⟩:=AU h2
 obtain⟨D3,d3,rfl⟩:=AU h3
 obtain⟨D6,d6,rfl⟩:=AU h6
 obtain⟨D7,d7,rfl⟩:=AU h7
 obtain⟨D8,d8,rfl⟩:=AU h8
 subst he5
 have I8:=AA (Ke.out.trans (hb5.mono hs4))
 have Ya:=AA (HM4.out.below hb5 HM4.out.lt)
 have mJ:=AA (HN4.out.below hb5 hn4l)
 have Ra:=AA (Rd.below HR4.out hb5 (Nat.le_trans vV (Nat.le_trans AAE ou)))
 have ow:=AA (Rd.below HP4.out hb5 ou)
 have vW:=hb5.size
 clear hb5 Un h1 h2 h3 h4 h5 h6 h7 h8 hl5
 go_upto_region 6 with fail
 generalize hw6:World.alloc _ _=w6
 have hb6:Below w5.heap.size w5 w6:=by rw [←hw6];exact(Below.refl _ _).alloc (Nat.le_refl _) _
 have MU:=AA (I8.out.trans (hb6.mono (Nat.le_trans hs4 vW)))
 have QN:=AA (Ya.out.below hb6 Ya.out.lt)
 have HN6:=AA (mJ.out.below hb6 mJ.out.lt)
 have HEQ:=AA (ZI [.slice A1 kM.types.length c1,.slice A2 kM.hosts.length c2,.slice A3 kM.globs.length c3,.int .i64 kM.first,.int .i64 kM.most,.slice A6 kM.fns.length c6,.slice A7 kM.dat.length c7,.slice A8 kM.AO.length c8] [.slice (some ⟨w.heap.size,0,none⟩) 1 1,.slice none 0 0,.slice none 0 0,.int .i64 1,.int .i64 2,.slice (some ⟨w.heap.size+1+1+1,0,none⟩) 1 1,.slice none 0 0,.slice none 0 0] w5.heap.size w5.heap.size kM kM w6 (IZ.more (Nat.zero_le _) (Nat.le_trans ou vW) (Rd.below ow.out hb6 (Nat.le_trans ou vW))) (IZ.more (Nat.le_refl _) (Nat.le_trans vV (Nat.le_trans AAE (Nat.le_trans ou vW))) (Rd.below Ra.out hb6 (Nat.le_trans vV (Nat.le_trans AAE (Nat.le_trans ou vW))))) hb6.size hb6.size (bR (by decide+kernel)))
 have hz6:=MU.out.size
 clear hw6 hb6
 rw [show({data:= #[102,108,97,103,111,110,10,116,121,112,101,32,119,32,45,62,32,45,10,109,101,109,111,114,121,32,49,32,50,10,102,117,110,99,32,48,32,108,10,32,32,98,114,116,97,98,108,101,32,48,32,49,10,32,32,101,110,100,10]}:ByteArray)=kT from rfl]
 go_wp2_with (first | refine u_ QN.out rfl _ rfl rfl ?_ | refine u_ HN6.out rfl _ rfl rfl ?_)
 refine HEQ.out.mono ?_
 rintro e w7 ⟨O8,b,rfl,hb⟩
 obtain rfl:b=true:=hb.2 rfl
 have dK:=AA (MU.out.trans (O8.mono hz6))
 clear O8 hb HEQ
 go_wp2_with fail
 go_ret
 exact⟨dK.out,rfl⟩

structure fH (W:World) (lo hi:Nat) (b1 b2 b3 b6 b7 b8:Nat) (x:AQ):Prop where
 types:(Mr.wide mkS).R W lo hi [.slice (some ⟨b1,0,none⟩) x.types.length (x.types.length+64)] x.types
 hosts:ZP.R W lo hi [.slice (some ⟨b2,0,none⟩) x.hosts.length (x.hosts.length+64)] x.hosts
 globs:(JG.wide mkG).R W lo hi [.slice (some ⟨b3,0,none⟩) x.globs.length (x.globs.length+64)] x.globs
 fns:(wFn.wide mkF).R W lo hi [.slice (some ⟨b6,0,none⟩) x.fns.length (x.fns.length+64)] x.fns
 dat:(fA.wide mkD).R W lo hi [.slice (some ⟨b7,0,none⟩) x.dat.length (x.dat.length+64)] x.dat
 AO:(M_.wide mkE).R W lo hi [.slice (some ⟨b8,0,none⟩) x.AO.length (x.AO.length+64)] x.AO
theorem fH.below {W W':World} {lo hi b1 b2 b3 b6 b7 b8:Nat} {x:AQ} (h:fH W lo hi b1 b2 b3 b6 b7 b8 x) {B:Nat} (hb:Below B W W') (hB:hi≤B):fH W' lo hi b1 b2 b3 b6 b7 b8 x:=
 ⟨Rd.below h.types hb hB,Rd.below h.hosts hb hB,Rd.below h.globs hb hB,Rd.below h.fns hb hB,Rd.below h.dat hb hB,Rd.below h.AO hb hB⟩
theorem YI.names {W:World} {lo hi:Nat} {cs:List Value} {x:AQ} (h:YI W lo hi cs x): ∃b1 b2 b3 b6 b7 b8,cs= [.slice (some ⟨b1,0,none⟩) x.types.length (x.types.length+64),.slice (some ⟨b2,0,none⟩) x.hosts.length (x.hosts.length+64),.slice (some ⟨b3,0,none⟩) x.globs.length (x.globs.length+64),.int .i64 x.first,.int .i64 x.most,.slice (some ⟨b6,0,none⟩) x.fns.length (x.fns.length+64),.slice (some ⟨b7,0,none⟩) x.dat.length (x.dat.length+64),.slice (some ⟨b8,0,none⟩) x.AO.length (x.AO.length+64)]∧fH W lo hi b1 b2 b3 b6 b7 b8 x:=by
 obtain⟨v1,v2,v3,v6,v7,v8,rfl,h1,h2,h3,h4,h5,h6,h7,h8⟩:=h
 obtain⟨b1,e1,-,-⟩:=Df h1
 obtain⟨b2,e2,-,-⟩:=Df h2
 obtain⟨b3,e3,-,-⟩:=Df h3
 obtain⟨b6,e6,-,-⟩:=Df h6
 obtain⟨b7,e7,-,-⟩:=Df h7
 obtain⟨b8,e8,-,-⟩:=Df h8
 injection e1 with e1 _;injection e2 with e2 _;injection e3 with e3 _;injection e6 with e6 _;injection e7 with e7 _;injection e8 with e8 _
 subst e1 e2 e3 e6 e7 e8
 exact⟨b1,b2,b3,b6,b7,b8,rfl,h1,h2,h3,h6,h7,h8⟩
theorem xD (x:AQ) (b1 b2 b3 b6 b7 b8 lo hi:Nat) {hj:Nat} (w:World) (h:fH w lo hi b1 b2 b3 b6 b7 b8 x) (hhi:hi≤w.heap.size) (hf:wm x) (hE:Dt hj w) (KQ:hj≤w.heap.size):
 Calls prog 13 #[.agg #[.slice (some ⟨b1,0,none⟩) x.types.length (x.types.length+64),.slice (some ⟨b2,0,none⟩) x.hosts.length (x.hosts.length+64),.slice (some ⟨b3,0,none⟩) x.globs.length (x.globs.length+64),.int .i64 x.first,.int .i64 x.most,.slice (some ⟨b6,0,none⟩) x.fns.length (x.fns.length+64),.slice (some ⟨b7,0,none⟩) x.dat.length (x.dat.length+64),.slice (some ⟨b8,0,none⟩) x.AO.length (x.AO.length+64)]] w fun e w'=>Below w.heap.size w w'∧e= .returned (.bool true):=by
 have H:=AA h;have HF:=AA hf;have HE:=AA hE
 clear h hf hE
 go_enter func13,ntmps13
 go_upto_region 1 with fail
 generalize hw:World.alloc _ _=w1
 have HB1:Hid (Below w.heap.size w w1):=AA (by rw [←hw];exact(Below.refl _ _).alloc (Nat.le_refl _) _)
 have Y2:Hid (AV w1 w.heap.size 29 [.slice (some ⟨b1,0,none⟩) x.types.length (x.types.length+64),.slice (some ⟨b2,0,none⟩) x.hosts.length (x.hosts.length+64),.slice (some ⟨b3,0,none⟩) x.globs.length (x.globs.length+64),.int .i64 x.first,.int .i64 x.most,.slice (some ⟨b6,0,none⟩) x.fns.length (x.fns.length+64),.slice (some ⟨b7,0,none⟩) x.dat.length (x.dat.length+64),.slice (some ⟨b8,0,none⟩) x.AO.length (x.AO.length+64)]):=AA (by rw [←hw];exact AV.new w _ _)
 have c1:=Y2.out.q 0 rfl
 clear hw
 go_wp2_with fail
 refine(AC9 b1 lo hi x.types w1 (H.out.below HB1.out hhi).types (Nat.le_trans hhi HB1.out.size) HF.out.types (HE.out.to (HB1.out.mono KQ)) (Nat.le_trans KQ HB1.out.size)).mono ?_
 rintro e w2 ⟨hb2,rfl⟩
 have HB2:=AA (HB1.out.trans (hb2.mono HB1.out.size))
 have VF:=AA (Y2.out.below hb2 Y2.out.lt)
 have c2:=VF.out.q 1 rfl
 clear hb2 c1
 go_wp2_with fail
 refine(w_ b2 lo hi x.hosts w2 (H.out.below HB2.out hhi).hosts (Nat.le_trans hhi HB2.out.size) HF.out.hosts).mono ?_
 rintro e w3 ⟨hb3,rfl⟩
 have HB3:=AA (HB2.out.trans (hb3.mono HB2.out.size))
 have Gz:=AA (VF.out.below hb3 VF.out.lt)
 have c3:=Gz.out.q 2 rfl
 clear hb3 c2
 go_wp2_with fail
 refine(pX b3 lo hi x.globs w3 (H.out.below HB3.out hhi).globs (Nat.le_trans hhi HB3.out.size) HF.out.globs).mono ?_
 rintro e w4 ⟨hb4,rfl⟩
 have Ke:=AA (HB3.out.trans (hb4.mono HB3.out.size))
 have HM4:=AA (Gz.out.below hb4 Gz.out.lt)
 have c6:=HM4.out.q 5 rfl
 clear hb4 c3
 go_wp2_with fail
 refine(fG b6 lo hi x.fns w4 (H.out.below Ke.out hhi).fns (Nat.le_trans hhi Ke.out.size) HF.out.fns HF.out.fn).mono ?_
 rintro e w5 ⟨hb5,rfl⟩
 have I8:=AA (Ke.out.trans (hb5.mono Ke.out.size))
 have Ya:=AA (HM4.out.below hb5 HM4.out.lt)
 have c7:=Ya.out.q 6 rfl
 clear hb5 c6
 go_wp2_with fail
 refine(AAj b7 lo hi x.dat w5 (H.out.below I8.out hhi).dat (Nat.le_trans hhi I8.out.size) HF.out.dat HF.out.da).mono ?_
 rintro e w6 ⟨hb6,rfl⟩
 have MU:=AA (I8.out.trans (hb6.mono I8.out.size))
 have QN:=AA (Ya.out.below hb6 Ya.out.lt)
 have c8:=QN.out.q 7 rfl
 clear hb6 c7
 go_wp2_with fail
 refine(pY b8 lo hi x.AO w6 (H.out.below MU.out hhi).AO (Nat.le_trans hhi MU.out.size) HF.out.AO (HE.out.to (MU.out.mono KQ)) (Nat.le_trans KQ MU.out.size)).mono ?_
 rintro e w7 ⟨O8,rfl⟩
 have dK:=AA (MU.out.trans (O8.mono MU.out.size))
 clear O8 c8
 go_wp2_with fail
 go_ret
 exact⟨dK.out,rfl⟩
theorem jV (cs:List Value) (hi hj:Nat) (m:AQ) (w:World) (h:IZ.R w 0 hi cs m) (hhi:hi≤w.heap.size) (hin:rG m) (hE:Dt hj w) (KQ:hj≤w.heap.size):
 Calls prog 3 #[.agg cs.toArray] w fun e w'=>Below w.heap.size w w'∧e= .returned (.bool true):=by
 obtain⟨v1,v2,v3,v6,v7,v8,rfl,h1,h2,h3,h4,h5,h6,h7,h8⟩:=DF.1 h
 obtain⟨A1,c1,rfl⟩:=AU h1
 obtain⟨A2,c2,rfl⟩:=AU h2
 obtain⟨A3,c3,rfl⟩:=AU h3
 obtain⟨A6,c6,rfl⟩:=AU h6
 obtain⟨A7,c7,rfl⟩:=AU h7
 obtain⟨A8,c8,rfl⟩:=AU h8
 have HH:=AA h;have HE:=AA hE;have OJ:=AA hin
 have H1:=AA h1;have H2:=AA h2;have H3:=AA h3;have H4:=AA h4;have H5:=AA h5;have H6:=AA h6;have H7:=AA h7;have H8:=AA h8
 clear h hE hin h1 h2 h3 h4 h5 h6 h7 h8
 go_enter func3,ntmps3
 go_wp2_with fail
 generalize hw1:World.alloc _ _=w1
 have hb1:Below w.heap.size w w1:=by rw [←hw1];exact(Below.refl _ _).alloc (Nat.le_refl _) _
 have hm1:AV w1 w.heap.size 29 [.slice A1 m.types.length c1,.slice A2 m.hosts.length c2,.slice A3 m.globs.length c3,.int .i64 m.first,.int .i64 m.most,.slice A6 m.fns.length c6,.slice A7 m.dat.length c7,.slice A8 m.AO.length c8]:=by rw [←hw1];exact AV.new w _ _
 have HB1:=AA hb1;have Y2:=AA hm1
 have hl1:=hm1.lt
 clear hw1 hb1 hm1
 refine(AAD (hi:=hj) w1 (HE.out.to (HB1.out.mono KQ)) (Nat.le_trans KQ HB1.out.size)).mono ?_
 rintro e w2 ⟨hb2,rfl⟩
 have HB2:=AA (HB1.out.trans (hb2.mono HB1.out.size))
 have VF:=AA (Y2.out.below hb2 hl1)
 have hs2:w.heap.size≤w2.heap.size:=HB2.out.size
 clear hb2
 have HR2:=AA (Rd.below HH.out HB2.out hhi)
 have HSZ:=AA (bI _ hi m w2 HR2.out (Nat.le_trans hhi hs2) OJ.out)
 go_wp2_with (refine ldM VF.out rfl _ rfl rfl ?_)
 refine HSZ.out.mono ?_
 rintro e w3 ⟨hb3,n,rfl,hcap⟩
 have HB3:=AA (HB2.out.trans (hb3.mono hs2))
 have Gz:=AA (VF.out.below hb3 VF.out.lt)
 have hs3:w.heap.size≤w3.heap.size:=HB3.out.size
 have HCAP:=AA hcap
 clear hb3 hcap HSZ
 by_cases hn:131072<n
 ·have d1:decide ((131072:Int)<n)=true:=decide_eq_true (by omega)
  clear hn
  go_wp2_with fail
  go_ret
  exact⟨HB3.out,rfl⟩
 have d1:decide ((131072:Int)<n)=false:=decide_eq_false (by omega)
 have hsm:Ad m≤131072:=by have:=HCAP.out;unfold Cap at this;omega
 have AFf:=AA (AFc hsm)
 have HSM:Hid (Ad m≤2147483647):=AA (by omega)
 clear hn hsm
 have HWM:=AA (wu m A1 A2 A3 A6 A7 A8 c1 c2 c3 c6 c7 c8 hi (hj:=hj) w3 (Rd.below H1.out HB3.out hhi) (Rd.below H2.out HB3.out hhi) (Rd.below H3.out HB3.out hhi) H4.out H5.out (Rd.below H6.out HB3.out hhi) (Rd.below H7.out HB3.out hhi) (Rd.below H8.out HB3.out hhi) (Nat.le_trans hhi hs3) AFf.out (HE.out.to (HB3.out.mono KQ)) (Nat.le_trans KQ hs3))
 go_wp2_with (refine ldM Gz.out rfl _ rfl rfl ?_)
 refine HWM.out.mono ?_
 rintro e w4 ⟨hb4,ks,rfl,hk4⟩
 obtain⟨b1,b2,b3,b6,b7,b8,rfl,AFg⟩:=hk4.names
 have Ke:=AA (HB3.out.trans (hb4.mono hs3))
 have HM4:=AA (Gz.out.below hb4 Gz.out.lt)
 have hs4:w.heap.size≤w4.heap.size:=Ke.out.size
 have xL:=AA (IZ.more (Nat.zero_le _) (Nat.le_refl _) hk4.mod)
 have HKB4:=AA AFg
 clear hb4 hk4 AFg HWM
 go_upto_region 5 with fail
 generalize VU:World.alloc _ _=w5
 have hb5:Below w4.heap.size w4 w5:=by rw [←VU];exact(Below.refl _ _).alloc (Nat.le_refl _) _
 have mJ:Hid (AV w5 w4.heap.size 29 [.slice (some ⟨b1,0,none⟩) m.types.length (m.types.length+64),.slice (some ⟨b2,0,none⟩) m.hosts.length (m.hosts.length+64),.slice (some ⟨b3,0,none⟩) m.globs.length (m.globs.length+64),.int .i64 m.first,.int .i64 m.most,.slice (some ⟨b6,0,none⟩) m.fns.length (m.fns.length+64),.slice (some ⟨b7,0,none⟩) m.dat.length (m.dat.length+64),.slice (some ⟨b8,0,none⟩) m.AO.length (m.AO.length+64)]):=AA (by rw [←VU];exact AV.new w4 _ _)
 have I8:=AA (Ke.out.trans (hb5.mono hs4))
 have Ya:=AA (HM4.out.below hb5 HM4.out.lt)
 have hs5:w.heap.size≤w5.heap.size:=I8.out.size
 have hz5:w4.heap.size≤w5.heap.size:=hb5.size
 have Rb:=AA (Rd.below xL.out hb5 (Nat.le_refl _))
 have HKB5:=AA (HKB4.out.below hb5 (Nat.le_refl _))
 clear VU hb5
 go_wp2_with (refine ldM mJ.out rfl _ rfl rfl ?_)
 refine(ZH _ w4.heap.size hj m w5 Rb.out hz5 HSM.out (HE.out.to (I8.out.mono KQ)) (Nat.le_trans KQ hs5)).mono ?_
 rintro e w6 ⟨hb6,rfl⟩
 have MU:=AA (I8.out.trans (hb6.mono hs5))
 have QN:=AA (Ya.out.below hb6 Ya.out.lt)
 have HN6:=AA (mJ.out.below hb6 mJ.out.lt)
 have hs6:w.heap.size≤w6.heap.size:=MU.out.size
 have hz6:w4.heap.size≤w6.heap.size:=Nat.le_trans hz5 hb6.size
 have uT:=AA (Rd.below Rb.out hb6 hz5)
 have HKB6:=AA (HKB5.out.below hb6 hz5)
 have iN:=AA (Rd.below HH.out MU.out hhi)
 clear hb6
 generalize hsx:(if FM m=0 then BA (Il m) else none_)=sx
 have HSX:=AA hsx
 clear hsx
 go_wp2_with (refine ldM QN.out rfl _ rfl rfl ?_)
 refine(wT _ hi hj m w6 iN.out (Nat.le_trans hhi hs6) HSM.out (HE.out.to (MU.out.mono KQ)) (Nat.le_trans KQ hs6)).mono ?_
 rintro e w7 ⟨O8,he7⟩
 rw [HSX.out] at he7
 subst he7
 have dK:=AA (MU.out.trans (O8.mono hs6))
 have HM7:=AA (QN.out.below O8 QN.out.lt)
 have HN7:=AA (HN6.out.below O8 HN6.out.lt)
 have hs7:w.heap.size≤w7.heap.size:=dK.out.size
 have hz7:w4.heap.size≤w7.heap.size:=Nat.le_trans hz6 O8.size
 have xM:=AA (Rd.below uT.out O8 hz6)
 have HKB7:=AA (HKB6.out.below O8 hz6)
 clear O8
 have HEQ:=AA (ZI _ [.slice A1 m.types.length c1,.slice A2 m.hosts.length c2,.slice A3 m.globs.length c3,.int .i64 m.first,.int .i64 m.most,.slice A6 m.fns.length c6,.slice A7 m.dat.length c7,.slice A8 m.AO.length c8] w4.heap.size hi m m w7 xM.out (Rd.below HH.out dK.out hhi) hz7 (Nat.le_trans hhi hs7) (bR HSM.out))
 generalize FM m=er at*
 have e1:(sx.toList==sx.toList)=true:=by simp
 have e2:(er==er)=true:=by simp
 go_wp2_with (first | refine u_ HM7.out rfl _ rfl rfl ?_ | refine u_ HN7.out rfl _ rfl rfl ?_)
 refine HEQ.out.mono ?_
 rintro e w8 ⟨FX,b,rfl,hb⟩
 obtain rfl:b=true:=hb.2 rfl
 have NC:=AA (dK.out.trans (FX.mono hs7))
 have HN8:=AA (HN7.out.below FX HN7.out.lt)
 have xU:w.heap.size≤w8.heap.size:=NC.out.size
 have hz8:w4.heap.size≤w8.heap.size:=Nat.le_trans hz7 FX.size
 have HKB8:=AA (HKB7.out.below FX hz7)
 clear FX hb HEQ
 go_wp2_with (refine u_ HN8.out rfl _ rfl rfl ?_)
 refine(xD m b1 b2 b3 b6 b7 b8 _ w4.heap.size (hj:=hj) w8 HKB8.out hz8 AFf.out (HE.out.to (NC.out.mono KQ)) (Nat.le_trans KQ xU)).mono ?_
 rintro e w9 ⟨yX,rfl⟩
 have Pq:=AA (NC.out.trans (yX.mono xU))
 clear yX
 go_wp2_with fail
 go_ret
 exact⟨Pq.out,rfl⟩
theorem Jc {α:Type} {P:Program} {t:TypeId} {r:Rd α} {ok ok':α→Prop} (h:Opens P t r ok) (hm: ∀x,ok x→ok' x):Opens P t r ok':=
 ⟨h.1,fun hx hw=>by obtain⟨y,hy,hk⟩:=h.2 hx hw;exact⟨y,hy,hm y hk⟩⟩
theorem aM:Opens prog 9 Rd.str Rd.U6:=lI underlying9 (by kernel_rfl)
theorem U3:Opens prog 3 Rd.i64 Rd.Ej:=Yk underlying3 (by kernel_rfl)
theorem xE:Opens prog 2 Rd.i64 Rd.Ej:=Yk underlying2 (by kernel_rfl)
theorem xG:Opens prog 5 Rd.u8 (fun _=>True):=qj underlying5 (by kernel_rfl)
theorem ADA:Opens prog 80 Rd.u64 Rd.B64:=lH underlying80 (by kernel_rfl)
theorem AAk:Opens prog 4 Rd.bool (fun _=>True):=fq underlying4 (by kernel_rfl)
def Bd {α:Type} (ok:α→Prop) (l:List α):Prop:=l.length≤140737488351232∧ ∀x∈l,ok x
theorem VT {α:Type} {P:Program} {t e:TypeId} {r:Rd α} {ok:α→Prop} (ht:P.underlying t=some (.slice e)) (hc:P.cellsOf t=1) (he:Opens P e r ok) {jW:Nat} (hby:P.bytesOf e=jW) (h1:0<jW) (hz:0<P.cellsOf e):Opens P t (r.sl false) (Bd ok):=
 Jc (qm ht hc he hby hz) fun x hx=>⟨Nat.le_trans (by have:=Nat.mul_le_mul_left x.length h1;omega) hx.1,hx.2⟩
theorem lC:Opens prog 23 (Rd.i64.sl false) (Bd Rd.Ej):=VT underlying23 (by kernel_rfl) U3 (jW:=8) (by kernel_rfl) (by decide) (of_decide_eq_true (by kernel_rfl))
theorem xH:Opens prog 41 (Rd.u8.sl false) (Bd fun _=>True):=VT underlying41 (by kernel_rfl) xG (jW:=1) (by kernel_rfl) (by decide) (of_decide_eq_true (by kernel_rfl))
theorem ADB:Opens prog 51 Mr (fun _=>True):=
 Jc (MW (Ih underlying51 (by kernel_rfl) (Ap (by rfl) aM (Ap (by rfl) aM Kj))) (fun x:Dl=>(x.p,x.r,())) (fun a=>⟨a.1,a.2.1⟩) (fun _=>rfl)) fun _ _=>trivial
theorem AAl:Opens prog 82 JG (fun _=>True):=
 Jc (MW (Ih underlying82 (by kernel_rfl) (Ap (by rfl) xG (Ap (by rfl) AAk (Ap (by rfl) ADA Kj)))) (fun x:Ep=>(x.l,x.m,x.v,())) (fun a=>⟨a.1,a.2.1,a.2.2.1⟩) (fun _=>rfl)) fun _ _=>trivial
theorem ADC:Opens prog 53 I_ Yo:=
 Jc (MW (Ih underlying53 (by kernel_rfl) (Ap (by rfl) xG (Ap (by rfl) xE (Ap (by rfl) lC Kj)))) (fun x:Av=>(x.op,x.a,x.l,())) (fun a=>⟨a.1,a.2.1,a.2.2.1⟩) (fun _=>rfl)) fun x h=>h.2.2.1.1
theorem AAm:Opens prog 54 (I_.sl false) (Bd Yo):=VT underlying54 (by kernel_rfl) ADC (jW:=40) (by kernel_rfl) (by decide) (of_decide_eq_true (by kernel_rfl))
theorem AFh:Opens prog 56 Tf ABe:=
 Jc (MW (Ih underlying56 (by kernel_rfl) (Ap (by rfl) U3 (Ap (by rfl) aM (Ap (by rfl) AAm Kj)))) (fun x:FL=>(x.t,x.loc,x.code,())) (fun a=>⟨a.1,a.2.1,a.2.2.1⟩) (fun _=>rfl)) fun x h=>⟨h.2.1,h.2.2.1.1,h.2.2.1.2⟩
theorem ADE:Opens prog 59 Kz (fun x=>x.b.length≤140737488351232):=
 Jc (MW (Ih underlying59 (by kernel_rfl) (Ap (by rfl) U3 (Ap (by rfl) xH Kj))) (fun x:EZ=>(x.at_,x.b,())) (fun a=>⟨a.1,a.2.1⟩) (fun _=>rfl)) fun x h=>h.2.1.1
theorem ADF:Opens prog 61 M_ (fun _=>True):=
 Jc (MW (Ih underlying61 (by kernel_rfl) (Ap (by rfl) aM (Ap (by rfl) U3 Kj))) (fun x:LA=>(x.n,x.f,())) (fun a=>⟨a.1,a.2.1⟩) (fun _=>rfl)) fun _ _=>trivial
theorem AAn:Opens prog 22 (Mr.sl false) (Bd fun _=>True):=VT underlying22 (by kernel_rfl) ADB (jW:=32) (by kernel_rfl) (by decide) (of_decide_eq_true (by kernel_rfl))
theorem xI:Opens prog 24 (JG.sl false) (Bd fun _=>True):=VT underlying24 (by kernel_rfl) AAl (jW:=16) (by kernel_rfl) (by decide) (of_decide_eq_true (by kernel_rfl))
theorem ADG:Opens prog 25 (Tf.sl false) (Bd ABe):=VT underlying25 (by kernel_rfl) AFh (jW:=48) (by kernel_rfl) (by decide) (of_decide_eq_true (by kernel_rfl))
theorem AAo:Opens prog 26 (Kz.sl false) (Bd fun x=>x.b.length≤140737488351232):=VT underlying26 (by kernel_rfl) ADE (jW:=32) (by kernel_rfl) (by decide) (of_decide_eq_true (by kernel_rfl))
theorem AAp:Opens prog 27 (M_.sl false) (Bd fun _=>True):=VT underlying27 (by kernel_rfl) ADF (jW:=24) (by kernel_rfl) (by decide) (of_decide_eq_true (by kernel_rfl))
theorem aN:Opens prog 29 IZ rG:=
 Jc (MW (Ih underlying29 (by kernel_rfl) (Ap (by rfl) AAn (Ap (by rfl) lC (Ap (by rfl) xI (Ap (by rfl) U3 (Ap (by rfl) U3 (Ap (by rfl) ADG (Ap (by rfl) AAo (Ap (by rfl) AAp Kj))))))))) (fun x:AQ=>(x.types,x.hosts,x.globs,x.first,x.most,x.fns,x.dat,x.AO,())) (fun a=>⟨a.1,a.2.1,a.2.2.1,a.2.2.2.1,a.2.2.2.2.1,a.2.2.2.2.2.1,a.2.2.2.2.2.2.1,a.2.2.2.2.2.2.2.1⟩) (fun _=>rfl)) fun x ⟨h1,h2,h3,_,_,h6,h7,h8,_⟩=>⟨h1.1,h2.1,h3.1,h6.1,h6.2,h7.1,h7.2,h8.1⟩
section
variable {H:Type} {enc:TypeId×Value→H}
theorem UR {a:Assume} {C:Checked} {os:Os} {f:FuncId} {fn:Func} {s:ChangeSpec} {conds:List PathCond} {apart fresh handsOn again:Bool} {X:World→Array Value→Prop}
 (hX: ∀(w w':World) (args:Array Value),w.heap=w'.heap→X w args→X w' args)
 (own:ownKnob C.prog.godebug=none) (started:os.Started) (noInit:C.prog.inits.idxOf? f=none) (hfn:C.prog.funcs[f]?=some fn)
 (witness: ∃(w:World) (tape:Tape) (i:Input),w.os=os∧(w.forCall tape i).Shaped C.prog∧i.vars= []∧Input.okWide C.prog (w.forCall tape i) .any w.heap.size f i∧
  ((s.pre enc C.prog fn conds apart (w.forCall tape i).memory i.args∧X (w.forCall tape i).memory i.args)∧sizedMet enc C.prog fn (OpenSpec.ofChange s) apart (w.forCall tape i).memory i.args)∧a.holds C.prog (lone (Frame.enter C.prog f i.args .normal) [] (w.forCall tape i)))
 (contract: ∀(W:World) (base:Nat) (args:Array Value) (ds gs:List (DataW H)) (before:List MemPlace),
  (∀(j:Nat) t v,fn.params[j]?=some t→args[j]?=some v→Value.okWide C.prog W .any base t v)→
  DataW.Whole enc C.prog fn.params.toList s.vars apart W args.toList ds gs before→
  conds.all (PathCond.test C.prog ⟨fn.params.toList,ds,s.plain.varTypes C.prog,gs⟩)=true→
  (DataW.weightsEach C.prog (fn.params.toList++s.plain.varTypes C.prog) (ds++gs)).all (· ≤reachBytes)=true→X W args→W.ShapedOpen C.prog→
  a.holds C.prog (lone (Frame.enter C.prog f args .normal) [] W)→
  Calls C.prog f args W fun e W'=> ∃v,e= .returned v∧s.post enc C.prog fn apart fresh handsOn again W args v W'):
 ReturnsInHanded a C os f .any (fun w args=>(s.pre enc C.prog fn conds apart w args∧X w args)∧sizedMet enc C.prog fn (OpenSpec.ofChange s) apart w args) (s.post enc C.prog fn apart fresh handsOn again):=by
 refine returnsInHanded_of_calls own started noInit witness ?_
 intro w tape i _ hsh _ hok hpre hholds
 obtain⟨_,_,_,fn',hfn',_,_,_,_,hval⟩:=hok
 obtain rfl:fn'=fn:=Option.some.inj (hfn'.symm.trans hfn)
 obtain⟨⟨⟨ds,gs,before,hw,hc⟩,hx⟩,hz⟩:=hpre
 have hw':=DataW.Whole.of_heap (w':=w.forCall tape i) (by rfl) hw
 refine(contract (w.forCall tape i) w.heap.size i.args ds gs before hval hw' hc (hz.weights hw) (hX _ _ _ (show(w.forCall tape i).memory.heap=(w.forCall tape i).heap from rfl) hx) hsh hholds).mono fun e W' ⟨v,he,hp⟩=> ?_
 subst he
 exact ChangeSpec.post_blind hp
end
end Go.Proofs.YtebgikflpgcnlaaGreatDoor
