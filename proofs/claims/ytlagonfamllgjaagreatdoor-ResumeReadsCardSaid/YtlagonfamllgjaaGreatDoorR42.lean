/- Part 42 of the proof: R10Q R14F FrmF ResC ResD ResA ResE -/
import Derived.Test.YtlagonfamllgjaaGreatDoorR24
import Derived.Test.YtlagonfamllgjaaGreatDoorR28
import Derived.Test.YtlagonfamllgjaaGreatDoorR38
import Derived.Test.YtlagonfamllgjaaGreatDoorR39
import Derived.Test.YtlagonfamllgjaaGreatDoorR41
namespace Go.Proofs.YtlagonfamllgjaaGreatDoor
set_option linter.unusedVariables false
set_option linter.unusedSimpArgs false
set_option maxRecDepth 100000
set_option maxHeartbeats 4000000
open Go.RowKit Tryz
theorem S9 (cs:List Value) (hi:Nat) (m:AP) (w:World) (h:Db.R w 0 hi cs m) (hhi:hi≤w.heap.size) (hle:BU m≤2147483647) (Cr:Ev m):
 Calls prog 19 #[.agg cs.toArray] w fun e w'=>mY m w e w':=by
 have H:=AA h;have GZ:=AA hle;have HN:=AA Cr
 obtain⟨i0,z0,hi0,hz,hs',hb,hzz⟩:=info_parts' Ow
 have Hi:=AA hi0;have Hz:=AA hz;have Hs:=AA hs';have Hb:=AA hb;have M5:=AA hzz;clear hi0 hz hs' hb hzz
 obtain⟨v1,v2,v3,v4,v5,v6,rfl,_,_,_,_,_,h5,_,_⟩:=Av.1 h
 obtain⟨A5,c5,rfl⟩:=AJ h5
 clear h hle Cr h5
 go_enter func19,ntmps19
 go_upto_region 1 with fail
 generalize hw1:w.alloc (.cells #[v1,v2,v3,.int .i64 m.first,.int .i64 m.most,.slice A5 m.fns.length c5,v5,v6] 29)=w1
 have HB1:Hid (Below w.heap.size w w1):=AA (by rw [←hw1];exact(Below.refl _ _).alloc (Nat.le_refl _) _)
 have PI:Hid (AQ w1 w.heap.size 29 [v1,v2,v3,.int .i64 m.first,.int .i64 m.most,.slice A5 m.fns.length c5,v5,v6]):=AA (by rw [←hw1];exact AQ.new w 29 _)
 have q0:=PI.out.q 0 rfl
 have q1:=PI.out.q 1 rfl
 have q2:=PI.out.q 2 rfl
 have q3:=PI.out.q 3 rfl
 have q4:=PI.out.q 4 rfl
 have q5:=PI.out.q 5 rfl
 have q6:=PI.out.q 6 rfl
 have q7:=PI.out.q 7 rfl
 clear hw1
 go_wp2_with fail
 refine(mQ _ hi m w1 (Rd.below H.out HB1.out hhi) (Nat.le_trans hhi HB1.out.size) GZ.out HN.out).mono ?_
 rintro e w2 ⟨hb2,rfl⟩
 have HB2:=AA (HB1.out.trans (hb2.mono HB1.out.size))
 have Yo:=AA (PI.out.below hb2 PI.out.lt)
 clear q0 q1 q2 q3 q4 q5 q6 q7 hb2
 by_cases hmo:F9 m=0
 ·have Wx:=AA hmo
  have Iw:=AA (VQ hmo)
  have p5:=Yo.out.q 5 rfl
  rw [hmo]
  clear hmo
  go_wp2_with fail
  go_loopw [7,8,9,10,11] (fun a i _ _ _ wr=>xA m [v1,v2,v3,.int .i64 m.first,.int .i64 m.most,.slice A5 m.fns.length c5,v5,v6] w a i wr) (fun _ i _ _ _ _=>m.fns.length-(intOf i).toNat)
  case atStart=>exact⟨0,none,0,[],[],Nat.zero_le _,rfl,rfl,Fu.nil _ _ _ _,HB2.out,Yo.out,rfl⟩
  case round=>
   obtain⟨k,A1,c1,cells,acc,hk,rfl,rfl,hg,hbel,hmb,hgo⟩:=hrel
   have Hg:=AA hg;have CP:=AA hbel;have Qa:=AA hmb;have RH:=AA hgo
   clear hg hbel hmb hgo p5
   by_cases hlt:k<m.fns.length
   ·obtain⟨f,hf⟩: ∃f,m.fns[k]?=some f:=⟨_,List.getElem?_eq_getElem hlt⟩
    have HF:=AA hf
    clear hf
    have hk0:(0:Int)≤k:=by omega
    have q0:=Qa.out.q 0 rfl
    have q1:=Qa.out.q 1 rfl
    have q2:=Qa.out.q 2 rfl
    have q3:=Qa.out.q 3 rfl
    have q4:=Qa.out.q 4 rfl
    have q5:=Qa.out.q 5 rfl
    have q6:=Qa.out.q 6 rfl
    have q7:=Qa.out.q 7 rfl
    go_wp2_with fail
    refine(gV _ hi m k f wr (Rd.below H.out CP.out hhi) (Nat.le_trans hhi CP.out.size) Iw.out HF.out).mono ?_
    rintro e w3 ⟨hb3,hp3⟩
    clear q0 q1 q2 q3 q4 q5 q6 q7
    have HB3:=AA hb3
    cases JN:Fv m f with
    | inl q=>
     rw [JN] at hp3
     dsimp only [Nv] at hp3
     subst hp3
     have SQ:=AA JN
     have hne:(q.1 !=0)=true:=by have:=Rn JN;simpa using this
     clear JN hb3
     go_wp2_with fail
     refine⟨rfl,.tuple #[.slice none 0 0,.int .i64 q.1,.int .i64 k,.int .i64 q.2],by simp [results,results19,go_sem],(CP.out.trans (HB3.out.mono CP.out.size)).alloc (Nat.le_trans CP.out.size HB3.out.size) _,?_⟩
     have hv:FE m= .inl (q.1,(k:Int),q.2):=by
      unfold FE
      rw [if_neg (by rw [Wx.out];simp),←RH.out,Je hlt HF.out,SQ.out]
     rw [hv]
    | inr tb=>
     rw [JN] at hp3
     obtain⟨cs',rfl,hr2⟩:=hp3
     obtain⟨u0,u1,u2,u3,rfl,g0,g1,g2,g3,_⟩:=Lc.1 hr2
     obtain⟨B0,d0,rfl⟩:=AJ g0
     obtain⟨B1,d1,rfl⟩:=AJ g1
     obtain⟨B2,d2,rfl⟩:=AJ g2
     obtain⟨B3,d3,rfl⟩:=AJ g3
     have HR2:=AA hr2
     have SQ:=AA JN
     clear JN hb3 hr2 g0 g1 g2 g3
     go_upto_region 11 with fail
     generalize hw4:w3.alloc (.cells #[.slice B0 tb.shapes.length d0,.slice B1 tb.ends.length d1,.slice B2 tb.AB.length d2,.slice B3 tb.floors.length d3,.int .i64 tb.high] 107)=w4
     have hb4:Below w3.heap.size w3 w4:=by rw [←hw4];exact(Below.refl _ _).alloc (Nat.le_refl _) _
     have Ob:Hid (AQ w4 w3.heap.size 107 [.slice B0 tb.shapes.length d0,.slice B1 tb.ends.length d1,.slice B2 tb.AB.length d2,.slice B3 tb.floors.length d3,.int .i64 tb.high]):=AA (by rw [←hw4];exact AQ.new w3 107 _)
     have Ct:Hid (Below wr.heap.size wr w4):=AA (HB3.out.trans (hb4.mono HB3.out.size))
     have HR4:=AA (NU.below HR2.out hb4 (Nat.le_refl _))
     have t_:=AA hb4.size
     clear hw4 hb4
     have WE:=AA (Hg.out.below Ct.out)
     have WZ:w.heap.size+1≤wr.heap.size:=Qa.out.lt
     have hsz4:w.heap.size+1≤w4.heap.size:=Nat.le_trans WZ Ct.out.size
     have J_:m.fns.length≤128:=Iw.out.nf
     have t0:=Ob.out.q 0 rfl
     have t1:=Ob.out.q 1 rfl
     have t2:=Ob.out.q 2 rfl
     have t3:=Ob.out.q 3 rfl
     have t4:=Ob.out.q 4 rfl
     have GL:=AA (JY w4 [.slice B0 tb.shapes.length d0,.slice B1 tb.ends.length d1,.slice B2 tb.AB.length d2,.slice B3 tb.floors.length d3,.int .i64 tb.high] 107)
     go_wp2_with (at_builtin;refine BL _ rfl (.tmp 36) (.tmp 38) 56 rfl (w.heap.size+1) 107 i0 z0 5 104 underlying56 Hi.out Hz.out Hs.out Hb.out M5.out (by omega) (.slice A1 k c1) k cells rfl (WE.out.own.alloc _) (w4.heap.size+1) _ 1 1 [.slice B0 tb.shapes.length d0,.slice B1 tb.ends.length d1,.slice B2 tb.AB.length d2,.slice B3 tb.floors.length d3,.int .i64 tb.high] rfl rfl GL.out (by intro u hu;simp at hu;rcases hu with rfl | rfl | rfl | rfl | rfl<;>rfl) (by unfold maxLen;omega) (by omega) (by simp;omega) ?_;intro A6 c6 w6 h2 h3 h4;have H2:=AA h2;have H3:=AA h3;have H4:=AA h4)
     have hba:Below w4.heap.size w4 (w4.alloc (.cells #[.slice B0 tb.shapes.length d0,.slice B1 tb.ends.length d1,.slice B2 tb.AB.length d2,.slice B3 tb.floors.length d3,.int .i64 tb.high] 107)):=(Below.refl _ _).alloc (Nat.le_refl _) _
     have Sz:=BG (WE.out.own.alloc (.cells #[.slice B0 tb.shapes.length d0,.slice B1 tb.ends.length d1,.slice B2 tb.AB.length d2,.slice B3 tb.floors.length d3,.int .i64 tb.high] 107)) H3.out (by simp;omega)
     have hgn:=(WE.out.below hba).snoc (by simp;omega) (NU.below HR4.out hba t_.out) WZ (by simp;have:=t_.out;omega) (fun g hg=> .inl (Hg.out.own.lt g hg).2) H2.out H3.out H4.out
     have hb6:Below wr.heap.size wr (w4.alloc (.cells #[.slice B0 tb.shapes.length d0,.slice B1 tb.ends.length d1,.slice B2 tb.AB.length d2,.slice B3 tb.floors.length d3,.int .i64 tb.high] 107)):=Ct.out.trans (hba.mono Ct.out.size)
     have fA:=(Qa.out.below hb6 Qa.out.lt).below Sz (Nat.lt_succ_self _)
     refine⟨⟨k+1,A6,c6,cells++ [.slice B0 tb.shapes.length d0,.slice B1 tb.ends.length d1,.slice B2 tb.AB.length d2,.slice B3 tb.floors.length d3,.int .i64 tb.high],acc++ [tb],by omega,by go_num,rfl,hgn,(CP.out.trans (hb6.mono CP.out.size)).trans (Sz.mono (Nat.le_succ _)),fA,?_⟩,by simp [intOf];omega⟩
     rw [←RH.out,Je hlt HF.out,SQ.out]
   ·obtain rfl:m.fns.length=k:=by omega
    have q5:=Qa.out.q 5 rfl
    go_wp2_with fail
    refine⟨rfl,.tuple #[.slice A1 m.fns.length c1,.int .i64 0,.int .i64 0,.int .i64 0],by simp [results,results19,go_sem],CP.out,?_⟩
    have hv:FE m= .inr acc:=by
     unfold FE
     rw [if_neg (by rw [Wx.out];simp),←RH.out,Nat.sub_self]
     rfl
    rw [hv]
    have hl:=Hg.out.len
    refine⟨A1,c1,by rw [←hl],?_⟩
    rw [←hl]
    exact Rd.more _ (Nat.le_succ _) (Nat.le_refl _) Hg.out.reads
 ·have hne:(F9 m !=0)=true:=by simpa using hmo
  go_wp2_with fail
  refine⟨rfl,.tuple #[.slice none 0 0,.int .i64 (F9 m),.int .i64 (-1),.int .i64 0],by simp [results,results19,go_sem],HB2.out,?_⟩
  have hv:FE m= .inl (F9 m,-1,0):=by unfold FE;rw [if_pos hmo]
  rw [hv]
theorem g_ (cs ds:List Value) (hi:Nat) (m:AP) (s:FU) (w:World) (hm:Db.R w 0 hi cs m) (hs:K8.R w 0 hi ds s) (hhi:hi≤w.heap.size) (hle:BU m≤2147483647) (Cr:Ev m) (hin:Vd s):
 Calls prog 10 #[.agg cs.toArray,.agg ds.toArray] w fun e w'=>Below w.heap.size w w'∧e= .returned (.tuple #[.int .i64 (DT m s).1,.int .i64 (DT m s).2]):=by
 have HM:=AA hm;have HST:=AA hs;have CJ:=AA hhi;have GZ:=AA hle;have HN:=AA Cr;have EU:=AA hin
 obtain⟨v1,v2,v3,v4,v5,v6,rfl,_⟩:=Av.1 hm
 obtain⟨u0,u1,u2,u5,rfl,s0,_⟩:=DR.1 hs
 obtain⟨B0,d0,rfl⟩:=AJ s0
 clear hm hs hhi hle Cr s0 hin
 go_enter func10,ntmps10
 go_upto_region 1 with fail
 generalize hw0:w.alloc (.cells #[v1,v2,v3,.int .i64 m.first,.int .i64 m.most,v4,v5,v6] 29)=w0
 obtain⟨hb0,hx0⟩:=Pp hw0
 have hz0:w0.heap.size=w.heap.size+1:=by rw [←hw0];simp
 clear hw0
 generalize hw1:w0.alloc (.cells #[.slice B0 s.frames.length d0,u1,u2,.int .i64 s.CU,.int .i8 s.end_,u5,.int .i8 s.trap,.int .i64 s.used] 35)=w1
 obtain⟨hb1,hx1⟩:=qA hw1
 rw [hz0] at hx1
 try rw [hz0]
 have Fz:=AA (hx0.below hb1 hx0.lt)
 have JM:=AA hx1
 have HB1:Hid (Below w.heap.size w w1):=AA (hb0.trans (hb1.mono hb0.size))
 clear hw1 hb0 hb1 hx0 hx1 hz0
 have p0:=Fz.out.q 0 rfl
 have p1:=Fz.out.q 1 rfl
 have p2:=Fz.out.q 2 rfl
 have p3:=Fz.out.q 3 rfl
 have p4:=Fz.out.q 4 rfl
 have p5:=Fz.out.q 5 rfl
 have p6:=Fz.out.q 6 rfl
 have p7:=Fz.out.q 7 rfl
 go_wp2_with fail
 refine(S9 _ hi m w1 (Rd.below HM.out HB1.out CJ.out) (Nat.le_trans CJ.out HB1.out.size) GZ.out HN.out).mono ?_
 rintro e w2 ⟨hb2,hp⟩
 have HB2:=AA hb2
 have Fa:Hid (Below w.heap.size w w2):=AA (HB1.out.trans (hb2.mono HB1.out.size))
 have Ur:=AA (Fz.out.below hb2 Fz.out.lt)
 have LU:=AA (JM.out.below hb2 JM.out.lt)
 clear hb2 p0 p1 p2 p3 p4 p5 p6 p7 Fz JM
 cases hv:FE m with
 | inl q=>
  rw [hv] at hp
  dsimp only at hp
  subst hp
  have hne:(q.1 !=0)=true:=by have:=J8 hv;simpa using this
  have HX:Hid (DT m s=(q.1,0)):=AA (by unfold DT;rw [hv])
  clear hv
  go_wp2_with fail
  go_ret2
  exact⟨Fa.out,by rw [HX.out];rfl⟩
 | inr t=>
 rw [hv] at hp
 dsimp only at hp
 obtain⟨At,ct,rfl,hta⟩:=hp
 have rD:=AA hta;have HV:=AA hv
 have HH2:Hid (hi≤w2.heap.size):=AA (Nat.le_trans CJ.out Fa.out.size)
 clear hta hv
 have p0:=Ur.out.q 0 rfl
 have p1:=Ur.out.q 1 rfl
 have p2:=Ur.out.q 2 rfl
 have p3:=Ur.out.q 3 rfl
 have p4:=Ur.out.q 4 rfl
 have p5:=Ur.out.q 5 rfl
 have p6:=Ur.out.q 6 rfl
 have p7:=Ur.out.q 7 rfl
 have q0:=LU.out.q 0 rfl
 have q1:=LU.out.q 1 rfl
 have q2:=LU.out.q 2 rfl
 have q3:=LU.out.q 3 rfl
 have q4:=LU.out.q 4 rfl
 have q5:=LU.out.q 5 rfl
 have q6:=LU.out.q 6 rfl
 have q7:=LU.out.q 7 rfl
 go_wp2_with fail
 refine(rF _ _ At ct w2.heap.size m t s w2 (Db.more (Nat.le_refl _) HH2.out (Rd.below HM.out Fa.out CJ.out)) ((NU.sl false).more (Nat.zero_le _) (Nat.le_refl _) rD.out) (K8.more (Nat.le_refl _) HH2.out (Rd.below HST.out Fa.out CJ.out)) (Nat.le_refl _) HV.out EU.out).mono ?_
 rintro e w3 ⟨hb3,rfl⟩
 have HB3:Hid (Below w.heap.size w w3):=AA (Fa.out.trans (hb3.mono Fa.out.size))
 clear hb3 p0 q0 p1 q1 p2 q2 p3 q3 p4 q4 p5 q5 p6 q6 p7 q7
 obtain⟨M4,hM4⟩: ∃x,Ik m t s=x:=⟨_,rfl⟩
 have HX:Hid (DT m s=if M4=0 then(0,0) else(44,M4)):=AA (by unfold DT;rw [HV.out];dsimp only;rw [hM4])
 rw [hM4]
 clear hM4
 by_cases h4:M4=0
 case neg=>
  have n1:(M4 !=0)=true:=by rw [bne_iff_ne];exact h4
  have Bq:Hid (DT m s=(44,M4)):=AA (by rw [HX.out,if_neg h4])
  clear h4
  go_wp2_with fail
  go_ret2
  exact⟨HB3.out,by rw [Bq.out];rfl⟩
 subst h4
 have Bq:Hid (DT m s=(0,0)):=AA (by rw [HX.out];rfl)
 go_wp2_with fail
 go_ret2
 exact⟨HB3.out,by rw [Bq.out];rfl⟩
theorem ask0 (m:AP) (s:FU):(decide (s.end_=1)||(decide (s.end_=2)||decide (s.end_=3)))=Ci m s 0:=by
 show _=decide (s.end_=1∨s.end_=2∨s.end_=3)
 by_cases h1:s.end_=1<;>by_cases h2:s.end_=2<;>by_cases h3:s.end_=3<;>simp [h1,h2,h3]
theorem ask1 (m:AP) (s:FU):(decide (s.end_=1)&&decide (1≤s.frames.length∧s.frames.length≤64)|| !decide (s.end_=1)&&decide (s.frames.length=0))=Ci m s 1:=by
 show _=decide (s.end_=1∧1≤s.frames.length∧s.frames.length≤64∨s.end_≠1∧s.frames.length=0)
 by_cases h1:s.end_=1<;>by_cases h2:s.frames.length=0<;>by_cases h3:1≤s.frames.length<;>by_cases h4:s.frames.length≤64<;>simp [h1,h2,h3,h4]
theorem ask2 (m:AP) (s:FU):(decide (s.res.length=0)||decide (s.end_=2)&&decide (s.res.length≤8))=Ci m s 2:=by
 show _=decide (s.res.length=0∨s.end_=2∧s.res.length≤8)
 by_cases h1:s.res.length=0<;>by_cases h2:s.end_=2<;>by_cases h3:s.res.length≤8<;>simp [h1,h2,h3]
theorem ask3 (m:AP) (s:FU):(decide (s.end_=3)&&decide (1≤s.trap∧s.trap≤6)|| !decide (s.end_=3)&&decide (s.trap=0))=Ci m s 3:=by
 show _=decide (s.end_=3∧1≤s.trap∧s.trap≤6∨s.end_≠3∧s.trap=0)
 by_cases h1:s.end_=3<;>by_cases h2:1≤s.trap<;>by_cases h3:s.trap≤6<;>by_cases h4:s.trap=0<;>simp [h1,h2,h3,h4]
theorem ask4 (m:AP) (s:FU):decide (0≤s.used∧s.used≤4611686018427387904)=Ci m s 4:=rfl
theorem ask5 (m:AP) (s:FU):decide (0≤s.CU)=Ci m s 5:=rfl
theorem Z4 {m:AP} {s:FU} (h:Aa 8 (Br m s)=0):s.frames.length≤64:=by
 have h1:=BP h 1 (by omega)
 unfold Br at h1
 cases hb:Ci m s 1 with
 | false=>rw [hb] at h1;simp at h1
 | true=>
  have:=of_decide_eq_true (show decide (s.end_=1∧1≤s.frames.length∧s.frames.length≤64∨s.end_≠1∧s.frames.length=0)=true from hb)
  omega
theorem Jf {m:AP} {t:List D5} {s:FU} {i:Nat} (hv:FE m= .inr t) (hi:i<8) (h0:Aa i (Br m s)=0) (h:Ci m s i=false):DT m s=(44,(i:Int)+1):=by
 unfold DT;rw [hv];dsimp only;rw [jL hi h0 h,if_neg (by omega)]
theorem AAC {m:AP} {t:List D5} {s:FU} {k:Nat} (hv:FE m= .inr t) (h8:Aa 8 (Br m s)=0) (h0:Aa k (Lm m t s)=0) (hk:k<s.frames.length) (h:J6 m t s k=false):DT m s=(44,9+(k:Int)):=by
 unfold DT;rw [hv];dsimp only;rw [Q6 h8 h0 hk h,if_neg (by omega)]
theorem YP (cs ds:List Value) (hi:Nat) (m:AP) (s:FU) (w:World) (hm:Db.R w 0 hi cs m) (hs:K8.R w 0 hi ds s) (hhi:hi≤w.heap.size) (hle:BU m≤2147483647) (Cr:Ev m) (hin:Vd s)
 (htab: ∀w',Below hi w w'→Lib.TabIs prog w' "strings.asciiSpace" .u8 Lib.asciiSpaceTab):
 Calls prog 34 #[.agg cs.toArray,.agg ds.toArray] w fun e w'=>Below w.heap.size w w'∧e= .returned (.tuple #[.int .i64 (DT m s).1,.int .i64 (DT m s).2]):=by
 have HM:=AA hm;have HST:=AA hs;have CJ:=AA hhi;have GZ:=AA hle;have HN:=AA Cr;have EU:=AA hin;have HT:=AA htab
 obtain⟨v1,v2,v3,v4,v5,v6,rfl,i1,i2,i3,ff1,ff2,i4,i5,i6⟩:=Av.1 hm
 obtain⟨A1,e1,rfl⟩:=AJ i1
 obtain⟨A2,e2,rfl⟩:=AJ i2
 obtain⟨A3,e3,rfl⟩:=AJ i3
 obtain⟨A4,e4,rfl⟩:=AJ i4
 obtain⟨A5,e5,rfl⟩:=AJ i5
 obtain⟨A6,e6,rfl⟩:=AJ i6
 obtain⟨u0,u1,u2,u5,rfl,s0,s1,s2,_,_,s5,_⟩:=DR.1 hs
 obtain⟨B0,d0,rfl⟩:=AJ s0
 obtain⟨B1,d1,rfl⟩:=AJ s1
 obtain⟨B2,d2,rfl⟩:=AJ s2
 obtain⟨B5,d5,rfl⟩:=AJ s5
 clear hm hs hhi hle Cr i1 i2 i3 i4 i5 i6 s0 s1 s2 s5 hin htab ff1 ff2
 go_enter func34,ntmps34
 go_upto_region 1 with fail
 generalize hw0:w.alloc (.cells #[.slice A1 m.types.length e1,.slice A2 m.hosts.length e2,.slice A3 m.globs.length e3,.int .i64 m.first,.int .i64 m.most,.slice A4 m.fns.length e4,.slice A5 m.dat.length e5,.slice A6 m.Aw.length e6] 29)=w0
 obtain⟨hb0,hx0⟩:=EK hw0
 have hz0:w0.heap.size=w.heap.size+1:=by rw [←hw0];simp
 clear hw0
 generalize hw1:w0.alloc (.cells #[.slice B0 s.frames.length d0,.slice B1 s.globs.length d1,.slice B2 s.pages.length d2,.int .i64 s.CU,.int .i8 s.end_,.slice B5 s.res.length d5,.int .i8 s.trap,.int .i64 s.used] 35)=w1
 obtain⟨hb1,hx1⟩:=EK hw1
 rw [hz0] at hx1
 try rw [hz0]
 have Fz:=AA (hx0.below hb1 hx0.lt)
 have JM:=AA hx1
 have HB1:Hid (Below w.heap.size w w1):=AA (hb0.trans (hb1.mono hb0.size))
 clear hw1 hb0 hb1 hx0 hx1 hz0
 go_wp2_with (refine ou Fz.out rfl _ rfl rfl ?_)
 refine(U2 _ hi m w1 (Rd.below HM.out HB1.out CJ.out) (Nat.le_trans CJ.out HB1.out.size) GZ.out HN.out (fun w' hw'=>HT.out w' ((HB1.out.mono CJ.out).trans hw'))).mono ?_
 rintro e w2 ⟨hb2,hp⟩
 have Fa:Hid (Below w.heap.size w w2):=AA (HB1.out.trans (hb2.mono HB1.out.size))
 have Ur:=AA (Fz.out.below hb2 Fz.out.lt)
 have LU:=AA (JM.out.below hb2 JM.out.lt)
 clear hb2 Fz JM
 cases hv:FE m with
 | inl q=>
  rw [hv] at hp
  dsimp only at hp
  subst hp
  have hne:(q.1 !=0)=true:=by have:=J8 hv;simpa using this
  have HX:Hid (DT m s=(q.1,0)):=AA (by unfold DT;rw [hv])
  clear hv
  go_wp2_with fail
  go_ret2
  exact⟨Fa.out,by rw [HX.out];rfl⟩
 | inr t=>
 rw [hv] at hp
 dsimp only at hp
 obtain⟨At,ct,rfl,hta⟩:=hp
 have rD:=AA hta;have HV:=AA hv
 have HH2:Hid (hi≤w2.heap.size):=AA (Nat.le_trans CJ.out Fa.out.size)
 have Wx:=AA (J9 hv).1
 have Yo:=AA (Db.more (Nat.le_refl _) HH2.out (Rd.below HM.out Fa.out CJ.out))
 have HS2:=AA (K8.more (Nat.le_refl _) HH2.out (Rd.below HST.out Fa.out CJ.out))
 have HT2:=AA ((NU.sl false).more (Nat.zero_le _) (Nat.le_refl _) rD.out)
 clear hta hv
 go_upto_region 5 with(first | refine ou Ur.out rfl _ rfl rfl ?_ | refine xB LU.out rfl _ rfl rfl ?_ | refine Ed rfl _ _ _ rfl _ _ rfl rfl ?_ ?_ ?_ ?_;(try focus kernel_rfl);(try focus rfl);(try focus kernel_rfl))
 generalize hw3:w2.alloc (.cells #[.slice A1 m.types.length e1,.slice A2 m.hosts.length e2,.slice A3 m.globs.length e3,.int .i64 m.first,.int .i64 m.most,.slice A4 m.fns.length e4,.slice A5 m.dat.length e5,.slice A6 m.Aw.length e6,.slice At t.length ct,.slice B0 s.frames.length d0,.slice B1 s.globs.length d1,.slice B2 s.pages.length d2,.int .i64 s.CU,.int .i8 s.end_,.slice B5 s.res.length d5,.int .i8 s.trap,.int .i64 s.used] 127)=w3
 obtain⟨hb3,hx3⟩:=EK hw3
 have Nq:=AA hx3
 have HB3:Hid (Below w2.heap.size w2 w3):=AA hb3
 have wY:=AA (LU.out.below hb3 LU.out.lt)
 have wL:Hid (Calls prog 65 #[.agg #[.slice A1 m.types.length e1,.slice A2 m.hosts.length e2,.slice A3 m.globs.length e3,.int .i64 m.first,.int .i64 m.most,.slice A4 m.fns.length e4,.slice A5 m.dat.length e5,.slice A6 m.Aw.length e6,.slice At t.length ct,.slice B0 s.frames.length d0,.slice B1 s.globs.length d1,.slice B2 s.pages.length d2,.int .i64 s.CU,.int .i8 s.end_,.slice B5 s.res.length d5,.int .i8 s.trap,.int .i64 s.used]] w3 (SN [.slice B0 s.frames.length d0,.slice B1 s.globs.length d1,.slice B2 s.pages.length d2,.int .i64 s.CU,.int .i8 s.end_,.slice B5 s.res.length d5,.int .i8 s.trap,.int .i64 s.used] #[.slice A1 m.types.length e1,.slice A2 m.hosts.length e2,.slice A3 m.globs.length e3,.int .i64 m.first,.int .i64 m.most,.slice A4 m.fns.length e4,.slice A5 m.dat.length e5,.slice A6 m.Aw.length e6,.slice At t.length ct,.slice B0 s.frames.length d0,.slice B1 s.globs.length d1,.slice B2 s.pages.length d2,.int .i64 s.CU,.int .i8 s.end_,.slice B5 s.res.length d5,.int .i8 s.trap,.int .i64 s.used] s.end_ w3)):=AA (rW [.slice A1 m.types.length e1,.slice A2 m.hosts.length e2,.slice A3 m.globs.length e3,.int .i64 m.first,.int .i64 m.most,.slice A4 m.fns.length e4,.slice A5 m.dat.length e5,.slice A6 m.Aw.length e6] [.slice B0 s.frames.length d0,.slice B1 s.globs.length d1,.slice B2 s.pages.length d2,.int .i64 s.CU,.int .i8 s.end_,.slice B5 s.res.length d5,.int .i8 s.trap,.int .i64 s.used] (.slice At t.length ct) w2.heap.size m s w3 (Rd.below Yo.out HB3.out (Nat.le_refl _)) (Rd.below HS2.out HB3.out (Nat.le_refl _)) HB3.out.size)
 clear hw3 hb3 hx3
 go_wp2_with (refine ldV Nq.out rfl _ rfl rfl ?_)
 refine wL.out.mono ?_
 rintro e w4 ⟨hb4,b,bs,br,bh,bt,rfl,ks,kr,kh,kt,kb⟩
 have HKS:=AA ks;have HKR:=AA kr;have HKH:=AA kh;have HKT:=AA kt;have Qs:=AA kb
 have Ct:Hid (Below w2.heap.size w2 w4):=AA (HB3.out.trans (hb4.mono HB3.out.size))
 have Ob:=AA (Nq.out.below hb4 Nq.out.lt)
 have HY4:=AA (wY.out.below hb4 wY.out.lt)
 clear hb4 ks kr kh kt kb
 have HNG:=AA Wx.out.ng
 have Wz:=AA EU.out.xu
 clear Nq wY Ur LU
 go_wp2_with fail
 generalize (Value.agg #[.slice A1 m.types.length e1,.slice A2 m.hosts.length e2,.slice A3 m.globs.length e3,.int .i64 m.first,.int .i64 m.most,.slice A4 m.fns.length e4,.slice A5 m.dat.length e5,.slice A6 m.Aw.length e6])=VM
 generalize (Value.agg #[.slice B0 s.frames.length d0,.slice B1 s.globs.length d1,.slice B2 s.pages.length d2,.int .i64 s.CU,.int .i8 s.end_,.slice B5 s.res.length d5,.int .i8 s.trap,.int .i64 s.used])=VS
 generalize (Value.agg #[.slice A1 m.types.length e1,.slice A2 m.hosts.length e2,.slice A3 m.globs.length e3,.int .i64 m.first,.int .i64 m.most,.slice A4 m.fns.length e4,.slice A5 m.dat.length e5,.slice A6 m.Aw.length e6,.slice At t.length ct,.slice B0 s.frames.length d0,.slice B1 s.globs.length d1,.slice B2 s.pages.length d2,.int .i64 s.CU,.int .i8 s.end_,.slice B5 s.res.length d5,.int .i8 s.trap,.int .i64 s.used])=VV
 go_loopw [30] (fun i wr=> ∃k:Nat,k≤8∧i= .int .i64 k∧Below w4.heap.size w4 wr∧Aa k (Br m s)=0) (fun i _=>8-(intOf i).toNat)
 case atStart=>exact⟨0,by omega,rfl,Below.refl _ _,rfl⟩
 case round=>
  obtain⟨k,hk,rfl,hbr,h0⟩:=hrel
  have Io:=AA hbr;have H0:=AA h0
  have Ec:=AA (Ct.out.trans (hbr.mono Ct.out.size))
  have FQ:Hid (Below w.heap.size w wr):=AA (Fa.out.trans (Ec.out.mono Fa.out.size))
  clear hbr h0
  by_cases h8:k=8
  ·have H8:Hid (Aa 8 (Br m s)=0):=AA (h8▸H0.out)
   have HF64:Hid (s.frames.length≤64):=AA (Z4 H8.out)
   have n8: ¬(k:Int)<8:=by omega
   clear h8 hk H0
   generalize (k:Int)=k8 at*
   have q0:=(HY4.out.below Io.out HY4.out.lt).q 0 rfl
   go_wp2_with fail
   clear q0
   obtain⟨wo,rfl⟩: ∃wo:World,wo=wr:=⟨_,rfl⟩
   go_loopw [44] (fun i wq=> ∃k:Nat,k≤s.frames.length∧i= .int .i64 k∧Below wo.heap.size wo wq∧Aa k (Lm m t s)=0) (fun i _=>s.frames.length-(intOf i).toNat)
   case atStart=>exact⟨0,by omega,rfl,Below.refl _ _,rfl⟩
   case round=>
    obtain⟨k,hk,rfl,hbr,h0⟩:=hrel
    have SA:=AA hbr;have H02:=AA h0
    have bY:=AA (Ec.out.trans (hbr.mono Ec.out.size))
    have AAD:Hid (Below w.heap.size w wr):=AA (FQ.out.trans (hbr.mono FQ.out.size))
    have HBX4:=AA (Io.out.trans (hbr.mono Io.out.size))
    clear hbr h0
    by_cases hlt:k<s.frames.length
    ·obtain⟨f,hf⟩: ∃f,s.frames[k]?=some f:=⟨_,List.getElem?_eq_getElem hlt⟩
     have HF:=AA hf
     have HX5:=AA (Ob.out.below HBX4.out Ob.out.lt)
     have hfr:=HF64.out
     obtain⟨bb,hb⟩: ∃bb,J6 m t s k=bb:=⟨_,rfl⟩
     clear hf
     go_wp2_with (refine ldV HX5.out rfl _ rfl rfl ?_)
     refine(kY [.slice A1 m.types.length e1,.slice A2 m.hosts.length e2,.slice A3 m.globs.length e3,.int .i64 m.first,.int .i64 m.most,.slice A4 m.fns.length e4,.slice A5 m.dat.length e5,.slice A6 m.Aw.length e6] [.slice B0 s.frames.length d0,.slice B1 s.globs.length d1,.slice B2 s.pages.length d2,.int .i64 s.CU,.int .i8 s.end_,.slice B5 s.res.length d5,.int .i8 s.trap,.int .i64 s.used] At ct w2.heap.size m t s k f wr (Rd.below Yo.out bY.out (Nat.le_refl _)) (Rd.below HT2.out bY.out (Nat.le_refl _)) (Rd.below HS2.out bY.out (Nat.le_refl _)) bY.out.size HV.out EU.out HF.out).mono ?_
     rintro e w5 ⟨hb5,rfl⟩
     have Dv:=AA hb5
     clear hb5
     rw [hb]
     cases bb with
     | false=>
      have HX:=AA (AAC HV.out H8.out H02.out hlt hb)
      clear hb
      go_wp2_with fail
      go_ret2
      exact⟨AAD.out.trans (Dv.out.mono AAD.out.size),by rw [HX.out];rfl⟩
     | true=>
      have HX:=AA (dW H02.out hb)
      clear hb
      go_wp2_with fail
      exact⟨⟨k+1,by omega,by go_num,SA.out.trans (Dv.out.mono SA.out.size),HX.out⟩,by simp [intOf];omega⟩
    ·obtain rfl:k=s.frames.length:=by omega
     have HX:Hid (DT m s=(0,0)):=AA (by unfold DT;rw [HV.out];dsimp only;rw [pU H8.out H02.out];rfl)
     go_wp2_with fail
     go_ret2
     exact⟨AAD.out,by rw [HX.out];rfl⟩
  ·have JM:=AA (HKS.out.below Io.out HKS.out.lt)
   have RA:=AA (HKR.out.below Io.out HKR.out.lt)
   have HXH:=AA (HKH.out.below Io.out HKH.out.lt)
   have xC:=AA (HKT.out.below Io.out HKT.out.lt)
   have HXB:=AA (Qs.out.below Io.out Qs.out.lt)
   have h8':k<8:=by omega
   clear hk h8
   by_cases e0:k=0
   case pos=>
    subst e0
    have xc:=HXB.out.cell 0
    obtain⟨bb,hb⟩: ∃bb,Ci m s 0=bb:=⟨_,rfl⟩
    clear h8'
    go_wp2_with fail
    refine(rO _ _ _ br bh bt wr (RA.out.cell 0) (HXH.out.cell 0) (xC.out.cell 0)).mono ?_
    rintro e w5 ⟨rfl,rfl⟩
    rw [ask0 m s,hb]
    have Dv:=AA (Below.refl wr.heap.size wr)
    cases bb with
    | false=>
     have HX:=AA (Jf HV.out (by omega) H0.out hb)
     clear hb xc
     go_wp2_with fail
     go_ret2
     exact⟨FQ.out.trans (Dv.out.mono FQ.out.size),by rw [HX.out];rfl⟩
    | true=>
     have HX:=AA (F5 H0.out hb)
     clear hb xc
     go_wp2_with fail
     exact⟨⟨1,by omega,by go_num,Io.out.trans (Dv.out.mono Io.out.size),HX.out⟩,by simp [intOf]⟩
   by_cases e1:k=1
   case pos=>
    subst e1
    have xc:=HXB.out.cell 1
    obtain⟨bb,hb⟩: ∃bb,Ci m s 1=bb:=⟨_,rfl⟩
    clear h8' e0
    go_wp2_with fail
    refine(rP _ br bs _ _ _ wr (RA.out.cell 0) (JM.out.cell 0)).mono ?_
    rintro e w5 ⟨rfl,rfl⟩
    rw [ask1 m s,hb]
    have Dv:=AA (Below.refl wr.heap.size wr)
    cases bb with
    | false=>
     have HX:=AA (Jf HV.out (by omega) H0.out hb)
     clear hb xc
     go_wp2_with fail
     go_ret2
     exact⟨FQ.out.trans (Dv.out.mono FQ.out.size),by rw [HX.out];rfl⟩
    | true=>
     have HX:=AA (F5 H0.out hb)
     clear hb xc
     go_wp2_with fail
     exact⟨⟨2,by omega,by go_num,Io.out.trans (Dv.out.mono Io.out.size),HX.out⟩,by simp [intOf]⟩
   by_cases e2:k=2
   case pos=>
    subst e2
    have xc:=HXB.out.cell 2
    obtain⟨bb,hb⟩: ∃bb,Ci m s 2=bb:=⟨_,rfl⟩
    clear h8' e0 e1
    go_wp2_with fail
    refine(rQ _ bs bh _ _ _ wr (HXH.out.cell 0) (JM.out.cell 5)).mono ?_
    rintro e w5 ⟨rfl,rfl⟩
    rw [ask2 m s,hb]
    have Dv:=AA (Below.refl wr.heap.size wr)
    cases bb with
    | false=>
     have HX:=AA (Jf HV.out (by omega) H0.out hb)
     clear hb xc
     go_wp2_with fail
     go_ret2
     exact⟨FQ.out.trans (Dv.out.mono FQ.out.size),by rw [HX.out];rfl⟩
    | true=>
     have HX:=AA (F5 H0.out hb)
     clear hb xc
     go_wp2_with fail
     exact⟨⟨3,by omega,by go_num,Io.out.trans (Dv.out.mono Io.out.size),HX.out⟩,by simp [intOf]⟩
   by_cases e3:k=3
   case pos=>
    subst e3
    have xc:=HXB.out.cell 3
    obtain⟨bb,hb⟩: ∃bb,Ci m s 3=bb:=⟨_,rfl⟩
    clear h8' e0 e1 e2
    go_wp2_with fail
    refine(rR _ bt bs _ wr (xC.out.cell 0) (JM.out.cell 6)).mono ?_
    rintro e w5 ⟨rfl,rfl⟩
    rw [ask3 m s,hb]
    have Dv:=AA (Below.refl wr.heap.size wr)
    cases bb with
    | false=>
     have HX:=AA (Jf HV.out (by omega) H0.out hb)
     clear hb xc
     go_wp2_with fail
     go_ret2
     exact⟨FQ.out.trans (Dv.out.mono FQ.out.size),by rw [HX.out];rfl⟩
    | true=>
     have HX:=AA (F5 H0.out hb)
     clear hb xc
     go_wp2_with fail
     exact⟨⟨4,by omega,by go_num,Io.out.trans (Dv.out.mono Io.out.size),HX.out⟩,by simp [intOf]⟩
   by_cases e4:k=4
   case pos=>
    subst e4
    have xc:=HXB.out.cell 4
    obtain⟨bb,hb⟩: ∃bb,Ci m s 4=bb:=⟨_,rfl⟩
    clear h8' e0 e1 e2 e3
    go_wp2_with fail
    refine(rT bs _ wr (JM.out.cell 7)).mono ?_
    rintro e w5 ⟨rfl,rfl⟩
    rw [ask4 m s,hb]
    have Dv:=AA (Below.refl wr.heap.size wr)
    cases bb with
    | false=>
     have HX:=AA (Jf HV.out (by omega) H0.out hb)
     clear hb xc
     go_wp2_with fail
     go_ret2
     exact⟨FQ.out.trans (Dv.out.mono FQ.out.size),by rw [HX.out];rfl⟩
    | true=>
     have HX:=AA (F5 H0.out hb)
     clear hb xc
     go_wp2_with fail
     exact⟨⟨5,by omega,by go_num,Io.out.trans (Dv.out.mono Io.out.size),HX.out⟩,by simp [intOf]⟩
   by_cases e5:k=5
   case pos=>
    subst e5
    have xc:=HXB.out.cell 5
    obtain⟨bb,hb⟩: ∃bb,Ci m s 5=bb:=⟨_,rfl⟩
    clear h8' e0 e1 e2 e3 e4
    go_wp2_with fail
    refine(rU bs _ wr (JM.out.cell 3)).mono ?_
    rintro e w5 ⟨rfl,rfl⟩
    rw [ask5 m s,hb]
    have Dv:=AA (Below.refl wr.heap.size wr)
    cases bb with
    | false=>
     have HX:=AA (Jf HV.out (by omega) H0.out hb)
     clear hb xc
     go_wp2_with fail
     go_ret2
     exact⟨FQ.out.trans (Dv.out.mono FQ.out.size),by rw [HX.out];rfl⟩
    | true=>
     have HX:=AA (F5 H0.out hb)
     clear hb xc
     go_wp2_with fail
     exact⟨⟨6,by omega,by go_num,Io.out.trans (Dv.out.mono Io.out.size),HX.out⟩,by simp [intOf]⟩
   by_cases e6:k=6
   case pos=>
    subst e6
    have xc:=HXB.out.cell 6
    obtain⟨bb,hb⟩: ∃bb,Ci m s 6=bb:=⟨_,rfl⟩
    clear h8' e0 e1 e2 e3 e4 e5
    go_wp2_with fail
    refine(Ze [.slice A1 m.types.length e1,.slice A2 m.hosts.length e2,.slice A3 m.globs.length e3,.int .i64 m.first,.int .i64 m.most,.slice A4 m.fns.length e4,.slice A5 m.dat.length e5,.slice A6 m.Aw.length e6] [.slice B0 s.frames.length d0,.slice B1 s.globs.length d1,.slice B2 s.pages.length d2,.int .i64 s.CU,.int .i8 s.end_,.slice B5 s.res.length d5,.int .i8 s.trap,.int .i64 s.used] (.slice At t.length ct) w2.heap.size m s wr (Rd.below Yo.out Ec.out (Nat.le_refl _)) (Rd.below HS2.out Ec.out (Nat.le_refl _)) Ec.out.size HNG.out).mono ?_
    rintro e w5 ⟨hb5,rfl⟩
    rw [hb]
    have Dv:=AA hb5
    clear hb5
    cases bb with
    | false=>
     have HX:=AA (Jf HV.out (by omega) H0.out hb)
     clear hb xc
     go_wp2_with fail
     go_ret2
     exact⟨FQ.out.trans (Dv.out.mono FQ.out.size),by rw [HX.out];rfl⟩
    | true=>
     have HX:=AA (F5 H0.out hb)
     clear hb xc
     go_wp2_with fail
     exact⟨⟨7,by omega,by go_num,Io.out.trans (Dv.out.mono Io.out.size),HX.out⟩,by simp [intOf]⟩
   by_cases e7:k=7
   case pos=>
    subst e7
    have xc:=HXB.out.cell 7
    obtain⟨bb,hb⟩: ∃bb,Ci m s 7=bb:=⟨_,rfl⟩
    clear h8' e0 e1 e2 e3 e4 e5 e6
    go_wp2_with fail
    refine(lF [.slice A1 m.types.length e1,.slice A2 m.hosts.length e2,.slice A3 m.globs.length e3,.int .i64 m.first,.int .i64 m.most,.slice A4 m.fns.length e4,.slice A5 m.dat.length e5,.slice A6 m.Aw.length e6] [.slice B0 s.frames.length d0,.slice B1 s.globs.length d1,.slice B2 s.pages.length d2,.int .i64 s.CU,.int .i8 s.end_,.slice B5 s.res.length d5,.int .i8 s.trap,.int .i64 s.used] (.slice At t.length ct) w2.heap.size m s wr (Rd.below Yo.out Ec.out (Nat.le_refl _)) (Rd.below HS2.out Ec.out (Nat.le_refl _)) Ec.out.size Wz.out).mono ?_
    rintro e w5 ⟨hb5,rfl⟩
    rw [hb]
    have Dv:=AA hb5
    clear hb5
    cases bb with
    | false=>
     have HX:=AA (Jf HV.out (by omega) H0.out hb)
     clear hb xc
     go_wp2_with fail
     go_ret2
     exact⟨FQ.out.trans (Dv.out.mono FQ.out.size),by rw [HX.out];rfl⟩
    | true=>
     have HX:=AA (F5 H0.out hb)
     clear hb xc
     go_wp2_with fail
     exact⟨⟨8,by omega,by go_num,Io.out.trans (Dv.out.mono Io.out.size),HX.out⟩,by simp [intOf]⟩
   exfalso;omega
theorem aD {w:World} {g:Nat} {tmps:Array Value} {a0 a1 a2 a3 a4 a5 a6 a7 e v:Value} (h:AQ w g 35 [a0,a1,a2,a3,a4,a5,a6,a7]) (h2:tmps.getD 7 undef= .pointer (some ⟨g,0,none⟩)) (h3:tmps.getD 8 undef=e) (h4:tmps.getD 9 undef=v):
 (results f79 tmps).run prog w= .ok (.tuple #[.agg #[a0,a1,a2,a3,a4,a5,a6,a7],e,v]) w:=by
 obtain⟨z0,z1,z2,z3,z4,z5,z6,z7⟩:=uT h
 simp only [Array.getD_eq_getD_getElem?] at h2 h3 h4
 simp [results,results79,go_sem,z0,z1,z2,z3,z4,z5,z6,z7,h2,h3,h4]
theorem Wo {w:World} {g:Nat} {tmps:Array Value} {a0 a1 a2 a3 a4 a5 a6 a7 e v:Value} (h:AQ w g 35 [a0,a1,a2,a3,a4,a5,a6,a7]) (h2:tmps.getD 4 undef= .pointer (some ⟨g,0,none⟩)) (h3:tmps.getD 5 undef=e) (h4:tmps.getD 6 undef=v):
 (results f18 tmps).run prog w= .ok (.tuple #[.agg #[a0,a1,a2,a3,a4,a5,a6,a7],e,v]) w:=by
 obtain⟨z0,z1,z2,z3,z4,z5,z6,z7⟩:=uT h
 simp only [Array.getD_eq_getD_getElem?] at h2 h3 h4
 simp [results,results18,go_sem,z0,z1,z2,z3,z4,z5,z6,z7,h2,h3,h4]
def ckV (m:AP) (s:FU) (ds:List Value):Value:=if(DT m s).1=0 then .tuple #[.agg ds.toArray,.int .i64 0,.int .i64 0] else .tuple #[Qe,.int .i64 (DT m s).1,.int .i64 (DT m s).2]
theorem AAX (a0 a1 a2 a3 a4 a5 a6 a7:Value) (e at_:Int) (hne:e≠0) (mp:Value) (w:World):
 Calls prog 79 #[.agg #[a0,a1,a2,a3,a4,a5,a6,a7],.int .i64 e,.int .i64 at_,mp] w fun en w'=>Below w.heap.size w w'∧en= .returned (.tuple #[Qe,.int .i64 e,.int .i64 at_]):=by
 have n1:(e !=0)=true:=bne_iff_ne.2 hne
 go_enter func79,ntmps79
 go_upto_region 1 with fail
 generalize hw0:w.alloc (.cells #[a0,a1,a2,a3,a4,a5,a6,a7] 35)=w0
 obtain⟨hb0,hx0⟩:=EK hw0
 have hz0:w0.heap.size=w.heap.size+1:=by rw [←hw0];simp
 clear hw0
 generalize hw1:w0.alloc _=w1
 obtain⟨hb1,hx1⟩:=EK hw1
 rw [hz0] at hx1
 try rw [hz0]
 have JM:=AA hx1
 have HB1:Hid (Below w.heap.size w w1):=AA (hb0.trans (hb1.mono hb0.size))
 clear hw1 hb0 hb1 hx0 hx1 hz0
 go_wp2_with (refine F3 JM.out rfl _ _ rfl rfl _ rfl ?_ ?_ ?_ ?_;(try focus kernel_rfl);(try focus rfl);(try focus kernel_rfl))
 have Bq:=AA (JM.out.setRow #[.slice none 0 0,.slice none 0 0,.slice none 0 0,.int .i64 0,.int .i8 0,.slice none 0 0,.int .i8 0,.int .i64 0])
 generalize hw2:World.setRow _ _ _=w2 at*
 have hbz:Below w.heap.size w w2:=by rw [←hw2];exact HB1.out.trans (DK (Nat.le_succ _) _)
 refine⟨rfl,.tuple #[Qe,.int .i64 e,.int .i64 at_],?_,hbz,rfl⟩
 exact aD Bq.out rfl rfl rfl
theorem AFQ (cs ds:List Value) (hi mb:Nat) (m:AP) (s:FU) (w:World) (hmb:AQ w mb 29 cs) (hm:Db.R w 0 hi cs m) (hs:K8.R w 0 hi ds s) (hhi:hi≤w.heap.size) (hle:BU m≤2147483647) (Cr:Ev m) (hin:Vd s)
 (htab: ∀w',Below hi w w'→Lib.TabIs prog w' "strings.asciiSpace" .u8 Lib.asciiSpaceTab):
 Calls prog 79 #[.agg ds.toArray,.int .i64 0,.int .i64 0,.pointer (some ⟨mb,0,none⟩)] w fun en w'=>Below w.heap.size w w'∧en= .returned (ckV m s ds):=by
 have HM:=AA hm;have HST:=AA hs;have CJ:=AA hhi;have GZ:=AA hle;have HN:=AA Cr;have EU:=AA hin;have HT:=AA htab
 obtain⟨v1,v2,v3,v4,v5,v6,rfl,_⟩:=Av.1 hm
 obtain⟨u0,u1,u2,u5,rfl,s0,s1,s2,_,_,s5,_,_⟩:=DR.1 hs
 obtain⟨B0,d0,rfl⟩:=AJ s0
 obtain⟨B1,d1,rfl⟩:=AJ s1
 obtain⟨B2,d2,rfl⟩:=AJ s2
 obtain⟨B5,d5,rfl⟩:=AJ s5
 clear s0 s1 s2 s5
 have Qa:=AA hmb
 have hml:=hmb.lt
 clear hm hs hhi hle Cr hin htab hmb
 go_enter func79,ntmps79
 go_upto_region 1 with fail
 generalize hw0:w.alloc (.cells #[.slice B0 s.frames.length d0,.slice B1 s.globs.length d1,.slice B2 s.pages.length d2,.int .i64 s.CU,.int .i8 s.end_,.slice B5 s.res.length d5,.int .i8 s.trap,.int .i64 s.used] 35)=w0
 obtain⟨hb0,hx0⟩:=EK hw0
 have hz0:w0.heap.size=w.heap.size+1:=by rw [←hw0];simp
 clear hw0
 generalize hw1:w0.alloc _=w1
 obtain⟨hb1,hx1⟩:=EK hw1
 rw [hz0] at hx1
 try rw [hz0]
 have HXA:=AA (hx0.below hb1 hx0.lt)
 have JM:=AA hx1
 have HB1:Hid (Below w.heap.size w w1):=AA (hb0.trans (hb1.mono hb0.size))
 have HMB1:=AA (Qa.out.below HB1.out hml)
 clear hw1 hb0 hb1 hx0 hx1 hz0
 go_wp2_with (first | refine ou HMB1.out rfl _ rfl rfl ?_ | refine xB HXA.out rfl _ rfl rfl ?_)
 refine(YP _ _ hi m s w1 (Rd.below HM.out HB1.out CJ.out) (Rd.below HST.out HB1.out CJ.out) (Nat.le_trans CJ.out HB1.out.size) GZ.out HN.out EU.out (fun w' hw'=>HT.out w' ((HB1.out.mono CJ.out).trans hw'))).mono ?_
 rintro e w2 ⟨hb2,rfl⟩
 have HB2:Hid (Below w.heap.size w w2):=AA (HB1.out.trans (hb2.mono HB1.out.size))
 have HYA:=AA (HXA.out.below hb2 HXA.out.lt)
 have LU:=AA (JM.out.below hb2 JM.out.lt)
 clear hb2
 by_cases h0:(DT m s).1=0
 ·have HP:Hid (ckV m s [.slice B0 s.frames.length d0,.slice B1 s.globs.length d1,.slice B2 s.pages.length d2,.int .i64 s.CU,.int .i8 s.end_,.slice B5 s.res.length d5,.int .i8 s.trap,.int .i64 s.used]= .tuple #[.agg #[.slice B0 s.frames.length d0,.slice B1 s.globs.length d1,.slice B2 s.pages.length d2,.int .i64 s.CU,.int .i8 s.end_,.slice B5 s.res.length d5,.int .i8 s.trap,.int .i64 s.used],.int .i64 0,.int .i64 0]):=AA (by unfold ckV;rw [if_pos h0])
  rw [h0]
  clear h0
  generalize (DT m s).2=at2 at*
  go_wp2_with (first | refine xB HYA.out rfl _ rfl rfl ?_ | (refine F3 LU.out rfl _ _ rfl rfl _ rfl ?_ ?_ ?_ ?_;(try focus kernel_rfl);(try focus rfl);(try focus kernel_rfl)))
  have Bq:=AA (LU.out.setRow #[.slice B0 s.frames.length d0,.slice B1 s.globs.length d1,.slice B2 s.pages.length d2,.int .i64 s.CU,.int .i8 s.end_,.slice B5 s.res.length d5,.int .i8 s.trap,.int .i64 s.used])
  generalize hw2:World.setRow _ _ _=w3 at*
  have hbz:Below w.heap.size w w3:=by rw [←hw2];exact HB2.out.trans (DK (Nat.le_succ _) _)
  refine⟨rfl,.tuple #[.agg #[.slice B0 s.frames.length d0,.slice B1 s.globs.length d1,.slice B2 s.pages.length d2,.int .i64 s.CU,.int .i8 s.end_,.slice B5 s.res.length d5,.int .i8 s.trap,.int .i64 s.used],.int .i64 0,.int .i64 0],?_,hbz,by rw [HP.out]⟩
  exact aD Bq.out rfl rfl rfl
 ·have hne:((DT m s).1 !=0)=true:=bne_iff_ne.2 h0
  have HP:Hid (ckV m s [.slice B0 s.frames.length d0,.slice B1 s.globs.length d1,.slice B2 s.pages.length d2,.int .i64 s.CU,.int .i8 s.end_,.slice B5 s.res.length d5,.int .i8 s.trap,.int .i64 s.used]= .tuple #[Qe,.int .i64 (DT m s).1,.int .i64 (DT m s).2]):=AA (by unfold ckV;rw [if_neg h0])
  generalize (DT m s).1=er at*
  generalize (DT m s).2=at2 at*
  clear h0
  go_wp2_with (refine F3 LU.out rfl _ _ rfl rfl _ rfl ?_ ?_ ?_ ?_;(try focus kernel_rfl);(try focus rfl);(try focus kernel_rfl))
  have Bq:=AA (LU.out.setRow #[.slice none 0 0,.slice none 0 0,.slice none 0 0,.int .i64 0,.int .i8 0,.slice none 0 0,.int .i8 0,.int .i64 0])
  generalize hw2:World.setRow _ _ _=w3 at*
  have hbz:Below w.heap.size w w3:=by rw [←hw2];exact HB2.out.trans (DK (Nat.le_succ _) _)
  refine⟨rfl,.tuple #[Qe,.int .i64 er,.int .i64 at2],?_,hbz,by rw [HP.out]⟩
  exact aD Bq.out rfl rfl rfl
theorem aF (a0 a1 a2 a3 a4 a5 a6 a7:Value) (w:World):
 Calls prog 52 #[.agg #[a0,a1,a2,a3,a4,a5,a6,a7]] w fun en w'=>Below w.heap.size w w'∧en= .returned (.func (.func 79) #[] #[.pointer (some ⟨w.heap.size,0,none⟩)])∧AQ w' w.heap.size 29 [a0,a1,a2,a3,a4,a5,a6,a7]:=by
 go_enter func52,ntmps52
 go_wp2_with fail
 generalize hw0:w.alloc _=w0
 obtain⟨hb0,hx0⟩:=EK hw0
 go_ret
 exact⟨hb0,rfl,hx0⟩
def nM (m:AP) (l:List UInt8) (w:World) (e:Ending) (w':World):Prop:=Below w.heap.size w w'∧match FE m with
 | .inl q=>e= .returned (.tuple #[Qe,.int .i64 q.1,.int .i64 0])
 | .inr _=>match Dr l with
  | .inl x=>e= .returned (.tuple #[Qe,.int .i64 x.1,.int .i64 x.2])
  | .inr s=>if(DT m s).1=0 then ∃ds:List Value,e= .returned (.tuple #[.agg ds.toArray,.int .i64 0,.int .i64 0])∧K8.R w' w.heap.size w'.heap.size ds s
   else e= .returned (.tuple #[Qe,.int .i64 (DT m s).1,.int .i64 (DT m s).2])
theorem dD (cs:List Value) (hi:Nat) (m:AP) (A:Option Addr) (c B:Nat) (l:List UInt8) (w:World) (hm:Db.R w 0 hi cs m) (hhi:hi≤w.heap.size) (hle:BU m≤2147483647) (Cr:Ev m) (hr:Row w B A (l.map bv)) (hB:B≤w.heap.size) (hlc:l.length≤c) (hl:l.length≤140737488351232)
 (htab: ∀w',Below hi w w'→Lib.TabIs prog w' "strings.asciiSpace" .u8 Lib.asciiSpaceTab) (hx0: ∀x,Dr l= .inl x→x.1≠0) (hin: ∀s,Dr l= .inr s→Vd s)
 (ZN: ∀(g:Nat) (w:World),CK 146 w g (.slice A l.length c) (posR (Rm l))→Row w B A (l.map bv)→B≤g→Calls prog 83 #[.pointer (some ⟨g,0,none⟩)] w (Gy 146 g (.slice A l.length c) w (posR (LG l)) (Wm (Rd.u8.sl false) w (LG l)))):
 Calls prog 18 #[.agg cs.toArray,.slice A l.length c] w (nM m l w):=by
 have HM:=AA hm;have CJ:=AA hhi;have GZ:=AA hle;have HN:=AA Cr;have HT:=AA htab;have HR:=AA hr;have OA:=AA hx0;have EU:=AA hin;have ZN:=AA ZN
 obtain⟨v1,v2,v3,v4,v5,v6,rfl,_⟩:=Av.1 hm
 clear hm hhi hle Cr htab hr hx0 hin
 go_enter func18,ntmps18
 go_upto_region 1 with fail
 generalize hw0:w.alloc (.cells #[v1,v2,v3,.int .i64 m.first,.int .i64 m.most,v4,v5,v6] 29)=w0
 obtain⟨hb0,hx0⟩:=EK hw0
 have hz0:w0.heap.size=w.heap.size+1:=by rw [←hw0];simp
 clear hw0
 generalize hw1:w0.alloc _=w1
 obtain⟨hb1,hx1⟩:=EK hw1
 rw [hz0] at hx1
 try rw [hz0]
 have Fz:=AA (hx0.below hb1 hx0.lt)
 have JM:=AA hx1
 have HB1:Hid (Below w.heap.size w w1):=AA (hb0.trans (hb1.mono hb0.size))
 clear hw1 hb0 hb1 hx0 hx1 hz0
 go_wp2_with (refine ou Fz.out rfl _ rfl rfl ?_)
 refine(U2 _ hi m w1 (Rd.below HM.out HB1.out CJ.out) (Nat.le_trans CJ.out HB1.out.size) GZ.out HN.out (fun w' hw'=>HT.out w' ((HB1.out.mono CJ.out).trans hw'))).mono ?_
 rintro e w2 ⟨hb2,hp⟩
 have HB2:Hid (Below w.heap.size w w2):=AA (HB1.out.trans (hb2.mono HB1.out.size))
 have Ur:=AA (Fz.out.below hb2 Fz.out.lt)
 have LU:=AA (JM.out.below hb2 JM.out.lt)
 clear hb2
 cases hv:FE m with
 | inl q=>
  rw [hv] at hp
  dsimp only at hp
  subst hp
  have hne:(q.1 !=0)=true:=by have:=J8 hv;simpa using this
  have HX:=AA hv
  clear hv
  go_wp2_with (refine F3 LU.out rfl _ _ rfl rfl _ rfl ?_ ?_ ?_ ?_;(try focus kernel_rfl);(try focus rfl);(try focus kernel_rfl))
  have Bq:=AA (LU.out.setRow #[.slice none 0 0,.slice none 0 0,.slice none 0 0,.int .i64 0,.int .i8 0,.slice none 0 0,.int .i8 0,.int .i64 0])
  generalize hw2:World.setRow _ _ _=w3 at*
  have hbz:Below w.heap.size w w3:=by rw [←hw2];exact HB2.out.trans (DK (Nat.le_succ _) _)
  refine⟨rfl,.tuple #[Qe,.int .i64 q.1,.int .i64 0],?_,hbz,by rw [HX.out]⟩
  exact Wo Bq.out rfl rfl rfl
 | inr t=>
 rw [hv] at hp
 dsimp only at hp
 obtain⟨At,ct,rfl,_⟩:=hp
 have HV:=AA hv
 clear hv
 go_wp2_with (refine ou Ur.out rfl _ rfl rfl ?_)
 refine(aF _ _ _ _ _ _ _ _ w2).mono ?_
 rintro e w3 ⟨hb3,rfl,hbk⟩
 have HB3:Hid (Below w.heap.size w w3):=AA (HB2.out.trans (hb3.mono HB2.out.size))
 have HYT:=AA (LU.out.below hb3 LU.out.lt)
 have Wy:=AA hbk
 clear hb3 hbk
 go_wp2_with fail
 refine(uU A c B l w3 (HR.out.below' HB3.out hB) (Nat.le_trans hB HB3.out.size) hlc hl ZN.out).mono ?_
 rintro e w4 ⟨hb4,iV⟩
 have Ct:Hid (Below w.heap.size w w4):=AA (HB3.out.trans (hb4.mono HB3.out.size))
 have HWS:=AA (HYT.out.below hb4 HYT.out.lt)
 have HBM:=AA (Wy.out.below hb4 Wy.out.lt)
 cases W9:Dr l with
 | inl x=>
  rw [W9] at iV
  dsimp only at iV
  subst iV
  have HX:=AA W9
  have HNE:=AA (OA.out x W9)
  clear W9 hb4
  unfold Qe
  go_wp2_with fail
  refine(AAX _ _ _ _ _ _ _ _ x.1 x.2 HNE.out _ w4).mono ?_
  rintro e w5 ⟨hb5,rfl⟩
  have Dv:Hid (Below w.heap.size w w5):=AA (Ct.out.trans (hb5.mono Ct.out.size))
  have HUS:=AA (HWS.out.below hb5 HWS.out.lt)
  clear hb5
  unfold Qe
  go_wp2_with (refine F3 HUS.out rfl _ _ rfl rfl _ rfl ?_ ?_ ?_ ?_;(try focus kernel_rfl);(try focus rfl);(try focus kernel_rfl))
  have Bq:=AA (HUS.out.setRow #[.slice none 0 0,.slice none 0 0,.slice none 0 0,.int .i64 0,.int .i8 0,.slice none 0 0,.int .i8 0,.int .i64 0])
  generalize hw2:World.setRow _ _ _=w6 at*
  have hbz:Below w.heap.size w w6:=by rw [←hw2];exact Dv.out.trans (DK (Nat.le_succ _) _)
  refine⟨rfl,.tuple #[Qe,.int .i64 x.1,.int .i64 x.2],?_,hbz,by rw [HV.out];dsimp only;rw [HX.out]⟩
  exact Wo Bq.out rfl rfl rfl
 | inr s=>
  rw [W9] at iV
  obtain⟨ds,rfl,hst⟩:=iV
  have HX:=AA W9
  have HSI:=AA (EU.out s W9)
  have HST:=AA hst
  have gP:=AA (Db.more (Nat.zero_le _) (Nat.le_trans CJ.out Ct.out.size) (Rd.below HM.out Ct.out CJ.out))
  have HST0:=AA (K8.more (Nat.zero_le _) (Nat.le_refl _) hst)
  have HT4:Hid (∀w',Below w4.heap.size w4 w'→Lib.TabIs prog w' "strings.asciiSpace" .u8 Lib.asciiSpaceTab):=AA (fun w' hw'=>HT.out w' ((Ct.out.mono CJ.out).trans (hw'.mono (Nat.le_trans CJ.out Ct.out.size))))
  obtain⟨u0,u1,u2,u5,rfl,s0,s1,s2,_,_,s5,_,_⟩:=DR.1 hst
  obtain⟨B0,d0,rfl⟩:=AJ s0
  obtain⟨B1,d1,rfl⟩:=AJ s1
  obtain⟨B2,d2,rfl⟩:=AJ s2
  obtain⟨B5,d5,rfl⟩:=AJ s5
  clear W9 hb4 hst s0 s1 s2 s5
  go_wp2_with fail
  refine(AFQ _ [.slice B0 s.frames.length d0,.slice B1 s.globs.length d1,.slice B2 s.pages.length d2,.int .i64 s.CU,.int .i8 s.end_,.slice B5 s.res.length d5,.int .i8 s.trap,.int .i64 s.used] w4.heap.size w2.heap.size m s w4 HBM.out gP.out HST0.out (Nat.le_refl _) GZ.out HN.out HSI.out HT4.out).mono ?_
  rintro e w5 ⟨hb5,rfl⟩
  have Dv:Hid (Below w.heap.size w w5):=AA (Ct.out.trans (hb5.mono Ct.out.size))
  have HUS:=AA (HWS.out.below hb5 HWS.out.lt)
  have HST5:=AA (Rd.below HST.out hb5 (Nat.le_refl _))
  have hlt3:=HYT.out.lt
  have hz5:=hb5.size
  clear hb5
  unfold ckV
  by_cases h0:(DT m s).1=0
  ·rw [if_pos h0]
   have H0:=AA h0
   clear h0
   go_wp2_with (refine F3 HUS.out rfl _ _ rfl rfl _ rfl ?_ ?_ ?_ ?_;(try focus kernel_rfl);(try focus rfl);(try focus kernel_rfl))
   have Bq:=AA (HUS.out.setRow #[.slice B0 s.frames.length d0,.slice B1 s.globs.length d1,.slice B2 s.pages.length d2,.int .i64 s.CU,.int .i8 s.end_,.slice B5 s.res.length d5,.int .i8 s.trap,.int .i64 s.used])
   generalize hw2:World.setRow _ _ _=w6 at*
   have hbz:Below w.heap.size w w6:=by rw [←hw2];exact Dv.out.trans (DK (Nat.le_succ _) _)
   refine⟨rfl,.tuple #[.agg #[.slice B0 s.frames.length d0,.slice B1 s.globs.length d1,.slice B2 s.pages.length d2,.int .i64 s.CU,.int .i8 s.end_,.slice B5 s.res.length d5,.int .i8 s.trap,.int .i64 s.used],.int .i64 0,.int .i64 0],?_,hbz,?_⟩
   ·exact Wo Bq.out rfl rfl rfl
   ·rw [HV.out];dsimp only;rw [HX.out];dsimp only;rw [if_pos H0.out]
    have hk:Keep (KN (w.heap.size+1)) w5 w6:=by rw [←hw2];exact aB _ rfl
    exact⟨[.slice B0 s.frames.length d0,.slice B1 s.globs.length d1,.slice B2 s.pages.length d2,.int .i64 s.CU,.int .i8 s.end_,.slice B5 s.res.length d5,.int .i8 s.trap,.int .i64 s.used],rfl,K8.more HB3.out.size (Nat.le_trans hz5 hk.size) (Rd.CB HST5.out hk hz5 (fun k h1 h2=>by show k≠_;omega))⟩
  ·rw [if_neg h0]
   have H0:=AA h0
   clear h0
   unfold Qe
   go_wp2_with (refine F3 HUS.out rfl _ _ rfl rfl _ rfl ?_ ?_ ?_ ?_;(try focus kernel_rfl);(try focus rfl);(try focus kernel_rfl))
   have Bq:=AA (HUS.out.setRow #[.slice none 0 0,.slice none 0 0,.slice none 0 0,.int .i64 0,.int .i8 0,.slice none 0 0,.int .i8 0,.int .i64 0])
   generalize hw2:World.setRow _ _ _=w6 at*
   have hbz:Below w.heap.size w w6:=by rw [←hw2];exact Dv.out.trans (DK (Nat.le_succ _) _)
   refine⟨rfl,.tuple #[Qe,.int .i64 (DT m s).1,.int .i64 (DT m s).2],?_,hbz,by rw [HV.out];dsimp only;rw [HX.out];dsimp only;rw [if_neg H0.out]⟩
   exact Wo Bq.out rfl rfl rfl
def Fe:List UInt8:= [70,83,78,80,1,1,0,0,0,0,0,1,0,1,0,0,0,0]
theorem AFR:Y7 Az=false:=by
 have h: ∀n:Nat,(List.replicate n (0:UInt8)).any (fun c=>c !=0)=false:=by
  intro n
  induction n with
  | zero=>rfl
  | succ n ih=>rw [List.replicate_succ,List.any_cons,ih];rfl
 exact h 4096
theorem aG:GJ BR=Fe:=by
 have hz:EW [Az] 1= []:=by rw [Uc];unfold jN;simp [AFR,EW]
 have e0:enc 0= [0]:=FB 0 (by omega)
 have e1:enc 1= [1]:=FB 1 (by omega)
 unfold GJ BR PY Dq JZ
 simp only [List.length_cons,List.length_nil,List.flatMap_nil,List.flatMap_cons]
 unfold Wu Dq
 rw [show(0+1:Nat)=1 from rfl,hz,show Int.toNat 0=0 from rfl,show Int.toNat 1=1 from rfl]
 simp only [List.length_nil,List.flatMap_nil,e0,e1]
 rfl
theorem Ms:Rm Fe= .inr ([],11):=by decide+kernel
theorem Mt:Ar Fe 64 20 11= .inr (1,12)∧Ar Fe 1 20 12= .inr (0,13):=by decide+kernel
theorem szn:BU MO≤2147483647:=by decide+kernel
theorem P_:DT MO BR=(0,0):=by decide+kernel
theorem Nz:Dr Fe= .inr BR:=by
 have h7:LG Fe= .inr ([Az],13):=by
  show C9 (Rm Fe) (Cx Fe)=_
  rw [Ms]
  show Cx Fe 11=_
  unfold Cx
  rw [Mt.1]
  dsimp only
  rw [Mt.2]
  rfl
 have h8:TN Fe= .inr ([⟨0,0,[],[]⟩],18):=by
  have f0:Ar Fe 64 20 13= .inr (1,14):=by decide+kernel
  have f4:xS Fe 14= .inr ([],18):=by decide+kernel
  have f3:pW Fe 14= .inr ([],17):=by decide+kernel
  have f2:xR Fe 14= .inr (0,16):=by decide+kernel
  have f1:fr1 Fe 14= .inr (0,15):=by decide+kernel
  show C9 (LG Fe) (Il Fe)=_
  rw [h7]
  show Il Fe 13=_
  unfold Il
  rw [f0]
  dsimp only
  unfold EX
  unfold Gt
  rw [f4,f3,f2,f1]
  rfl
 have h5:Ww Fe= .inr ([],10):=by decide+kernel
 have h4:Wv Fe= .inr (0,9):=by decide+kernel
 have h3:VT Fe= .inr (0,8):=by decide+kernel
 have h2:XK Fe= .inr (0,7):=by decide+kernel
 have h1:Yk Fe= .inr (1,6):=by decide+kernel
 unfold Dr
 rw [if_neg (by decide),if_neg (by decide),h8]
 dsimp only
 rw [if_neg (by decide)]
 unfold OO
 rw [h8,Ms,h7,h4,h1,h5,h2,h3]
 rfl
theorem U8:Ev MO:=by
 refine⟨?_,?_,by decide,by decide,?_,?_,?_⟩<;>intro x hx
 ·cases hx
 ·cases hx
 ·have hx:x∈ [(⟨0,ByteArray.empty,[⟨24,5,[]⟩,⟨6,0,[]⟩]⟩:Bt)]:=hx
  rw [List.mem_singleton] at hx
  subst hx
  refine⟨by decide,fun y hy=> ?_⟩
  have hy:y∈ [(⟨24,5,[]⟩:Ad),⟨6,0,[]⟩]:=hy
  rcases List.mem_cons.1 hy with rfl | hy
  ·exact⟨O8 (by decide),fun n hn=>by cases hn⟩
  ·rw [List.mem_singleton] at hy
   subst hy
   exact⟨O8 (by decide),fun n hn=>by cases hn⟩
 ·cases hx
 ·cases hx
theorem YT:Vd BR:=by
 refine⟨by decide,fun x hx=> ?_,by decide,by decide,fun x hx=> ?_,by decide⟩
 ·have hx:x∈ [(⟨0,0,[],[]⟩:Js)]:=hx
  rw [List.mem_singleton] at hx
  subst hx
  exact⟨by decide,by decide⟩
 ·have hx:x∈ [Az]:=hx
  rw [List.mem_singleton] at hx
  subst hx
  rw [show Az.length=4096 from List.length_replicate ..]
  decide
def TA (m:AP) (s:FU) (w:World) (e:Ending) (w':World):Prop:=Below w.heap.size w w'∧if(DT m s).1=0 then ∃A c,e= .returned (.tuple #[.slice A (GJ s).length c,.int .i64 0])∧FJ w' w.heap.size 5 (.slice A (GJ s).length c) (GJ s).length ((GJ s).map bv)
 else e= .returned (.tuple #[.slice none 0 0,.int .i64 (DT m s).1])
theorem AAI {m:AP} {s:FU} (h:(DT m s).1=0):pV s:=by
 unfold DT at h
 cases hv:FE m with
 | inl q=>rw [hv] at h;exact absurd h (J8 hv)
 | inr t=>
  rw [hv] at h
  dsimp only at h
  by_cases hm:Ik m t s=0
  ·exact pX hv hm
  ·rw [if_neg hm] at h;exact absurd h (show(44:Int)≠0 by decide)
theorem mo (cs ds:List Value) (hi:Nat) (m:AP) (s:FU) (w:World) (hm:Db.R w 0 hi cs m) (hs:K8.R w 0 hi ds s) (hhi:hi≤w.heap.size) (hle:BU m≤2147483647) (Cr:Ev m) (hin:Vd s)
 (htab: ∀w',Below hi w w'→Lib.TabIs prog w' "strings.asciiSpace" .u8 Lib.asciiSpaceTab):
 Calls prog 9 #[.agg cs.toArray,.agg ds.toArray] w (TA m s w):=by
 have HM:=AA hm;have HST:=AA hs;have CJ:=AA hhi;have GZ:=AA hle;have HN:=AA Cr;have EU:=AA hin;have HT:=AA htab
 obtain⟨v1,v2,v3,v4,v5,v6,rfl,_⟩:=Av.1 hm
 obtain⟨u0,u1,u2,u5,rfl,_⟩:=DR.1 hs
 clear hm hs hhi hle Cr hin htab
 go_enter func9,ntmps9
 go_upto_region 1 with fail
 generalize hw0:w.alloc (.cells #[v1,v2,v3,.int .i64 m.first,.int .i64 m.most,v4,v5,v6] 29)=w0
 obtain⟨hb0,hx0⟩:=EK hw0
 have hz0:w0.heap.size=w.heap.size+1:=by rw [←hw0];simp
 clear hw0
 generalize hw1:w0.alloc _=w1
 obtain⟨hb1,hx1⟩:=EK hw1
 rw [hz0] at hx1
 try rw [hz0]
 have Fz:=AA (hx0.below hb1 hx0.lt)
 have JM:=AA hx1
 have HB1:Hid (Below w.heap.size w w1):=AA (hb0.trans (hb1.mono hb0.size))
 clear hw1 hb0 hb1 hx0 hx1 hz0
 go_wp2_with (first | refine ou Fz.out rfl _ rfl rfl ?_ | refine xB JM.out rfl _ rfl rfl ?_)
 refine(YP _ _ hi m s w1 (Rd.below HM.out HB1.out CJ.out) (Rd.below HST.out HB1.out CJ.out) (Nat.le_trans CJ.out HB1.out.size) GZ.out HN.out EU.out (fun w' hw'=>HT.out w' ((HB1.out.mono CJ.out).trans hw'))).mono ?_
 rintro e w2 ⟨hb2,rfl⟩
 have HB2:Hid (Below w.heap.size w w2):=AA (HB1.out.trans (hb2.mono HB1.out.size))
 have LU:=AA (JM.out.below hb2 JM.out.lt)
 clear hb2
 by_cases h0:(DT m s).1=0
 ·have Iw:=AA (AAI h0)
  have HP:Hid (∀e w',TA m s w e w'↔Below w.heap.size w w'∧ ∃A c,e= .returned (.tuple #[.slice A (GJ s).length c,.int .i64 0])∧FJ w' w.heap.size 5 (.slice A (GJ s).length c) (GJ s).length ((GJ s).map bv)):=AA (fun e w'=>by unfold TA;rw [if_pos h0])
  rw [h0]
  clear h0
  generalize (DT m s).2=at2 at*
  go_wp2_with (refine xB LU.out rfl _ rfl rfl ?_)
  refine(mh _ hi s w2 (Rd.below HST.out HB2.out CJ.out) (Nat.le_trans CJ.out HB2.out.size) Iw.out).mono ?_
  rintro e w3 ⟨hb3,A,c,rfl,ho⟩
  have HB3:=AA (HB2.out.trans (hb3.mono HB2.out.size))
  have HO:=AA (FJ.mono ho HB2.out.size)
  clear hb3 ho
  go_wp2_with fail
  go_ret2
  exact(HP.out _ _).2 ⟨HB3.out,A,c,rfl,HO.out⟩
 ·have hne:((DT m s).1 !=0)=true:=bne_iff_ne.2 h0
  have HP:Hid (∀e w',TA m s w e w'↔Below w.heap.size w w'∧e= .returned (.tuple #[.slice none 0 0,.int .i64 (DT m s).1])):=AA (fun e w'=>by unfold TA;rw [if_neg h0])
  generalize (DT m s).1=er at*
  generalize (DT m s).2=at2 at*
  clear h0
  go_wp2_with fail
  go_ret2
  exact(HP.out _ _).2 ⟨HB2.out,rfl⟩
theorem FJ.rows {w:World} {base:Nat} {A:Option Addr} {n c:Nat} {l:List UInt8} (h:FJ w base 5 (.slice A n c) n (l.map bv)) (hn:n=l.length):Row w w.heap.size A (l.map bv)∧n≤c:=by
 rcases h with h | ⟨g,fz,he,hb,hg,hl⟩
 ·exact⟨Row.own h,(aS h).2⟩
 ·injection he with h1 h2 h3
  subst h1
  refine⟨fun _=>⟨g,0,rfl,(Array.getElem?_eq_some_iff.1 hg).1,fun j u hu=> ?_⟩,by omega⟩
  simp only [World.cell?,hg]
  simpa using hu
theorem AAf:yA BR:=by
 refine⟨⟨by decide,fun x hx=> ?_⟩,by decide,⟨by decide,fun x hx=> ?_⟩,by decide⟩
 ·have hx:x∈ [(⟨0,0,[],[]⟩:Js)]:=hx
  rw [List.mem_singleton] at hx
  subst hx
  exact⟨by decide,by decide⟩
 ·have hx:x∈ [Az]:=hx
  rw [List.mem_singleton] at hx
  subst hx
  show Az.length≤2147483647
  rw [show Az.length=4096 from List.length_replicate ..]
  decide
theorem iH: ∃t,FE MO= .inr t:=by
 have h:=P_
 cases hv:FE MO with
 | inr t=>exact⟨t,rfl⟩
 | inl q=>
  unfold DT at h
  rw [hv] at h
  exact absurd (congrArg Prod.fst h) (J8 hv)
theorem iI (w:World) (htab: ∀w',Below w.heap.size w w'→Lib.TabIs prog w' "strings.asciiSpace" .u8 Lib.asciiSpaceTab):
 Calls prog 6 #[] w fun e w'=>Below w.heap.size w w'∧e= .returned (.bool true):=by
 have HT:=AA htab
 clear htab
 go_enter func6,ntmps6
 go_wp2_with fail
 refine(U6 w).mono ?_
 rintro e w1 ⟨hb1,cs1,rfl,hm1⟩
 have HB1:=AA hb1;have PI:=AA hm1
 clear hb1 hm1
 go_wp2_with fail
 refine(U7 w1).mono ?_
 rintro e w2 ⟨hb2,cs2,rfl,hs2⟩
 have HB2:Hid (Below w.heap.size w w2):=AA (HB1.out.trans (hb2.mono HB1.out.size))
 have Yo:=AA (Db.more (Nat.zero_le _) hb2.size (Rd.below PI.out hb2 (Nat.le_refl _)))
 have HS2:=AA (K8.more (Nat.zero_le _) (Nat.le_refl _) hs2)
 clear hb2 hs2
 go_wp2_with fail
 refine(mo cs1 cs2 w2.heap.size MO BR w2 Yo.out HS2.out (Nat.le_refl _) szn U8 YT (fun w' hw'=>HT.out w' (HB2.out.trans (hw'.mono HB2.out.size)))).mono ?_
 rintro e w3 ⟨hb3,hp3⟩
 rw [if_pos (by rw [P_]),aG] at hp3
 obtain⟨A,c,rfl,ho⟩:=hp3
 have HB3:Hid (Below w.heap.size w w3):=AA (HB2.out.trans (hb3.mono HB2.out.size))
 obtain⟨hrow,hcap⟩:=ho.rows rfl
 have HR:=AA hrow
 clear hb3 ho hrow
 go_wp2_with fail
 refine(U6 w3).mono ?_
 rintro e w4 ⟨hb4,cs4,rfl,VP⟩
 have Ct:Hid (Below w.heap.size w w4):=AA (HB3.out.trans (hb4.mono HB3.out.size))
 have gP:=AA (Db.more (Nat.zero_le _) (Nat.le_refl _) VP)
 have HR4:=AA (HR.out.below' hb4 (Nat.le_refl _))
 have hz4:=hb4.size
 clear hb4 VP
 go_wp2_with fail
 refine(dD cs4 w4.heap.size MO A c w3.heap.size Fe w4 gP.out (Nat.le_refl _) szn U8 HR4.out hz4 hcap (by decide) (fun w' hw'=>HT.out w' (Ct.out.trans (hw'.mono Ct.out.size))) (fun x hx=>by rw [Nz] at hx;cases hx) (fun s hs=>by rw [Nz] at hs;injection hs with hs;subst hs;exact YT)
  (fun g W hrd hrw hBg=>by
   have:=nX g w3.heap.size A c Fe (posR (Rm Fe)) W hrd hrw hBg (by decide) hcap
   rw [show Ak (posR (Rm Fe)) (Cx Fe)=LG Fe from Cc _ _] at this
   exact this)).mono ?_
 rintro e w5 ⟨hb5,iY⟩
 obtain⟨t,ht⟩:=iH
 rw [ht] at iY
 dsimp only at iY
 rw [Nz] at iY
 dsimp only at iY
 rw [if_pos (by rw [P_])] at iY
 obtain⟨ds,rfl,hst⟩:=iY
 have Dv:Hid (Below w.heap.size w w5):=AA (Ct.out.trans (hb5.mono Ct.out.size))
 have HST:=AA hst
 obtain⟨u0,u1,u2,u5,rfl,s0,s1,s2,_,_,s5,_,_⟩:=DR.1 hst
 obtain⟨B0,d0,rfl⟩:=AJ s0
 obtain⟨B1,d1,rfl⟩:=AJ s1
 obtain⟨B2,d2,rfl⟩:=AJ s2
 obtain⟨B5,d5,rfl⟩:=AJ s5
 clear hb5 hst s0 s1 s2 s5 ht
 have hlen:(0:Int)<Fe.length:=by decide
 go_upto_region 3 with(refine Ed rfl _ _ _ rfl _ _ rfl rfl ?_ ?_ ?_ ?_;(try focus kernel_rfl);(try focus rfl);(try focus kernel_rfl))
 generalize Xy:w5.alloc _=w6
 obtain⟨hb6,hx6⟩:=EK Xy
 obtain⟨sb,hsb⟩: ∃sb,sb=w5.heap.size:=⟨_,rfl⟩
 rw [←hsb] at hx6⊢
 have HX6:=AA hx6
 have EL:Hid (Below w.heap.size w w6):=AA (Dv.out.trans (hb6.mono Dv.out.size))
 have AFa:=AA (K8.more (Nat.zero_le _) (Nat.le_refl _) (Rd.below HST.out hb6 (Nat.le_refl _)))
 have oZ:=hb6.size
 have HS:Hid (∀W,Below w6.heap.size w6 W→(W.cell? ⟨sb,0,none⟩=some (.slice B0 BR.frames.length d0)∧W.cell? ⟨sb,1,none⟩=some (.slice B1 BR.globs.length d1)∧W.cell? ⟨sb,2,none⟩=some (.slice B2 BR.pages.length d2)∧W.cell? ⟨sb,3,none⟩=some (.int .i64 BR.CU)∧W.cell? ⟨sb,4,none⟩=some (.int .i8 BR.end_)∧W.cell? ⟨sb,5,none⟩=some (.slice B5 BR.res.length d5)∧W.cell? ⟨sb,6,none⟩=some (.int .i8 BR.trap)∧W.cell? ⟨sb,7,none⟩=some (.int .i64 BR.used))):=AA (fun W hW=>uT (HX6.out.below hW HX6.out.lt))
 have iX:Hid (∀(cs':List Value) (W:World),Below w6.heap.size w6 W→K8.R W 0 W.heap.size cs' BR→Calls prog 12 #[.agg #[.slice B0 BR.frames.length d0,.slice B1 BR.globs.length d1,.slice B2 BR.pages.length d2,.int .i64 BR.CU,.int .i8 BR.end_,.slice B5 BR.res.length d5,.int .i8 BR.trap,.int .i64 BR.used],.agg cs'.toArray] W fun e w'=>Below W.heap.size W w'∧e= .returned (.bool true)):=AA (fun cs' W hW hc=>by
  refine(MP [.slice B0 BR.frames.length d0,.slice B1 BR.globs.length d1,.slice B2 BR.pages.length d2,.int .i64 BR.CU,.int .i8 BR.end_,.slice B5 BR.res.length d5,.int .i8 BR.trap,.int .i64 BR.used] cs' w5.heap.size W.heap.size BR BR W (Rd.below AFa.out hW oZ) hc (Nat.le_trans oZ hW.size) (Nat.le_refl _) AAf).mono ?_
  rintro e w' ⟨h1,b,rfl,h2⟩
  refine⟨h1,?_⟩
  rw [h2.2 rfl])
 clear Xy hb6 hx6 hsb HST HX6
 have hlen0:((Fe.length:Nat):Int)=18:=rfl
 generalize BR.frames.length=m0 at*
 generalize BR.globs.length=m1 at*
 generalize BR.pages.length=m2 at*
 generalize BR.res.length=m5 at*
 generalize BR.CU=i3 at*
 generalize BR.end_=i4 at*
 generalize BR.trap=i6 at*
 generalize BR.used=i7 at*
 clear HB1 HB2 HB3 Ct Dv PI Yo HS2 HR gP HR4 hz4 hcap HT AFa
 go_region_held3 (fun W=>W.cell? ⟨sb,0,none⟩=some (.slice B0 m0 d0)∧W.cell? ⟨sb,1,none⟩=some (.slice B1 m1 d1)∧W.cell? ⟨sb,2,none⟩=some (.slice B2 m2 d2)∧W.cell? ⟨sb,3,none⟩=some (.int .i64 i3)∧W.cell? ⟨sb,4,none⟩=some (.int .i8 i4)∧W.cell? ⟨sb,5,none⟩=some (.slice B5 m5 d5)∧W.cell? ⟨sb,6,none⟩=some (.int .i8 i6)∧W.cell? ⟨sb,7,none⟩=some (.int .i64 i7))
  (first | exact HS.out _ (Below.refl _ _) | exact HS.out _ (Below.refl _ _).drew | exact HS.out _ S2 | exact HS.out _ S1)
  (first
  | (go_at_call 24;refine(U7 _).mono ?_;rintro e W1 ⟨hb,cs',rfl,hr⟩;have S1:=CV hb;have HRB:=AA (K8.more (Nat.zero_le _) (Nat.le_refl _) hr);clear hb hr)
  | (go_at_call 12;refine(iX.out _ _ S1 HRB.out).mono ?_;rintro e W2 ⟨hb,rfl⟩;have S2:=S1.trans (hb.mono S1.size);clear hb))
 all_goals
  go_wp2_with fail
  go_ret
  exact⟨EL.out.trans (S2.mono EL.out.size),rfl⟩
end Go.Proofs.YtlagonfamllgjaaGreatDoor
