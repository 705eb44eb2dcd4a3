/- Part 37 of the proof: SnwC ModI -/
import Derived.Lib.SlBytesConst
import Derived.Test.YtlagonfamllgjaaGreatDoorR22
import Derived.Test.YtlagonfamllgjaaGreatDoorR36
namespace Go.Proofs.YtlagonfamllgjaaGreatDoor
set_option linter.unusedVariables false
set_option linter.unusedSimpArgs false
set_option maxRecDepth 100000
set_option maxHeartbeats 4000000
open Go.RowKit Tryz
theorem Ml {vs:List Nat} (hv: ∀x∈vs,Rd.Yv x) (h:vs.length≤1000):(Dq vs).length≤10+10*vs.length:=by
 unfold Dq
 rw [List.length_append]
 have:=AY vs.length (by omega)
 have:=bZ hv
 omega
theorem AAF {l:List (List UInt8)} (hp: ∀p∈l,p.length=4096) (h:l.length≤64):(PY l).length≤400000:=by
 unfold PY
 have h1:=AY l.length (by omega)
 have h2:=XJ l l.length
 have h3:=AY (EW l l.length).length (by omega)
 have h4:=cB hp (EW l l.length) (fun i hi=>by have:=aW hi;omega)
 rw [List.length_append,List.length_append]
 omega
theorem AD7 {f:Js} (h1: ∀x∈f.loc,Rd.Yv x) (h2: ∀x∈f.st,Rd.Yv x) (h3:f.loc.length≤64) (h4:f.st.length≤256) (h5:f.f<128) (h6:f.pc<2048):(Wu f).length≤4000:=by
 unfold Wu
 have a1:=AY f.f.toNat (by omega)
 have a2:=AY f.pc.toNat (by omega)
 have a3:=Ml h1 (by omega)
 have a4:=Ml h2 (by omega)
 simp only [List.length_append]
 omega
theorem AAG {l:List Js} (h: ∀f∈l,(Wu f).length≤4000):(l.flatMap Wu).length≤4000*l.length:=by
 induction l with
 | nil=>simp
 | cons f l ih=>
  rw [List.flatMap_cons,List.length_append,List.length_cons]
  have:=h f (by simp)
  have:=ih (fun g hg=>h g (by simp [hg]))
  omega
theorem K6 (v:Int) (most:Nat) (h0:0≤v) (hn:v<9223372036854775808) (hm:v≤most) (base g:Nat) (K:Nat→Prop) (l:List UInt8) (w:World) (h:Sw w base g K l) (hl:l.length≤1099511627776) (hbase:base≤w.heap.size):
 Calls prog 67 #[.pointer (some ⟨g,0,none⟩),.int .i64 v,.int .u64 most] w (Wd base g K l (enc v.toNat) w):=by
 obtain⟨n,rfl⟩:=Int.eq_ofNat_of_zero_le h0
 exact Iz n most (by omega) (by omega) base g K l w h hl hbase
theorem AD8 {W:World} {lo hi:Nat} {v:Value} {s:FU} (h:(UR.sl false).R W lo hi [v] s.frames) (ok:pV s): ∀f∈s.frames,(Wu f).length≤4000:=by
 intro f hf
 obtain⟨A,c,rfl⟩:=AJ h
 obtain⟨k,hk⟩:=List.getElem?_of_mem hf
 obtain⟨b,o,JU,IX,OD,NK,_,_,_,_,_,_,_,_,_,DU,Jz⟩:=NM h hk
 exact AD7 (Rd.M8 DU) (Rd.M8 Jz) (ok.loc f hf) (ok.st f hf) (ok.f0 f hf).2 (ok.p0 f hf).2
theorem FJ.mono {w:World} {base base':Nat} {e:TypeId} {v:Value} {n:Nat} {xs:List Value} (h:FJ w base e v n xs) (hb:base'≤base):FJ w base' e v n xs:=by
 rcases h with h | ⟨g,fz,h1,h2,h3,h4⟩
 ·exact .inl (h.mono hb)
 ·exact .inr ⟨g,fz,h1,by omega,h3,h4⟩
def AAH (l:List UInt8) (w:World) (e:Ending) (w':World):Prop:=Below w.heap.size w w'∧ ∃A c,e= .returned (.tuple #[.slice A l.length c,.int .i64 0])∧FJ w' w.heap.size 5 (.slice A l.length c) l.length (l.map bv)
theorem mg {w1 w3:World} (h:(w1.alloc (.cells #[.int .u8 70,.int .u8 83,.int .u8 78,.int .u8 80,.int .u8 1] 5 (5,6))).alloc (.cells #[.slice (some ⟨w1.heap.size,0,none⟩) 5 5,.bool false] 132)=w3):
 Sw w3 w1.heap.size (w1.heap.size+1) (fun k=>k<w1.heap.size) JZ∧Below w1.heap.size w1 w3:=by
 have hz:(w1.alloc (.cells #[.int .u8 70,.int .u8 83,.int .u8 78,.int .u8 80,.int .u8 1] 5 (5,6))).heap.size=w1.heap.size+1:=by simp
 have hb1:Below w1.heap.size w1 (w1.alloc (.cells #[.int .u8 70,.int .u8 83,.int .u8 78,.int .u8 80,.int .u8 1] 5 (5,6))):=(Below.refl _ _).alloc (Nat.le_refl _) _
 obtain⟨hb,hx⟩:=EK (w:=w1.alloc (.cells #[.int .u8 70,.int .u8 83,.int .u8 78,.int .u8 80,.int .u8 1] 5 (5,6))) (cs:= #[.slice (some ⟨w1.heap.size,0,none⟩) 5 5,.bool false]) (t:=132) h
 rw [hz] at hx hb
 have ho:FJ w3 w1.heap.size 5 (.slice (some ⟨w1.heap.size,0,none⟩) 5 5) 5 (JZ.map bv):=by
  rw [←h]
  exact FJ.alloc (.inr ⟨w1.heap.size,(5,6),rfl,Nat.le_refl _,heap_alloc_new w1 _,rfl⟩) _
 have hl:=hx.lt
 exact⟨⟨some ⟨w1.heap.size,0,none⟩,5,hx,ho,by omega,by omega,fun k hk=>by
  have hk:some w1.heap.size=some k:=hk
  injection hk with hk
  omega,fun k hk=>by omega⟩,hb1.trans (hb.mono (by omega))⟩
theorem mh (ds:List Value) (hi:Nat) (s:FU) (w:World) (hs:K8.R w 0 hi ds s) (hhi:hi≤w.heap.size) (hok:pV s):Calls prog 35 #[.agg ds.toArray] w (AAH (GJ s) w):=by
 obtain⟨u0,u1,u2,u5,rfl,s0,s1,s2,sr,_,s5,_,su⟩:=DR.1 hs
 obtain⟨B0,d0,rfl⟩:=AJ s0
 obtain⟨B1,d1,rfl⟩:=AJ s1
 obtain⟨B2,d2,rfl⟩:=AJ s2
 obtain⟨B5,d5,rfl⟩:=AJ s5
 have NI:=AA (AD8 s0 hok)
 have Iw:=AA hok
 have CJ:=AA hhi
 have S0:=AA s0;have S1:=AA s1;have S2:=AA s2;have S5:=AA s5
 have e0:=hok.e0;have e1:=hok.e1;have t0:=hok.t0;have t1:=hok.t1
 have n1: ¬s.end_<1:=by omega
 have n2: ¬3<s.end_:=by omega
 have n3: ¬s.trap<0:=by omega
 have n4: ¬6<s.trap:=by omega
 have hwe:IntKind.u8.wrap s.end_=s.end_:=by rw [IntKind.wrap_u8];omega
 have hwt:IntKind.u8.wrap s.trap=s.trap:=by rw [IntKind.wrap_u8];omega
 unfold Rd.Gd at sr su
 have SR:=AA sr
 clear hs s0 s1 s2 s5 hok hhi sr su
 go_enter func35,ntmps35
 go_upto_region 1 with fail
 generalize hw1:w.alloc (.cells #[.slice B0 s.frames.length d0,.slice B1 s.globs.length d1,.slice B2 s.pages.length d2,.int .i64 s.CU,.int .i8 s.end_,.slice B5 s.res.length d5,.int .i8 s.trap,.int .i64 s.used] 35)=w1
 obtain⟨hb1,hx1⟩:=EK hw1
 have hz1:w1.heap.size=w.heap.size+1:=by rw [←hw1];simp
 have HB1:=AA hb1;have CS:=AA hx1;have HZ1:=AA hz1
 clear hw1 hb1 hx1 hz1
 have kc:=Lib.run_convert_bytes_const (P:=prog) w1 40 5 #[.int .u8 70,.int .u8 83,.int .u8 78,.int .u8 80,.int .u8 1] 5 5 underlying40 underlying5
 go_upto_region 2 with fail
 generalize hw3:(w1.alloc _).alloc _=w3
 obtain⟨hsw,hb3⟩:=mg hw3
 obtain⟨base,hbase⟩: ∃x,x=w1.heap.size:=⟨_,rfl⟩
 obtain⟨g,hg⟩: ∃x,x=w1.heap.size+1:=⟨_,rfl⟩
 obtain⟨K,hK⟩: ∃K:Nat→Prop,K=fun k=>k<w1.heap.size:=⟨_,rfl⟩
 have Md:Hid (∀k,k<hi→K k):=AA (fun k hk=>by rw [hK];show k<_;have:=CJ.out;have:=HZ1.out;omega)
 have P7:Hid (∀k,k<w.heap.size→K k):=AA (fun k hk=>by rw [hK];show k<_;have:=HZ1.out;omega)
 have Qs:Hid (K w.heap.size):=AA (by rw [hK];show _<_;have:=HZ1.out;omega)
 rw [←hg,←hK,←hbase] at hsw
 rw [←hg]
 have HB3:Hid (Below w.heap.size w w3):=AA (HB1.out.trans (hb3.mono HB1.out.size))
 have Nq:=AA (CS.out.below hb3 CS.out.lt)
 have bn:=AA hsw
 have hbs:base≤w3.heap.size:=by rw [hbase];exact hb3.size
 have hwb:w.heap.size≤base:=by rw [hbase,HZ1.out];omega
 have Ox:=CJ.out
 have AD2:=hsw.lt
 have S0:=AA (Rd.below S0.out HB3.out Ox);have S1:=AA (Rd.below S1.out HB3.out Ox);have S2:=AA (Rd.below S2.out HB3.out Ox);have S5:=AA (Rd.below S5.out HB3.out Ox)
 clear hw3 kc hsw hb3 hbase hg hK CS
 have q4:=Nq.out.q 4 rfl
 have q6:=Nq.out.q 6 rfl
 go_upto_region 4 with fail
 obtain⟨A,c,h⟩:=bn.out
 have H:=AA h
 have hc0:=h.blk.q 0 rfl
 have hf:=h.blk.frozen 0
 have HE:Hid (JZ++([UInt8.ofNat s.end_.toNat,UInt8.ofNat s.trap.toNat]++(enc s.used.toNat++(enc s.CU.toNat++(Dq s.res++(Dq s.globs++(PY s.pages++(enc s.frames.length++s.frames.flatMap Wu)))))))=GJ s):=AA rfl
 have HET:Hid ([UInt8.ofNat s.end_.toNat,UInt8.ofNat s.trap.toNat].map bv= [.int .u8 s.end_,.int .u8 s.trap]):=AA (by
  obtain⟨a,ha⟩:=Int.eq_ofNat_of_zero_le (show 0≤s.end_ by omega)
  obtain⟨b,hb⟩:=Int.eq_ofNat_of_zero_le t0
  rw [ha,hb]
  simp only [List.map_cons,List.map_nil,Int.toNat_natCast]
  rw [F4 a (by omega),F4 b (by omega)])
 generalize hM:JZ=M at*
 have hMl:M.length≤5:=by rw [←hM];exact Nat.le_refl _
 obtain⟨i1,hi1,WT,WU,AAE⟩:=info_parts Dt
 clear h hM
 have hba: ∀o,Below w3.heap.size w3 (w3.alloc o).drew:=fun o=>((Below.refl _ _).alloc (Nat.le_refl _) o).drew
 have LM:=AA hba
 clear hba
 have h_:=AA (JY w3 [.int .u8 s.end_,.int .u8 s.trap] 5)
 go_cut [4] from 29 to 43 (fun p wx=>p= .pointer (some ⟨g,0,none⟩)∧Keep K w3 wx∧Sw wx base g K (M++ [UInt8.ofNat s.end_.toNat,UInt8.ofNat s.trap.toNat]))
 case first=>
  go_region_law
   (first
    | (refine F6 rfl (.tmp 33) (.tmp 40) 40 rfl base 5 i1 _ 1 underlying40 hi1 WT WU AAE rfl _ M.length (M.map bv) rfl (by exact(H.out.ES (LM.out _)).own) _ _ 2 2 [.int .u8 s.end_,.int .u8 s.trap] (by omega) rfl (by rfl) (by exact h_.out) (by simp [Value.oneCell']) (by unfold maxLen;omega) (by omega) (Nat.le_trans hbs (LM.out _).size) ?_;intro A4 c4 w4 h2 h3 h4;have HP:=AA ((H.out.ES (LM.out _)).put (news:= [UInt8.ofNat s.end_.toNat,UInt8.ofNat s.trap.toNat]) rfl h3 (by rw [HET.out];exact h2) h4);have XZ:=(Ay h3 (H.out.ES (LM.out _)).blk (fun e=>(H.out.apart g e).2 rfl)).frozen 0;have hc4:=(Ay h3 (H.out.ES (LM.out _)).blk (fun e=>(H.out.apart g e).2 rfl)).cell 0;have LH:=AA (((Keep.DC (K:=K) (LM.out (.cells #[.int .u8 s.end_,.int .u8 s.trap] 5))).trans HP.out.1));clear h2 h3 h4))
  all_goals
   go_wp2_with fail
   go_meet
   exact⟨rfl,LH.out,HP.out.2⟩
 case rest=>
 obtain⟨rfl,hk,hs⟩:=hcut
 obtain⟨w4,rfl⟩: ∃w4,w4=wc:=⟨_,rfl⟩
 obtain⟨L,hL⟩: ∃L,M++ [UInt8.ofNat s.end_.toNat,UInt8.ofNat s.trap.toNat]=L:=⟨_,rfl⟩
 rw [hL] at hs
 rw [←List.append_assoc,hL] at HE
 have hl:L.length≤7:=by rw [←hL,List.length_append];simp;omega
 have HS:=AA hs;have EY:=AA hk;have HX:=AA (Nq.out.keep hk Qs.out)
 have iA:hi≤w3.heap.size:=Nat.le_trans CJ.out HB3.out.size
 clear hs hk hL H h_ HET hMl q4 q6 hc0 hf hwe hwt e0 e1 t0 t1 n1 n2 n3 n4 LM
 have q:=HX.out.q 7 rfl
 have hbw:base≤w4.heap.size:=Nat.le_trans hbs EY.out.size
 have Ox:hi≤w4.heap.size:=Nat.le_trans iA EY.out.size
 go_wp2_with fail
 refine(K6 s.used 4611686018427387904 Iw.out.u0 (by have:=Iw.out.u1;omega) (by have:=Iw.out.u1;omega) base g K L w4 HS.out (by omega) hbw).mono ?_
 rintro e w5 ⟨rfl,hk,hs⟩
 have Oy:=AA (HX.out.keep hk Qs.out)
 have GY:Hid (Keep K w3 w5):=AA (EY.out.trans hk)
 obtain⟨L',hL'⟩: ∃L',L++enc s.used.toNat=L':=⟨_,rfl⟩
 rw [hL'] at hs
 have ML:Hid (L'++(enc s.CU.toNat++(Dq s.res++(Dq s.globs++(PY s.pages++(enc s.frames.length++s.frames.flatMap Wu)))))=GJ s):=AA (by rw [←hL',List.append_assoc];exact HE.out)
 have hl':L'.length≤17:=by rw [←hL',List.length_append];have:=AY s.used.toNat (by have:=Iw.out.u1;omega);omega
 have Oz:=AA hs
 clear hk hs hL' HX EY HE HS hl q hbw Ox
 clear L
 obtain⟨L,rfl⟩: ∃L,L=L':=⟨_,rfl⟩
 obtain⟨HX,EY,HE,HS,hl⟩:=And.intro Oy (And.intro GY (And.intro ML (And.intro Oz hl')))
 clear Oy GY ML Oz hl'
 have q:=HX.out.q 3 rfl
 have hbw:base≤w5.heap.size:=Nat.le_trans hbs EY.out.size
 have Ox:hi≤w5.heap.size:=Nat.le_trans iA EY.out.size
 go_wp2_with fail
 refine(K6 s.CU 9223372036854775807 Iw.out.r0 (by have:=SR.out;omega) (by have:=SR.out;omega) base g K L w5 HS.out (by omega) hbw).mono ?_
 rintro e w6 ⟨rfl,hk,hs⟩
 have Oy:=AA (HX.out.keep hk Qs.out)
 have GY:Hid (Keep K w3 w6):=AA (EY.out.trans hk)
 obtain⟨L',hL'⟩: ∃L',L++enc s.CU.toNat=L':=⟨_,rfl⟩
 rw [hL'] at hs
 have ML:Hid (L'++(Dq s.res++(Dq s.globs++(PY s.pages++(enc s.frames.length++s.frames.flatMap Wu))))=GJ s):=AA (by rw [←hL',List.append_assoc];exact HE.out)
 have hl':L'.length≤27:=by rw [←hL',List.length_append];have:=AY s.CU.toNat (by have:=SR.out;omega);omega
 have Oz:=AA hs
 clear hk hs hL' HX EY HE HS hl q hbw Ox
 clear L
 obtain⟨L,rfl⟩: ∃L,L=L':=⟨_,rfl⟩
 obtain⟨HX,EY,HE,HS,hl⟩:=And.intro Oy (And.intro GY (And.intro ML (And.intro Oz hl')))
 clear Oy GY ML Oz hl'
 have q:=HX.out.q 5 rfl
 have hbw:base≤w6.heap.size:=Nat.le_trans hbs EY.out.size
 have Ox:hi≤w6.heap.size:=Nat.le_trans iA EY.out.size
 go_wp2_with fail
 refine(Mk s.res B5 d5 8 0 hi Iw.out.res (by have:=Iw.out.res;omega) base g K L w6 (Rd.CB S5.out EY.out iA (fun k _ h=>Md.out k h)) Ox (fun k _ h=>Md.out k h) HS.out (by omega) hbw).mono ?_
 rintro e w7 ⟨rfl,hk,hs⟩
 have Oy:=AA (HX.out.keep hk Qs.out)
 have GY:Hid (Keep K w3 w7):=AA (EY.out.trans hk)
 obtain⟨L',hL'⟩: ∃L',L++Dq s.res=L':=⟨_,rfl⟩
 rw [hL'] at hs
 have ML:Hid (L'++(Dq s.globs++(PY s.pages++(enc s.frames.length++s.frames.flatMap Wu)))=GJ s):=AA (by rw [←hL',List.append_assoc];exact HE.out)
 have hl':L'.length≤117:=by rw [←hL',List.length_append];have:=(by have h1:=Ml (Rd.M8 S5.out) (by have:=Iw.out.res;omega);have h2:=Iw.out.res;omega:(Dq s.res).length≤90);omega
 have Oz:=AA hs
 clear hk hs hL' HX EY HE HS hl q hbw Ox
 clear L
 obtain⟨L,rfl⟩: ∃L,L=L':=⟨_,rfl⟩
 obtain⟨HX,EY,HE,HS,hl⟩:=And.intro Oy (And.intro GY (And.intro ML (And.intro Oz hl')))
 clear Oy GY ML Oz hl'
 have q:=HX.out.q 1 rfl
 have hbw:base≤w7.heap.size:=Nat.le_trans hbs EY.out.size
 have Ox:hi≤w7.heap.size:=Nat.le_trans iA EY.out.size
 go_wp2_with fail
 refine(Mk s.globs B1 d1 64 0 hi Iw.out.globs (by have:=Iw.out.globs;omega) base g K L w7 (Rd.CB S1.out EY.out iA (fun k _ h=>Md.out k h)) Ox (fun k _ h=>Md.out k h) HS.out (by omega) hbw).mono ?_
 rintro e w8 ⟨rfl,hk,hs⟩
 have Oy:=AA (HX.out.keep hk Qs.out)
 have GY:Hid (Keep K w3 w8):=AA (EY.out.trans hk)
 obtain⟨L',hL'⟩: ∃L',L++Dq s.globs=L':=⟨_,rfl⟩
 rw [hL'] at hs
 have ML:Hid (L'++(PY s.pages++(enc s.frames.length++s.frames.flatMap Wu))=GJ s):=AA (by rw [←hL',List.append_assoc];exact HE.out)
 have hl':L'.length≤767:=by rw [←hL',List.length_append];have:=(by have h1:=Ml (Rd.M8 S1.out) (by have:=Iw.out.globs;omega);have h2:=Iw.out.globs;omega:(Dq s.globs).length≤650);omega
 have Oz:=AA hs
 clear hk hs hL' HX EY HE HS hl q hbw Ox
 clear L
 obtain⟨L,rfl⟩: ∃L,L=L':=⟨_,rfl⟩
 obtain⟨HX,EY,HE,HS,hl⟩:=And.intro Oy (And.intro GY (And.intro ML (And.intro Oz hl')))
 clear Oy GY ML Oz hl'
 have q:=HX.out.q 2 rfl
 have hbw:base≤w8.heap.size:=Nat.le_trans hbs EY.out.size
 have Ox:hi≤w8.heap.size:=Nat.le_trans iA EY.out.size
 go_wp2_with fail
 refine(mZ s.pages B2 d2 0 hi Iw.out.pages Iw.out.page base g K L w8 (Rd.CB S2.out EY.out iA (fun k _ h=>Md.out k h)) Ox (fun k _ h=>Md.out k h) HS.out (by omega) hbw).mono ?_
 rintro e w9 ⟨rfl,hk,hs⟩
 have Oy:=AA (HX.out.keep hk Qs.out)
 have GY:Hid (Keep K w3 w9):=AA (EY.out.trans hk)
 obtain⟨L',hL'⟩: ∃L',L++PY s.pages=L':=⟨_,rfl⟩
 rw [hL'] at hs
 have ML:Hid (L'++(enc s.frames.length++s.frames.flatMap Wu)=GJ s):=AA (by rw [←hL',List.append_assoc];exact HE.out)
 have hl':L'.length≤400767:=by rw [←hL',List.length_append];have:=AAF Iw.out.page Iw.out.pages;omega
 have Oz:=AA hs
 clear hk hs hL' HX EY HE HS hl q hbw Ox
 clear L
 obtain⟨L,rfl⟩: ∃L,L=L':=⟨_,rfl⟩
 obtain⟨HX,EY,HE,HS,hl⟩:=And.intro Oy (And.intro GY (And.intro ML (And.intro Oz hl')))
 clear Oy GY ML Oz hl'
 have q:=HX.out.q 0 rfl
 have hbw:base≤w9.heap.size:=Nat.le_trans hbs EY.out.size
 have Ox:hi≤w9.heap.size:=Nat.le_trans iA EY.out.size
 go_wp2_with fail
 refine(Iz s.frames.length 64 (by have:=Iw.out.frames;omega) Iw.out.frames base g K L w9 HS.out (by omega) hbw).mono ?_
 rintro e fC ⟨rfl,hk,hs⟩
 have Oy:=AA (HX.out.keep hk Qs.out)
 have GY:Hid (Keep K w3 fC):=AA (EY.out.trans hk)
 obtain⟨L',hL'⟩: ∃L',L++enc s.frames.length=L':=⟨_,rfl⟩
 rw [hL'] at hs
 have ML:Hid (L'++(s.frames.flatMap Wu)=GJ s):=AA (by rw [←hL',List.append_assoc];exact HE.out)
 have hl':L'.length≤400777:=by rw [←hL',List.length_append];have:=AY s.frames.length (by have:=Iw.out.frames;omega);omega
 have Oz:=AA hs
 clear hk hs hL' HX EY HE HS hl q hbw Ox
 clear L
 obtain⟨L,rfl⟩: ∃L,L=L':=⟨_,rfl⟩
 obtain⟨HX,EY,HE,HS,hl⟩:=And.intro Oy (And.intro GY (And.intro ML (And.intro Oz hl')))
 clear Oy GY ML Oz hl'
 have qb:=HS.out.bad
 have q:=HX.out.q 0 rfl
 have S0:=AA (Rd.CB S0.out EY.out iA (fun k _ h=>Md.out k h))
 have iA:hi≤fC.heap.size:=Nat.le_trans iA EY.out.size
 have hbs:base≤fC.heap.size:=Nat.le_trans hbs EY.out.size
 have hfn:=Iw.out.frames
 go_wp2_with fail
 clear qb q
 obtain⟨LL,Tg⟩: ∃LL,LL=L:=⟨_,rfl⟩
 have GZ:=AA HE.out
 have Vr:Hid (LL=L):=AA Tg
 go_loopw [76] (fun i wr=> ∃k:Nat,k≤s.frames.length∧i= .int .i64 k∧Keep K fC wr∧Sw wr base g K (LL++(s.frames.take k).flatMap Wu)) (fun i _=>s.frames.length-(intOf i).toNat)
 case atStart=>exact⟨0,Nat.zero_le _,rfl,Keep.refl _ _,by rw [Vr.out];simpa using HS.out⟩
 case round=>
  obtain⟨k,hk,rfl,hkp,hsw⟩:=hrel
  have hll:LL.length≤400777:=by rw [Tg];exact hl
  rw [←Tg] at HE
  clear HS hl GZ Vr Tg
  clear L
  have GZ:=AA HE.out
  have IK:=AA hkp;have bn:=AA hsw
  have TQ:=hkp.size
  have hbr:base≤wr.heap.size:=by omega
  have hhr:hi≤wr.heap.size:=by omega
  have S0r:=AA (Rd.CB S0.out hkp iA (fun k _ h=>Md.out k h))
  clear hkp hsw HE
  by_cases hlt:k<s.frames.length
  ·obtain⟨f,hf⟩: ∃f,s.frames[k]?=some f:=⟨_,List.getElem?_eq_getElem hlt⟩
   have hmem:=List.mem_of_getElem? hf
   have RD:=AA (Iw.out.f0 f hmem);have HP0:=AA (Iw.out.p0 f hmem);have HL0:=AA (Iw.out.loc f hmem);have HT0:=AA (Iw.out.st f hmem)
   obtain⟨bf,lS,JU,IX,OD,NK,eA,_,hbf,f0,f1,f2,f3,_,_,DU,Jz⟩:=NM S0r.out hf
   subst eA
   have HLO:=AA DU;have HST:=AA Jz
   have hfl:=AAG (l:=s.frames.take k) (fun f hf=>NI.out f (List.mem_of_mem_take hf))
   obtain⟨LN,hLN⟩: ∃LN,LL++(s.frames.take (k+1)).flatMap Wu=LN:=⟨_,rfl⟩
   obtain⟨L,hL⟩: ∃L,LL++(s.frames.take k).flatMap Wu=L:=⟨_,rfl⟩
   have hl:L.length≤660000:=by rw [←hL,List.length_append];rw [List.length_take] at hfl;omega
   have HE:Hid (L++(enc f.f.toNat++(enc f.pc.toNat++(Dq f.loc++Dq f.st)))=LN):=AA (by rw [←hLN,P6 hf,←hL,List.append_assoc];rfl)
   have bS:=AA hLN
   rw [hL] at bn
   have hk0:(0:Int)≤k:=by omega
   clear hL hLN DU Jz hfl hmem hf
   go_upto_region 16 with(refine Ed rfl _ _ _ rfl _ _ rfl rfl ?_ ?_ ?_ ?_;(try focus kernel_rfl);(try focus rfl);(try focus kernel_rfl))
   generalize hwf:wr.alloc _=wf
   obtain⟨hb,hx⟩:=EK hwf
   have O1:=AA hx
   have hbf:base≤wf.heap.size:=Nat.le_trans hbr hb.size
   have hhf:hi≤wf.heap.size:=Nat.le_trans hhr hb.size
   have HS2:=AA (bn.out.with_ (P:=fun k=>k=wr.heap.size) hb (fun k hk=>by rw [hk];exact⟨Nat.le_refl _,hx.lt⟩))
   have WC:Hid (Keep K wr wf):=AA (Keep.DC hb)
   obtain⟨K2,hK2⟩: ∃K2:Nat→Prop,K2=fun k=>K k∨k=wr.heap.size:=⟨_,rfl⟩
   have HS:Hid (Sw wf base g K2 L):=AA (by rw [hK2];exact HS2.out)
   have GN:Hid (∀k,K k→K2 k):=AA (fun k hk=>by rw [hK2];exact .inl hk)
   have uH:Hid (K2 wr.heap.size):=AA (by rw [hK2];exact .inr rfl)
   have EY:Hid (Keep K2 wf wf):=AA (Keep.refl _ _)
   have HLO:=AA (Rd.CB HLO.out WC.out hhr (fun k _ h=>Md.out k h));have HST:=AA (Rd.CB HST.out WC.out hhr (fun k _ h=>Md.out k h))
   clear hwf hb hx HS2 hK2 bn f0 f1 f2 f3
   have q:=O1.out.q 0 rfl
   have hbw:base≤wf.heap.size:=Nat.le_trans hbf EY.out.size
   have Ox:hi≤wf.heap.size:=Nat.le_trans hhf EY.out.size
   go_wp2_with fail
   refine(K6 f.f 127 RD.out.1 (by have:=RD.out.2;omega) (by have:=RD.out.2;omega) base g K2 L wf HS.out (by omega) hbw).mono ?_
   rintro e y1 ⟨rfl,hk,hs⟩
   have Oy:=AA (O1.out.keep hk uH.out)
   have GY:Hid (Keep K2 wf y1):=AA (EY.out.trans hk)
   obtain⟨L',hL'⟩: ∃L',L++enc f.f.toNat=L':=⟨_,rfl⟩
   rw [hL'] at hs
   have ML:Hid (L'++(enc f.pc.toNat++(Dq f.loc++Dq f.st))=LN):=AA (by rw [←hL',List.append_assoc];exact HE.out)
   have hl':L'.length≤660010:=by rw [←hL',List.length_append];have:=AY f.f.toNat (by have:=RD.out.2;omega);omega
   have Oz:=AA hs
   clear hk hs hL' O1 EY HE HS hl q hbw Ox
   clear L
   obtain⟨L,rfl⟩: ∃L,L=L':=⟨_,rfl⟩
   obtain⟨O1,EY,HE,HS,hl⟩:=And.intro Oy (And.intro GY (And.intro ML (And.intro Oz hl')))
   clear Oy GY ML Oz hl'
   have q:=O1.out.q 1 rfl
   have hbw:base≤y1.heap.size:=Nat.le_trans hbf EY.out.size
   have Ox:hi≤y1.heap.size:=Nat.le_trans hhf EY.out.size
   go_wp2_with fail
   refine(K6 f.pc 2047 HP0.out.1 (by have:=HP0.out.2;omega) (by have:=HP0.out.2;omega) base g K2 L y1 HS.out (by omega) hbw).mono ?_
   rintro e y2 ⟨rfl,hk,hs⟩
   have Oy:=AA (O1.out.keep hk uH.out)
   have GY:Hid (Keep K2 wf y2):=AA (EY.out.trans hk)
   obtain⟨L',hL'⟩: ∃L',L++enc f.pc.toNat=L':=⟨_,rfl⟩
   rw [hL'] at hs
   have ML:Hid (L'++(Dq f.loc++Dq f.st)=LN):=AA (by rw [←hL',List.append_assoc];exact HE.out)
   have hl':L'.length≤660020:=by rw [←hL',List.length_append];have:=AY f.pc.toNat (by have:=HP0.out.2;omega);omega
   have Oz:=AA hs
   clear hk hs hL' O1 EY HE HS hl q hbw Ox
   clear L
   obtain⟨L,rfl⟩: ∃L,L=L':=⟨_,rfl⟩
   obtain⟨O1,EY,HE,HS,hl⟩:=And.intro Oy (And.intro GY (And.intro ML (And.intro Oz hl')))
   clear Oy GY ML Oz hl'
   have q:=O1.out.q 2 rfl
   have hbw:base≤y2.heap.size:=Nat.le_trans hbf EY.out.size
   have Ox:hi≤y2.heap.size:=Nat.le_trans hhf EY.out.size
   go_wp2_with fail
   refine(Mk f.loc JU IX 64 0 hi HL0.out (by have:=HL0.out;omega) base g K2 L y2 (Rd.CB HLO.out EY.out hhf (fun k _ h=>GN.out k (Md.out k h))) Ox (fun k _ h=>GN.out k (Md.out k h)) HS.out (by omega) hbw).mono ?_
   rintro e y3 ⟨rfl,hk,hs⟩
   have Oy:=AA (O1.out.keep hk uH.out)
   have GY:Hid (Keep K2 wf y3):=AA (EY.out.trans hk)
   obtain⟨L',hL'⟩: ∃L',L++Dq f.loc=L':=⟨_,rfl⟩
   rw [hL'] at hs
   have ML:Hid (L'++(Dq f.st)=LN):=AA (by rw [←hL',List.append_assoc];exact HE.out)
   have hl':L'.length≤660670:=by rw [←hL',List.length_append];have:=(by have h1:=Ml (Rd.M8 HLO.out) (by have:=HL0.out;omega);have h2:=HL0.out;omega:(Dq f.loc).length≤650);omega
   have Oz:=AA hs
   clear hk hs hL' O1 EY HE HS hl q hbw Ox
   clear L
   obtain⟨L,rfl⟩: ∃L,L=L':=⟨_,rfl⟩
   obtain⟨O1,EY,HE,HS,hl⟩:=And.intro Oy (And.intro GY (And.intro ML (And.intro Oz hl')))
   clear Oy GY ML Oz hl'
   have q:=O1.out.q 3 rfl
   have hbw:base≤y3.heap.size:=Nat.le_trans hbf EY.out.size
   have Ox:hi≤y3.heap.size:=Nat.le_trans hhf EY.out.size
   go_wp2_with fail
   refine(Mk f.st OD NK 256 0 hi HT0.out (by have:=HT0.out;omega) base g K2 L y3 (Rd.CB HST.out EY.out hhf (fun k _ h=>GN.out k (Md.out k h))) Ox (fun k _ h=>GN.out k (Md.out k h)) HS.out (by omega) hbw).mono ?_
   rintro e y4 ⟨rfl,hk,hs⟩
   have Oy:=AA (O1.out.keep hk uH.out)
   have GY:Hid (Keep K2 wf y4):=AA (EY.out.trans hk)
   obtain⟨L',hL'⟩: ∃L',L++Dq f.st=L':=⟨_,rfl⟩
   rw [hL'] at hs
   have ML:Hid (L'++([])=LN):=AA (by rw [List.append_nil,←hL'];exact HE.out)
   have hl':L'.length≤663240:=by rw [←hL',List.length_append];have:=(by have h1:=Ml (Rd.M8 HST.out) (by have:=HT0.out;omega);have h2:=HT0.out;omega:(Dq f.st).length≤2570);omega
   have Oz:=AA hs
   clear hk hs hL' O1 EY HE HS hl q hbw Ox
   clear L
   obtain⟨L,rfl⟩: ∃L,L=L':=⟨_,rfl⟩
   obtain⟨O1,EY,HE,HS,hl⟩:=And.intro Oy (And.intro GY (And.intro ML (And.intro Oz hl')))
   clear Oy GY ML Oz hl'
   go_wp2_with fail
   refine⟨⟨k+1,by omega,by go_num,(IK.out.trans WC.out).trans (EY.out.mono GN.out),?_⟩,by simp [intOf];omega⟩
   rw [bS.out,←HE.out,List.append_nil]
   exact HS.out.less GN.out
  ·obtain rfl:s.frames.length=k:=by omega
   have HE2:Hid (LL++(s.frames.take s.frames.length).flatMap Wu=GJ s):=AA (by rw [List.take_length];exact GZ.out)
   rw [HE2.out] at bn
   have qb:=bn.out.bad
   obtain⟨A,c,h⟩:=bn.out
   have qc:=h.blk.q 0 rfl
   have HO:=AA h.own
   have WC:Hid (Keep K w3 wr):=AA (EY.out.trans IK.out)
   clear h
   go_wp2_with fail
   go_ret2
   exact⟨HB3.out.trans (WC.out.below HB3.out.size P7.out),A,c,rfl,FJ.mono HO.out hwb⟩
section
attribute [local irreducible] Au
theorem Pz {m:AP} {k:Nat} {f:Bt} (hx:m.fns[k]?=some f):TY m k=Cg (Ab (decide (0≤f.t∧f.t<m.types.length)) 30) (Cg (Bz f.loc (64-Jj m f.t)) (Cg (Ab (decide (f.code.length≤2048)) 20) (Cg (Ab (decide (Et m (k+1)≤16384)) 20) (Aa f.code.length (J4 f))))):=by
 unfold TY;rw [hx]
theorem Oq {m:AP} {k:Nat} {f:Bt} (h0:Ab (decide (m.fns.length≤128)) 20=0) (he:Aa k (TY m)=0) (hx:m.fns[k]?=some f) {v:Int} (hv:v≠0) (hf:TY m k=v):IE m=v:=by
 have h1:I8 m=v:=by
  unfold I8
  rw [AX h0,Da he (by rw [hf];exact hv) _ (List.getElem?_eq_some_iff.1 hx).1,hf]
 unfold IE
 rw [Bn (by rw [h1];exact hv),h1]
theorem Zu {m:AP} (hf:I8 m=0) {v:Int} (hv:v≠0) (h:v=Ab (decide (m.dat.length≤64)) 20:=by rfl):IE m=v:=by
 subst h
 have h1:FY m=Ab (decide (m.dat.length≤64)) 20:=by unfold FY;rw [Bn hv]
 unfold IE
 rw [AX hf,Bn (by rw [h1];exact hv),h1]
theorem P5 {m:AP} (hf:I8 m=0) (h0:Ab (decide (m.dat.length≤64)) 20=0) {k:Nat} {d:Gn} (he:Aa k (Kl m)=0) (hx:m.dat[k]?=some d) {v:Int} (hv:v≠0) (hd:Kl m k=v):IE m=v:=by
 have h1:FY m=v:=by
  unfold FY
  rw [AX h0,Da he (by rw [hd];exact hv) _ (List.getElem?_eq_some_iff.1 hx).1,hd]
 unfold IE
 rw [AX hf,Bn (by rw [h1];exact hv),h1]
theorem Zv {m:AP} (hf:I8 m=0) (hd:FY m=0) {v:Int} (hv:v≠0) (h:v=Ab (decide (m.Aw.length≤64)) 20:=by rfl):IE m=v:=by
 subst h
 have h1:IZ m=Ab (decide (m.Aw.length≤64)) 20:=by unfold IZ;rw [Bn hv]
 unfold IE
 rw [AX hf,AX hd,h1]
theorem U1 {m:AP} (hf:I8 m=0) (hd:FY m=0) (h0:Ab (decide (m.Aw.length≤64)) 20=0) {k:Nat} {x:LC} (he:Aa k (PU m)=0) (hx:m.Aw[k]?=some x) {v:Int} (hv:v≠0) (hE:PU m k=v):IE m=v:=by
 have h1:IZ m=v:=by
  unfold IZ
  rw [AX h0,Da he (by rw [hE];exact hv) _ (List.getElem?_eq_some_iff.1 hx).1,hE]
 unfold IE
 rw [AX hf,AX hd,h1]
def stE (m:AP) (k:Nat) (d:Gn):Int:=Cg (Ab (decide (0≤d.at_∧d.at_≤m.first*4096)) 17) (if k=0 then 0 else match (m.dat.take k)[k-1]? with | none=>0 | some y=>Ab (decide (y.at_+y.b.length<d.at_)) 18)
theorem Ot {m:AP} {k:Nat} {d:Gn} (hx:m.dat[k]?=some d):Kl m k=Cg (stE m k d) (Cg (Ab (decide ((d.b.length:Int)≤m.first*4096-d.at_)) 13) (Ab (decide (0<d.b.length)) 17)):=by
 unfold Kl stE
 rw [hx,EG]
 by_cases hk:k=0
 ·subst hk;rfl
 ·dsimp only;rw [if_neg hk,if_neg hk,List.getElem?_take,if_pos (by omega)];rfl
theorem mJ {m:AP} (hf0:0≤m.first) (hf1:m.first≤64) {k:Nat} (h:Aa k (Kl m)=0) (hk:k≤m.dat.length): ∀y∈m.dat.take k,0≤y.at_∧y.at_≤262144∧y.b.length≤262144:=by
 intro y hy
 obtain⟨j,hj⟩:=List.getElem?_of_mem hy
 rw [List.getElem?_take] at hj
 split at hj
 ·rename_i hlt
  have h1:=BP h j hlt
  rw [Ot hj] at h1
  obtain⟨a,b⟩:=AU h1
  obtain⟨b,_⟩:=AU b
  have a:=of_decide_eq_true (DX (by decide) (AU a).1)
  have b:=of_decide_eq_true (DX (by decide) b)
  omega
 ·cases hj
theorem RI {m:AP} {k:Nat} {x:LC} (hx:m.Aw[k]?=some x):PU m k=Cg (Cg (M_ x.n) (Ri (m.Aw.take k) k x.n)) (Ab (decide (0≤x.f∧x.f<m.fns.length)) 30):=by
 unfold PU Ri
 rw [hx,EG]
 by_cases hk:k=0
 ·subst hk;rfl
 ·dsimp only;rw [if_neg hk,if_neg hk,List.getElem?_take,if_pos (by omega)]
theorem Ou {f:Bt} {j:Nat} {x:Ad} (hx:f.code[j]?=some x):J4 f j=Aq x:=by unfold J4;rw [hx]
theorem YN {x:Ad} (h:Aq x=0):0<(Gc x).length:=by
 unfold Aq at h
 unfold Gc
 cases hr:Au x.op.toNat with
 | none=>rw [hr] at h;cases h
 | some r=>simp
theorem K4 {m:AP} {k:Nat} {f:Bt} (hx:m.fns[k]?=some f):Et m (k+1)=Et m k+f.code.length:=Rb (fun f:Bt=>f.code.length) hx
theorem mK {m:AP} (h:BU m≤2147483647) (k:Nat):Et m k≤2147483647:=by
 have h1:=NW (fun f:Bt=>f.code.length) m.fns k
 have h2:BM (fun f:Bt=>f.code.length) m.fns≤BM Ii m.fns:=by
  unfold BM
  induction m.fns with
  | nil=>simp
  | cons a l ih=>simp only [List.map_cons,List.sum_cons];unfold Ii Ki at*;omega
 unfold BU at h
 unfold Et
 omega
theorem Keep.cell {K:Nat→Prop} {w w':World} (h:Keep K w w') {p:Addr} (hp:p.block<w.heap.size) (hK:K p.block):w'.cell? p=w.cell? p:=by
 have hb:=h.block p.block hp hK
 simp [World.cell?,hb]
def fnC (A:Option Addr) (c:Nat) (f:Bt):List Value:= [.int .i64 f.t,.string f.loc,.slice A f.code.length c]
structure Dy (w wr:World) (base g gs gm:Nat) (K K1:Nat→Prop) (m:AP) (cs:List Value) (all:Nat) (L:List UInt8):Prop where
 kp:Keep K w wr
 box:AQ wr gm 29 cs
 hd:Hd wr base g gs K1 m.first all m.types L
 hb:base≤wr.heap.size
structure zh (m:AP):Prop where
 sz:BU m≤2147483647
 num:Ev m
 par: ∀t∈m.types,t.p.size≤8
 f0:0≤m.first
 f1:m.first≤64
theorem Dy.ES {w wr wr':World} {base g gs gm:Nat} {K K1:Nat→Prop} {m:AP} {cs:List Value} {all:Nat} {L:List UInt8} (h:Dy w wr base g gs gm K K1 m cs all L) (hb:Below wr.heap.size wr wr'):Dy w wr' base g gs gm K K1 m cs all L:=
 ⟨h.kp.all hb,h.box.below hb h.box.lt,h.hd.ES hb,Nat.le_trans h.hb hb.size⟩
theorem Dy.to {w wr wr':World} {base g gs gm:Nat} {K K1:Nat→Prop} {m:AP} {cs:List Value} {all all':Nat} {L L':List UInt8} (h:Dy w wr base g gs gm K K1 m cs all L) (hk:Keep K1 wr wr') (hd:Hd wr' base g gs K1 m.first all' m.types L') (hm: ∀k,K k→K1 k) (hg:K1 gm):Dy w wr' base g gs gm K K1 m cs all' L':=
 ⟨h.kp.trans (hk.mono hm),h.box.keep hk hg,hd,Nat.le_trans h.hb hk.size⟩
theorem Dy.zi {w wr wr':World} {base g gs gm:Nat} {K K1:Nat→Prop} {m:AP} {cs:List Value} {all:Nat} {L:List UInt8} (h:Dy w wr base g gs gm K K1 m cs all L) (hb:Below wr.heap.size wr wr') (hl:wr.heap.size<wr'.heap.size):Dy w wr' base g gs gm K (fun j=>K1 j∨j=wr.heap.size) m cs all L:=
 ⟨h.kp.all hb,h.box.below hb h.box.lt,h.hd.box hb hl,Nat.le_trans h.hb hb.size⟩
theorem Dy.less {w wr:World} {base g gs gm:Nat} {K K1 K2:Nat→Prop} {m:AP} {cs:List Value} {all:Nat} {L:List UInt8} (h:Dy w wr base g gs gm K K2 m cs all L) (hk: ∀k,K1 k→K2 k):Dy w wr base g gs gm K K1 m cs all L:=
 ⟨h.kp,h.box,h.hd.less hk,h.hb⟩
end
end Go.Proofs.YtlagonfamllgjaaGreatDoor
