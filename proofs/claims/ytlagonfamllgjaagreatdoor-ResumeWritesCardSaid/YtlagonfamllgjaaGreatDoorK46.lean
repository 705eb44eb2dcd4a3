/- Part 46 of the proof: SnwC ResA Srd0 WireA WireB SrdA -/
import Derived.Test.YtlagonfamllgjaaGreatDoorK44
import Derived.Test.YtlagonfamllgjaaGreatDoorK45
namespace Go.Proofs.YtlagonfamllgjaaGreatDoor
set_option linter.unusedVariables false
set_option linter.unusedSimpArgs false
set_option maxRecDepth 100000
set_option maxHeartbeats 4000000
open Go.RowKit Tryz
theorem GU {vs:List Nat} (hv: ∀x∈vs,Rd.XK x) (h:vs.length≤1000):(BS vs).length≤10+10*vs.length:=by
 unfold BS
 rw [List.length_append]
 have:=AU vs.length (by omega)
 have:=Wu hv
 omega
theorem pF {l:List (List UInt8)} (hp: ∀p∈l,p.length=4096) (h:l.length≤64):(Oz l).length≤400000:=by
 unfold Oz
 have h1:=AU l.length (by omega)
 have h2:=MQ l l.length
 have h3:=AU (Bu l l.length).length (by omega)
 have h4:=Wv hp (Bu l l.length) (fun i hi=>by have:=RY hi;omega)
 rw [List.length_append,List.length_append]
 omega
theorem AE9 {f:Jy} (h1: ∀x∈f.loc,Rd.XK x) (h2: ∀x∈f.st,Rd.XK x) (h3:f.loc.length≤64) (h4:f.st.length≤256) (h5:f.f<128) (h6:f.pc<2048):(NG f).length≤4000:=by
 unfold NG
 have a1:=AU f.f.toNat (by omega)
 have a2:=AU f.pc.toNat (by omega)
 have a3:=GU h1 (by omega)
 have a4:=GU h2 (by omega)
 simp only [List.length_append]
 omega
theorem aX {l:List Jy} (h: ∀f∈l,(NG f).length≤4000):(l.flatMap NG).length≤4000*l.length:=by
 induction l with
 | nil=>simp
 | cons f l ih=>
  rw [List.flatMap_cons,List.length_append,List.length_cons]
  have:=h f (by simp)
  have:=ih (fun g hg=>h g (by simp [hg]))
  omega
theorem Li (v:Int) (most:Nat) (h0:0≤v) (hn:v<9223372036854775808) (hm:v≤most) (base g:Nat) (K:Nat→Prop) (l:List UInt8) (w:World) (h:Sw w base g K l) (hl:l.length≤1099511627776) (hbase:base≤w.heap.size):
 Calls prog 67 #[.pointer (some ⟨g,0,none⟩),.int .i64 v,.int .u64 most] w (Wt base g K l (enc v.toNat) w):=by
 obtain⟨n,rfl⟩:=Int.eq_ofNat_of_zero_le h0
 exact JM n most (by omega) (by omega) base g K l w h hl hbase
theorem dV {W:World} {lo hi:Nat} {v:Value} {s:FH} (h:(Od.sl false).R W lo hi [v] s.frames) (ok:R7 s): ∀f∈s.frames,(NG f).length≤4000:=by
 intro f hf
 obtain⟨A,c,rfl⟩:=AB h
 obtain⟨k,hk⟩:=List.getElem?_of_mem hf
 obtain⟨b,o,E8,ET,I_,Io,_,_,_,_,_,_,_,_,_,CF,Gi⟩:=JR h hk
 exact AE9 (Rd.Hw CF) (Rd.Hw Gi) (ok.loc f hf) (ok.st f hf) (ok.f0 f hf).2 (ok.p0 f hf).2
theorem Ey.mono {w:World} {base base':Nat} {e:TypeId} {v:Value} {n:Nat} {xs:List Value} (h:Ey w base e v n xs) (hb:base'≤base):Ey w base' e v n xs:=by
 rcases h with h | ⟨g,fz,h1,h2,h3,h4⟩
 ·exact .inl (h.mono hb)
 ·exact .inr ⟨g,fz,h1,by omega,h3,h4⟩
def pG (l:List UInt8) (w:World) (e:Ending) (w':World):Prop:=Below w.heap.size w w'∧ ∃A c,e= .returned (.tuple #[.slice A l.length c,.int .i64 0])∧Ey w' w.heap.size 5 (.slice A l.length c) l.length (l.map bv)
theorem pI {w1 w3:World} (h:(w1.alloc (.cells #[.int .u8 70,.int .u8 83,.int .u8 78,.int .u8 80,.int .u8 1] 5 (5,6))).alloc (.cells #[.slice (some ⟨w1.heap.size,0,none⟩) 5 5,.bool false] 132)=w3):
 Sw w3 w1.heap.size (w1.heap.size+1) (fun k=>k<w1.heap.size) G5∧Below w1.heap.size w1 w3:=by
 have hz:(w1.alloc (.cells #[.int .u8 70,.int .u8 83,.int .u8 78,.int .u8 80,.int .u8 1] 5 (5,6))).heap.size=w1.heap.size+1:=by simp
 have hb1:Below w1.heap.size w1 (w1.alloc (.cells #[.int .u8 70,.int .u8 83,.int .u8 78,.int .u8 80,.int .u8 1] 5 (5,6))):=(Below.refl _ _).alloc (Nat.le_refl _) _
 obtain⟨hb,hx⟩:=ES (w:=w1.alloc (.cells #[.int .u8 70,.int .u8 83,.int .u8 78,.int .u8 80,.int .u8 1] 5 (5,6))) (cs:= #[.slice (some ⟨w1.heap.size,0,none⟩) 5 5,.bool false]) (t:=132) h
 rw [hz] at hx hb
 have ho:Ey w3 w1.heap.size 5 (.slice (some ⟨w1.heap.size,0,none⟩) 5 5) 5 (G5.map bv):=by
  rw [←h]
  exact Ey.alloc (.inr ⟨w1.heap.size,(5,6),rfl,Nat.le_refl _,heap_alloc_new w1 _,rfl⟩) _
 have hl:=hx.lt
 exact⟨⟨some ⟨w1.heap.size,0,none⟩,5,hx,ho,by omega,by omega,fun k hk=>by
  have hk:some w1.heap.size=some k:=hk
  injection hk with hk
  omega,fun k hk=>by omega⟩,hb1.trans (hb.mono (by omega))⟩
theorem pJ (ds:List Value) (hi:Nat) (s:FH) (w:World) (hs:K7.R w 0 hi ds s) (hhi:hi≤w.heap.size) (hok:R7 s):Calls prog 35 #[.agg ds.toArray] w (pG (CP s) w):=by
 obtain⟨u0,u1,u2,u5,rfl,s0,s1,s2,sr,_,s5,_,su⟩:=CU.1 hs
 obtain⟨B0,d0,rfl⟩:=AB s0
 obtain⟨B1,d1,rfl⟩:=AB s1
 obtain⟨B2,d2,rfl⟩:=AB s2
 obtain⟨B5,d5,rfl⟩:=AB s5
 have Me:=AA (dV s0 hok)
 have EX:=AA hok
 have Bw:=AA hhi
 have S0:=AA s0;have S1:=AA s1;have S2:=AA s2;have S5:=AA s5
 have e0:=hok.e0;have e1:=hok.e1;have t0:=hok.t0;have t1:=hok.t1
 have n1: ¬s.end_<1:=by omega
 have n2: ¬3<s.end_:=by omega
 have n3: ¬s.trap<0:=by omega
 have n4: ¬6<s.trap:=by omega
 have hwe:IntKind.u8.wrap s.end_=s.end_:=by rw [IntKind.wrap_u8];omega
 have hwt:IntKind.u8.wrap s.trap=s.trap:=by rw [IntKind.wrap_u8];omega
 unfold Rd.G8 at sr su
 have SR:=AA sr
 clear hs s0 s1 s2 s5 hok hhi sr su
 go_enter func35,ntmps35
 go_upto_region 1 with fail
 generalize hw1:w.alloc (.cells #[.slice B0 s.frames.length d0,.slice B1 s.globs.length d1,.slice B2 s.pages.length d2,.int .i64 s.Bj,.int .i8 s.end_,.slice B5 s.res.length d5,.int .i8 s.trap,.int .i64 s.used] 35)=w1
 obtain⟨hb1,hx1⟩:=ES hw1
 have hz1:w1.heap.size=w.heap.size+1:=by rw [←hw1];simp
 have HB1:=AA hb1;have CX:=AA hx1;have HZ1:=AA hz1
 clear hw1 hb1 hx1 hz1
 have kc:=Lib.run_convert_bytes_const (P:=prog) w1 40 5 #[.int .u8 70,.int .u8 83,.int .u8 78,.int .u8 80,.int .u8 1] 5 5 underlying40 underlying5
 go_upto_region 2 with fail
 generalize hw3:(w1.alloc _).alloc _=w3
 obtain⟨hsw,hb3⟩:=pI hw3
 obtain⟨base,hbase⟩: ∃x,x=w1.heap.size:=⟨_,rfl⟩
 obtain⟨g,hg⟩: ∃x,x=w1.heap.size+1:=⟨_,rfl⟩
 obtain⟨K,hK⟩: ∃K:Nat→Prop,K=fun k=>k<w1.heap.size:=⟨_,rfl⟩
 have NM:Hid (∀k,k<hi→K k):=AA (fun k hk=>by rw [hK];show k<_;have:=Bw.out;have:=HZ1.out;omega)
 have iq:Hid (∀k,k<w.heap.size→K k):=AA (fun k hk=>by rw [hK];show k<_;have:=HZ1.out;omega)
 have RL:Hid (K w.heap.size):=AA (by rw [hK];show _<_;have:=HZ1.out;omega)
 rw [←hg,←hK,←hbase] at hsw
 rw [←hg]
 have HB3:Hid (Below w.heap.size w w3):=AA (HB1.out.trans (hb3.mono HB1.out.size))
 have OT:=AA (CX.out.below hb3 CX.out.lt)
 have dU:=AA hsw
 have hbs:base≤w3.heap.size:=by rw [hbase];exact hb3.size
 have hwb:w.heap.size≤base:=by rw [hbase,HZ1.out];omega
 have NY:=Bw.out
 have AE3:=hsw.lt
 have S0:=AA (Rd.below S0.out HB3.out NY);have S1:=AA (Rd.below S1.out HB3.out NY);have S2:=AA (Rd.below S2.out HB3.out NY);have S5:=AA (Rd.below S5.out HB3.out NY)
 clear hw3 kc hsw hb3 hbase hg hK CX
 have q4:=OT.out.q 4 rfl
 have q6:=OT.out.q 6 rfl
 go_upto_region 4 with fail
 obtain⟨A,c,h⟩:=dU.out
 have H:=AA h
 have hc0:=h.blk.q 0 rfl
 have hf:=h.blk.frozen 0
 have HE:Hid (G5++([UInt8.ofNat s.end_.toNat,UInt8.ofNat s.trap.toNat]++(enc s.used.toNat++(enc s.Bj.toNat++(BS s.res++(BS s.globs++(Oz s.pages++(enc s.frames.length++s.frames.flatMap NG)))))))=CP s):=AA rfl
 have HET:Hid ([UInt8.ofNat s.end_.toNat,UInt8.ofNat s.trap.toNat].map bv= [.int .u8 s.end_,.int .u8 s.trap]):=AA (by
  obtain⟨a,ha⟩:=Int.eq_ofNat_of_zero_le (show 0≤s.end_ by omega)
  obtain⟨b,hb⟩:=Int.eq_ofNat_of_zero_le t0
  rw [ha,hb]
  simp only [List.map_cons,List.map_nil,Int.toNat_natCast]
  rw [EU a (by omega),EU b (by omega)])
 generalize hM:G5=M at*
 have hMl:M.length≤5:=by rw [←hM];exact Nat.le_refl _
 obtain⟨i1,hi1,Wi,Wj,ABB⟩:=info_parts EJ
 clear h hM
 have hba: ∀o,Below w3.heap.size w3 (w3.alloc o).drew:=fun o=>((Below.refl _ _).alloc (Nat.le_refl _) o).drew
 have Nl:=AA hba
 clear hba
 have wN:=AA (Gz w3 [.int .u8 s.end_,.int .u8 s.trap] 5)
 go_cut [4] from 29 to 43 (fun p wx=>p= .pointer (some ⟨g,0,none⟩)∧Keep K w3 wx∧Sw wx base g K (M++ [UInt8.ofNat s.end_.toNat,UInt8.ofNat s.trap.toNat]))
 case first=>
  go_region_law
   (first
    | (refine Gc rfl (.tmp 33) (.tmp 40) 40 rfl base 5 i1 _ 1 underlying40 hi1 Wi Wj ABB rfl _ M.length (M.map bv) rfl (by exact(H.out.Ee (Nl.out _)).own) _ _ 2 2 [.int .u8 s.end_,.int .u8 s.trap] (by omega) rfl (by rfl) (by exact wN.out) (by simp [Value.oneCell']) (by unfold maxLen;omega) (by omega) (Nat.le_trans hbs (Nl.out _).size) ?_;intro A4 c4 w4 h2 h3 h4;have HP:=AA ((H.out.Ee (Nl.out _)).put (news:= [UInt8.ofNat s.end_.toNat,UInt8.ofNat s.trap.toNat]) rfl h3 (by rw [HET.out];exact h2) h4);have Xj:=(Av h3 (H.out.Ee (Nl.out _)).blk (fun e=>(H.out.apart g e).2 rfl)).frozen 0;have hc4:=(Av h3 (H.out.Ee (Nl.out _)).blk (fun e=>(H.out.apart g e).2 rfl)).cell 0;have UR:=AA (((Keep.DK (K:=K) (Nl.out (.cells #[.int .u8 s.end_,.int .u8 s.trap] 5))).trans HP.out.1));clear h2 h3 h4))
  all_goals
   go_wp2_with fail
   go_meet
   exact⟨rfl,UR.out,HP.out.2⟩
 case rest=>
 obtain⟨rfl,hk,hs⟩:=hcut
 obtain⟨w4,rfl⟩: ∃w4,w4=wc:=⟨_,rfl⟩
 obtain⟨L,hL⟩: ∃L,M++ [UInt8.ofNat s.end_.toNat,UInt8.ofNat s.trap.toNat]=L:=⟨_,rfl⟩
 rw [hL] at hs
 rw [←List.append_assoc,hL] at HE
 have hl:L.length≤7:=by rw [←hL,List.length_append];simp;omega
 have HS:=AA hs;have Em:=AA hk;have HX:=AA (OT.out.keep hk RL.out)
 have iw:hi≤w3.heap.size:=Nat.le_trans Bw.out HB3.out.size
 clear hs hk hL H wN HET hMl q4 q6 hc0 hf hwe hwt e0 e1 t0 t1 n1 n2 n3 n4 Nl
 have q:=HX.out.q 7 rfl
 have hbw:base≤w4.heap.size:=Nat.le_trans hbs Em.out.size
 have NY:hi≤w4.heap.size:=Nat.le_trans iw Em.out.size
 go_wp2_with fail
 refine(Li s.used 4611686018427387904 EX.out.u0 (by have:=EX.out.u1;omega) (by have:=EX.out.u1;omega) base g K L w4 HS.out (by omega) hbw).mono ?_
 rintro e w5 ⟨rfl,hk,hs⟩
 have FT:=AA (HX.out.keep hk RL.out)
 have G7:Hid (Keep K w3 w5):=AA (Em.out.trans hk)
 obtain⟨L',hL'⟩: ∃L',L++enc s.used.toNat=L':=⟨_,rfl⟩
 rw [hL'] at hs
 have EH:Hid (L'++(enc s.Bj.toNat++(BS s.res++(BS s.globs++(Oz s.pages++(enc s.frames.length++s.frames.flatMap NG)))))=CP s):=AA (by rw [←hL',List.append_assoc];exact HE.out)
 have hl':L'.length≤17:=by rw [←hL',List.length_append];have:=AU s.used.toNat (by have:=EX.out.u1;omega);omega
 have Pm:=AA hs
 clear hk hs hL' HX Em HE HS hl q hbw NY
 clear L
 obtain⟨L,rfl⟩: ∃L,L=L':=⟨_,rfl⟩
 obtain⟨HX,Em,HE,HS,hl⟩:=And.intro FT (And.intro G7 (And.intro EH (And.intro Pm hl')))
 clear FT G7 EH Pm hl'
 have q:=HX.out.q 3 rfl
 have hbw:base≤w5.heap.size:=Nat.le_trans hbs Em.out.size
 have NY:hi≤w5.heap.size:=Nat.le_trans iw Em.out.size
 go_wp2_with fail
 refine(Li s.Bj 9223372036854775807 EX.out.r0 (by have:=SR.out;omega) (by have:=SR.out;omega) base g K L w5 HS.out (by omega) hbw).mono ?_
 rintro e w6 ⟨rfl,hk,hs⟩
 have FT:=AA (HX.out.keep hk RL.out)
 have G7:Hid (Keep K w3 w6):=AA (Em.out.trans hk)
 obtain⟨L',hL'⟩: ∃L',L++enc s.Bj.toNat=L':=⟨_,rfl⟩
 rw [hL'] at hs
 have EH:Hid (L'++(BS s.res++(BS s.globs++(Oz s.pages++(enc s.frames.length++s.frames.flatMap NG))))=CP s):=AA (by rw [←hL',List.append_assoc];exact HE.out)
 have hl':L'.length≤27:=by rw [←hL',List.length_append];have:=AU s.Bj.toNat (by have:=SR.out;omega);omega
 have Pm:=AA hs
 clear hk hs hL' HX Em HE HS hl q hbw NY
 clear L
 obtain⟨L,rfl⟩: ∃L,L=L':=⟨_,rfl⟩
 obtain⟨HX,Em,HE,HS,hl⟩:=And.intro FT (And.intro G7 (And.intro EH (And.intro Pm hl')))
 clear FT G7 EH Pm hl'
 have q:=HX.out.q 5 rfl
 have hbw:base≤w6.heap.size:=Nat.le_trans hbs Em.out.size
 have NY:hi≤w6.heap.size:=Nat.le_trans iw Em.out.size
 go_wp2_with fail
 refine(NW s.res B5 d5 8 0 hi EX.out.res (by have:=EX.out.res;omega) base g K L w6 (Rd.C8 S5.out Em.out iw (fun k _ h=>NM.out k h)) NY (fun k _ h=>NM.out k h) HS.out (by omega) hbw).mono ?_
 rintro e w7 ⟨rfl,hk,hs⟩
 have FT:=AA (HX.out.keep hk RL.out)
 have G7:Hid (Keep K w3 w7):=AA (Em.out.trans hk)
 obtain⟨L',hL'⟩: ∃L',L++BS s.res=L':=⟨_,rfl⟩
 rw [hL'] at hs
 have EH:Hid (L'++(BS s.globs++(Oz s.pages++(enc s.frames.length++s.frames.flatMap NG)))=CP s):=AA (by rw [←hL',List.append_assoc];exact HE.out)
 have hl':L'.length≤117:=by rw [←hL',List.length_append];have:=(by have h1:=GU (Rd.Hw S5.out) (by have:=EX.out.res;omega);have h2:=EX.out.res;omega:(BS s.res).length≤90);omega
 have Pm:=AA hs
 clear hk hs hL' HX Em HE HS hl q hbw NY
 clear L
 obtain⟨L,rfl⟩: ∃L,L=L':=⟨_,rfl⟩
 obtain⟨HX,Em,HE,HS,hl⟩:=And.intro FT (And.intro G7 (And.intro EH (And.intro Pm hl')))
 clear FT G7 EH Pm hl'
 have q:=HX.out.q 1 rfl
 have hbw:base≤w7.heap.size:=Nat.le_trans hbs Em.out.size
 have NY:hi≤w7.heap.size:=Nat.le_trans iw Em.out.size
 go_wp2_with fail
 refine(NW s.globs B1 d1 64 0 hi EX.out.globs (by have:=EX.out.globs;omega) base g K L w7 (Rd.C8 S1.out Em.out iw (fun k _ h=>NM.out k h)) NY (fun k _ h=>NM.out k h) HS.out (by omega) hbw).mono ?_
 rintro e w8 ⟨rfl,hk,hs⟩
 have FT:=AA (HX.out.keep hk RL.out)
 have G7:Hid (Keep K w3 w8):=AA (Em.out.trans hk)
 obtain⟨L',hL'⟩: ∃L',L++BS s.globs=L':=⟨_,rfl⟩
 rw [hL'] at hs
 have EH:Hid (L'++(Oz s.pages++(enc s.frames.length++s.frames.flatMap NG))=CP s):=AA (by rw [←hL',List.append_assoc];exact HE.out)
 have hl':L'.length≤767:=by rw [←hL',List.length_append];have:=(by have h1:=GU (Rd.Hw S1.out) (by have:=EX.out.globs;omega);have h2:=EX.out.globs;omega:(BS s.globs).length≤650);omega
 have Pm:=AA hs
 clear hk hs hL' HX Em HE HS hl q hbw NY
 clear L
 obtain⟨L,rfl⟩: ∃L,L=L':=⟨_,rfl⟩
 obtain⟨HX,Em,HE,HS,hl⟩:=And.intro FT (And.intro G7 (And.intro EH (And.intro Pm hl')))
 clear FT G7 EH Pm hl'
 have q:=HX.out.q 2 rfl
 have hbw:base≤w8.heap.size:=Nat.le_trans hbs Em.out.size
 have NY:hi≤w8.heap.size:=Nat.le_trans iw Em.out.size
 go_wp2_with fail
 refine(pE s.pages B2 d2 0 hi EX.out.pages EX.out.page base g K L w8 (Rd.C8 S2.out Em.out iw (fun k _ h=>NM.out k h)) NY (fun k _ h=>NM.out k h) HS.out (by omega) hbw).mono ?_
 rintro e w9 ⟨rfl,hk,hs⟩
 have FT:=AA (HX.out.keep hk RL.out)
 have G7:Hid (Keep K w3 w9):=AA (Em.out.trans hk)
 obtain⟨L',hL'⟩: ∃L',L++Oz s.pages=L':=⟨_,rfl⟩
 rw [hL'] at hs
 have EH:Hid (L'++(enc s.frames.length++s.frames.flatMap NG)=CP s):=AA (by rw [←hL',List.append_assoc];exact HE.out)
 have hl':L'.length≤400767:=by rw [←hL',List.length_append];have:=pF EX.out.page EX.out.pages;omega
 have Pm:=AA hs
 clear hk hs hL' HX Em HE HS hl q hbw NY
 clear L
 obtain⟨L,rfl⟩: ∃L,L=L':=⟨_,rfl⟩
 obtain⟨HX,Em,HE,HS,hl⟩:=And.intro FT (And.intro G7 (And.intro EH (And.intro Pm hl')))
 clear FT G7 EH Pm hl'
 have q:=HX.out.q 0 rfl
 have hbw:base≤w9.heap.size:=Nat.le_trans hbs Em.out.size
 have NY:hi≤w9.heap.size:=Nat.le_trans iw Em.out.size
 go_wp2_with fail
 refine(JM s.frames.length 64 (by have:=EX.out.frames;omega) EX.out.frames base g K L w9 HS.out (by omega) hbw).mono ?_
 rintro e Zr ⟨rfl,hk,hs⟩
 have FT:=AA (HX.out.keep hk RL.out)
 have G7:Hid (Keep K w3 Zr):=AA (Em.out.trans hk)
 obtain⟨L',hL'⟩: ∃L',L++enc s.frames.length=L':=⟨_,rfl⟩
 rw [hL'] at hs
 have EH:Hid (L'++(s.frames.flatMap NG)=CP s):=AA (by rw [←hL',List.append_assoc];exact HE.out)
 have hl':L'.length≤400777:=by rw [←hL',List.length_append];have:=AU s.frames.length (by have:=EX.out.frames;omega);omega
 have Pm:=AA hs
 clear hk hs hL' HX Em HE HS hl q hbw NY
 clear L
 obtain⟨L,rfl⟩: ∃L,L=L':=⟨_,rfl⟩
 obtain⟨HX,Em,HE,HS,hl⟩:=And.intro FT (And.intro G7 (And.intro EH (And.intro Pm hl')))
 clear FT G7 EH Pm hl'
 have qb:=HS.out.bad
 have q:=HX.out.q 0 rfl
 have S0:=AA (Rd.C8 S0.out Em.out iw (fun k _ h=>NM.out k h))
 have iw:hi≤Zr.heap.size:=Nat.le_trans iw Em.out.size
 have hbs:base≤Zr.heap.size:=Nat.le_trans hbs Em.out.size
 have hfn:=EX.out.frames
 go_wp2_with fail
 clear qb q
 obtain⟨LL,Qs⟩: ∃LL,LL=L:=⟨_,rfl⟩
 have I7:=AA HE.out
 have RF:Hid (LL=L):=AA Qs
 go_loopw [76] (fun i wr=> ∃k:Nat,k≤s.frames.length∧i= .int .i64 k∧Keep K Zr wr∧Sw wr base g K (LL++(s.frames.take k).flatMap NG)) (fun i _=>s.frames.length-(intOf i).toNat)
 case atStart=>exact⟨0,Nat.zero_le _,rfl,Keep.refl _ _,by rw [RF.out];simpa using HS.out⟩
 case round=>
  obtain⟨k,hk,rfl,hkp,hsw⟩:=hrel
  have hll:LL.length≤400777:=by rw [Qs];exact hl
  rw [←Qs] at HE
  clear HS hl I7 RF Qs
  clear L
  have I7:=AA HE.out
  have RN:=AA hkp;have dU:=AA hsw
  have UZ:=hkp.size
  have hbr:base≤wr.heap.size:=by omega
  have hhr:hi≤wr.heap.size:=by omega
  have S0r:=AA (Rd.C8 S0.out hkp iw (fun k _ h=>NM.out k h))
  clear hkp hsw HE
  by_cases hlt:k<s.frames.length
  ·obtain⟨f,hf⟩: ∃f,s.frames[k]?=some f:=⟨_,List.getElem?_eq_getElem hlt⟩
   have hmem:=List.mem_of_getElem? hf
   have Pv:=AA (EX.out.f0 f hmem);have rH:=AA (EX.out.p0 f hmem);have zG:=AA (EX.out.loc f hmem);have HT0:=AA (EX.out.st f hmem)
   obtain⟨bf,TW,E8,ET,I_,Io,eA,_,hbf,f0,f1,f2,f3,_,_,CF,Gi⟩:=JR S0r.out hf
   subst eA
   have HLO:=AA CF;have HST:=AA Gi
   have hfl:=aX (l:=s.frames.take k) (fun f hf=>Me.out f (List.mem_of_mem_take hf))
   obtain⟨LN,hLN⟩: ∃LN,LL++(s.frames.take (k+1)).flatMap NG=LN:=⟨_,rfl⟩
   obtain⟨L,hL⟩: ∃L,LL++(s.frames.take k).flatMap NG=L:=⟨_,rfl⟩
   have hl:L.length≤660000:=by rw [←hL,List.length_append];rw [List.length_take] at hfl;omega
   have HE:Hid (L++(enc f.f.toNat++(enc f.pc.toNat++(BS f.loc++BS f.st)))=LN):=AA (by rw [←hLN,Kz hf,←hL,List.append_assoc];rfl)
   have Yb:=AA hLN
   rw [hL] at dU
   have hk0:(0:Int)≤k:=by omega
   clear hL hLN CF Gi hfl hmem hf
   go_upto_region 16 with(refine Fh rfl _ _ _ rfl _ _ rfl rfl ?_ ?_ ?_ ?_;(try focus kernel_rfl);(try focus rfl);(try focus kernel_rfl))
   generalize hwf:wr.alloc _=wf
   obtain⟨hb,hx⟩:=ES hwf
   have Jv:=AA hx
   have hbf:base≤wf.heap.size:=Nat.le_trans hbr hb.size
   have hhf:hi≤wf.heap.size:=Nat.le_trans hhr hb.size
   have HS2:=AA (dU.out.with_ (P:=fun k=>k=wr.heap.size) hb (fun k hk=>by rw [hk];exact⟨Nat.le_refl _,hx.lt⟩))
   have WS:Hid (Keep K wr wf):=AA (Keep.DK hb)
   obtain⟨K2,hK2⟩: ∃K2:Nat→Prop,K2=fun k=>K k∨k=wr.heap.size:=⟨_,rfl⟩
   have HS:Hid (Sw wf base g K2 L):=AA (by rw [hK2];exact HS2.out)
   have Iu:Hid (∀k,K k→K2 k):=AA (fun k hk=>by rw [hK2];exact .inl hk)
   have wO:Hid (K2 wr.heap.size):=AA (by rw [hK2];exact .inr rfl)
   have Em:Hid (Keep K2 wf wf):=AA (Keep.refl _ _)
   have HLO:=AA (Rd.C8 HLO.out WS.out hhr (fun k _ h=>NM.out k h));have HST:=AA (Rd.C8 HST.out WS.out hhr (fun k _ h=>NM.out k h))
   clear hwf hb hx HS2 hK2 dU f0 f1 f2 f3
   have q:=Jv.out.q 0 rfl
   have hbw:base≤wf.heap.size:=Nat.le_trans hbf Em.out.size
   have NY:hi≤wf.heap.size:=Nat.le_trans hhf Em.out.size
   go_wp2_with fail
   refine(Li f.f 127 Pv.out.1 (by have:=Pv.out.2;omega) (by have:=Pv.out.2;omega) base g K2 L wf HS.out (by omega) hbw).mono ?_
   rintro e y1 ⟨rfl,hk,hs⟩
   have FT:=AA (Jv.out.keep hk wO.out)
   have G7:Hid (Keep K2 wf y1):=AA (Em.out.trans hk)
   obtain⟨L',hL'⟩: ∃L',L++enc f.f.toNat=L':=⟨_,rfl⟩
   rw [hL'] at hs
   have EH:Hid (L'++(enc f.pc.toNat++(BS f.loc++BS f.st))=LN):=AA (by rw [←hL',List.append_assoc];exact HE.out)
   have hl':L'.length≤660010:=by rw [←hL',List.length_append];have:=AU f.f.toNat (by have:=Pv.out.2;omega);omega
   have Pm:=AA hs
   clear hk hs hL' Jv Em HE HS hl q hbw NY
   clear L
   obtain⟨L,rfl⟩: ∃L,L=L':=⟨_,rfl⟩
   obtain⟨Jv,Em,HE,HS,hl⟩:=And.intro FT (And.intro G7 (And.intro EH (And.intro Pm hl')))
   clear FT G7 EH Pm hl'
   have q:=Jv.out.q 1 rfl
   have hbw:base≤y1.heap.size:=Nat.le_trans hbf Em.out.size
   have NY:hi≤y1.heap.size:=Nat.le_trans hhf Em.out.size
   go_wp2_with fail
   refine(Li f.pc 2047 rH.out.1 (by have:=rH.out.2;omega) (by have:=rH.out.2;omega) base g K2 L y1 HS.out (by omega) hbw).mono ?_
   rintro e y2 ⟨rfl,hk,hs⟩
   have FT:=AA (Jv.out.keep hk wO.out)
   have G7:Hid (Keep K2 wf y2):=AA (Em.out.trans hk)
   obtain⟨L',hL'⟩: ∃L',L++enc f.pc.toNat=L':=⟨_,rfl⟩
   rw [hL'] at hs
   have EH:Hid (L'++(BS f.loc++BS f.st)=LN):=AA (by rw [←hL',List.append_assoc];exact HE.out)
   have hl':L'.length≤660020:=by rw [←hL',List.length_append];have:=AU f.pc.toNat (by have:=rH.out.2;omega);omega
   have Pm:=AA hs
   clear hk hs hL' Jv Em HE HS hl q hbw NY
   clear L
   obtain⟨L,rfl⟩: ∃L,L=L':=⟨_,rfl⟩
   obtain⟨Jv,Em,HE,HS,hl⟩:=And.intro FT (And.intro G7 (And.intro EH (And.intro Pm hl')))
   clear FT G7 EH Pm hl'
   have q:=Jv.out.q 2 rfl
   have hbw:base≤y2.heap.size:=Nat.le_trans hbf Em.out.size
   have NY:hi≤y2.heap.size:=Nat.le_trans hhf Em.out.size
   go_wp2_with fail
   refine(NW f.loc E8 ET 64 0 hi zG.out (by have:=zG.out;omega) base g K2 L y2 (Rd.C8 HLO.out Em.out hhf (fun k _ h=>Iu.out k (NM.out k h))) NY (fun k _ h=>Iu.out k (NM.out k h)) HS.out (by omega) hbw).mono ?_
   rintro e y3 ⟨rfl,hk,hs⟩
   have FT:=AA (Jv.out.keep hk wO.out)
   have G7:Hid (Keep K2 wf y3):=AA (Em.out.trans hk)
   obtain⟨L',hL'⟩: ∃L',L++BS f.loc=L':=⟨_,rfl⟩
   rw [hL'] at hs
   have EH:Hid (L'++(BS f.st)=LN):=AA (by rw [←hL',List.append_assoc];exact HE.out)
   have hl':L'.length≤660670:=by rw [←hL',List.length_append];have:=(by have h1:=GU (Rd.Hw HLO.out) (by have:=zG.out;omega);have h2:=zG.out;omega:(BS f.loc).length≤650);omega
   have Pm:=AA hs
   clear hk hs hL' Jv Em HE HS hl q hbw NY
   clear L
   obtain⟨L,rfl⟩: ∃L,L=L':=⟨_,rfl⟩
   obtain⟨Jv,Em,HE,HS,hl⟩:=And.intro FT (And.intro G7 (And.intro EH (And.intro Pm hl')))
   clear FT G7 EH Pm hl'
   have q:=Jv.out.q 3 rfl
   have hbw:base≤y3.heap.size:=Nat.le_trans hbf Em.out.size
   have NY:hi≤y3.heap.size:=Nat.le_trans hhf Em.out.size
   go_wp2_with fail
   refine(NW f.st I_ Io 256 0 hi HT0.out (by have:=HT0.out;omega) base g K2 L y3 (Rd.C8 HST.out Em.out hhf (fun k _ h=>Iu.out k (NM.out k h))) NY (fun k _ h=>Iu.out k (NM.out k h)) HS.out (by omega) hbw).mono ?_
   rintro e y4 ⟨rfl,hk,hs⟩
   have FT:=AA (Jv.out.keep hk wO.out)
   have G7:Hid (Keep K2 wf y4):=AA (Em.out.trans hk)
   obtain⟨L',hL'⟩: ∃L',L++BS f.st=L':=⟨_,rfl⟩
   rw [hL'] at hs
   have EH:Hid (L'++([])=LN):=AA (by rw [List.append_nil,←hL'];exact HE.out)
   have hl':L'.length≤663240:=by rw [←hL',List.length_append];have:=(by have h1:=GU (Rd.Hw HST.out) (by have:=HT0.out;omega);have h2:=HT0.out;omega:(BS f.st).length≤2570);omega
   have Pm:=AA hs
   clear hk hs hL' Jv Em HE HS hl q hbw NY
   clear L
   obtain⟨L,rfl⟩: ∃L,L=L':=⟨_,rfl⟩
   obtain⟨Jv,Em,HE,HS,hl⟩:=And.intro FT (And.intro G7 (And.intro EH (And.intro Pm hl')))
   clear FT G7 EH Pm hl'
   go_wp2_with fail
   refine⟨⟨k+1,by omega,by go_num,(RN.out.trans WS.out).trans (Em.out.mono Iu.out),?_⟩,by simp [intOf];omega⟩
   rw [Yb.out,←HE.out,List.append_nil]
   exact HS.out.less Iu.out
  ·obtain rfl:s.frames.length=k:=by omega
   have HE2:Hid (LL++(s.frames.take s.frames.length).flatMap NG=CP s):=AA (by rw [List.take_length];exact I7.out)
   rw [HE2.out] at dU
   have qb:=dU.out.bad
   obtain⟨A,c,h⟩:=dU.out
   have qc:=h.blk.q 0 rfl
   have HO:=AA h.own
   have WS:Hid (Keep K w3 wr):=AA (Em.out.trans RN.out)
   clear h
   go_wp2_with fail
   go_ret2
   exact⟨HB3.out.trans (WS.out.below HB3.out.size iq.out),A,c,rfl,Ey.mono HO.out hwb⟩
def Tp (m:AP) (s:FH) (w:World) (e:Ending) (w':World):Prop:=Below w.heap.size w w'∧if(DW m s).1=0 then ∃A c,e= .returned (.tuple #[.slice A (CP s).length c,.int .i64 0])∧Ey w' w.heap.size 5 (.slice A (CP s).length c) (CP s).length ((CP s).map bv)
 else e= .returned (.tuple #[.slice none 0 0,.int .i64 (DW m s).1])
theorem pK {m:AP} {s:FH} (h:(DW m s).1=0):R7 s:=by
 unfold DW at h
 cases hv:F7 m with
 | inl q=>rw [hv] at h;exact absurd h (MR hv)
 | inr t=>
  rw [hv] at h
  dsimp only at h
  by_cases hm:JD m t s=0
  ·exact ru hv hm
  ·rw [if_neg hm] at h;exact absurd h (show(44:Int)≠0 by decide)
theorem Yp (cs ds:List Value) (hi:Nat) (m:AP) (s:FH) (w:World) (hm:DJ.R w 0 hi cs m) (hs:K7.R w 0 hi ds s) (hhi:hi≤w.heap.size) (hle:Bg m≤2147483647) (Df:FN m) (hin:RA s)
 (htab: ∀w',Below hi w w'→Lib.TabIs prog w' "strings.asciiSpace" .u8 Lib.asciiSpaceTab):
 Calls prog 9 #[.agg cs.toArray,.agg ds.toArray] w (Tp m s w):=by
 have HM:=AA hm;have HST:=AA hs;have Bw:=AA hhi;have I7:=AA hle;have HN:=AA Df;have Es:=AA hin;have HT:=AA htab
 obtain⟨v1,v2,v3,v4,v5,v6,rfl,_⟩:=Am.1 hm
 obtain⟨u0,u1,u2,u5,rfl,_⟩:=CU.1 hs
 clear hm hs hhi hle Df hin htab
 go_enter func9,ntmps9
 go_upto_region 1 with fail
 generalize hw0:w.alloc (.cells #[v1,v2,v3,.int .i64 m.first,.int .i64 m.most,v4,v5,v6] 29)=w0
 obtain⟨hb0,hx0⟩:=ES hw0
 have hz0:w0.heap.size=w.heap.size+1:=by rw [←hw0];simp
 clear hw0
 generalize hw1:w0.alloc _=w1
 obtain⟨hb1,hx1⟩:=ES hw1
 rw [hz0] at hx1
 try rw [hz0]
 have G9:=AA (hx0.below hb1 hx0.lt)
 have Ef:=AA hx1
 have HB1:Hid (Below w.heap.size w w1):=AA (hb0.trans (hb1.mono hb0.size))
 clear hw1 hb0 hb1 hx0 hx1 hz0
 go_wp2_with (first | refine rG G9.out rfl _ rfl rfl ?_ | refine jo Ef.out rfl _ rfl rfl ?_)
 refine(Yo _ _ hi m s w1 (Rd.below HM.out HB1.out Bw.out) (Rd.below HST.out HB1.out Bw.out) (Nat.le_trans Bw.out HB1.out.size) I7.out HN.out Es.out (fun w' hw'=>HT.out w' ((HB1.out.mono Bw.out).trans hw'))).mono ?_
 rintro e w2 ⟨hb2,rfl⟩
 have HB2:Hid (Below w.heap.size w w2):=AA (HB1.out.trans (hb2.mono HB1.out.size))
 have L9:=AA (Ef.out.below hb2 Ef.out.lt)
 clear hb2
 by_cases h0:(DW m s).1=0
 ·have EX:=AA (pK h0)
  have HP:Hid (∀e w',Tp m s w e w'↔Below w.heap.size w w'∧ ∃A c,e= .returned (.tuple #[.slice A (CP s).length c,.int .i64 0])∧Ey w' w.heap.size 5 (.slice A (CP s).length c) (CP s).length ((CP s).map bv)):=AA (fun e w'=>by unfold Tp;rw [if_pos h0])
  rw [h0]
  clear h0
  generalize (DW m s).2=at2 at*
  go_wp2_with (refine jo L9.out rfl _ rfl rfl ?_)
  refine(pJ _ hi s w2 (Rd.below HST.out HB2.out Bw.out) (Nat.le_trans Bw.out HB2.out.size) EX.out).mono ?_
  rintro e w3 ⟨hb3,A,c,rfl,ho⟩
  have HB3:=AA (HB2.out.trans (hb3.mono HB2.out.size))
  have HO:=AA (Ey.mono ho HB2.out.size)
  clear hb3 ho
  go_wp2_with fail
  go_ret2
  exact(HP.out _ _).2 ⟨HB3.out,A,c,rfl,HO.out⟩
 ·have hne:((DW m s).1 !=0)=true:=bne_iff_ne.2 h0
  have HP:Hid (∀e w',Tp m s w e w'↔Below w.heap.size w w'∧e= .returned (.tuple #[.slice none 0 0,.int .i64 (DW m s).1])):=AA (fun e w'=>by unfold Tp;rw [if_neg h0])
  generalize (DW m s).1=er at*
  generalize (DW m s).2=at2 at*
  clear h0
  go_wp2_with fail
  go_ret2
  exact(HP.out _ _).2 ⟨HB2.out,rfl⟩
def Hq (T:TypeId) (W:World) (g:Nat) (Bs:Value):(Int×Int)⊕Nat→Prop
 | .inr p=>AQ W g T [Bs,.int .i64 p,.int .i64 0,.int .i64 0]
 | .inl e=>e.1≠0∧ ∃a:Int,AQ W g T [Bs,.int .i64 a,.int .i64 e.1,.int .i64 e.2]
theorem Hq.lt {T:TypeId} {W:World} {g:Nat} {Bs:Value} {st:(Int×Int)⊕Nat} (h:Hq T W g Bs st):g<W.heap.size:=by
 cases st with
 | inl e=>obtain⟨_,_,h⟩:=h;exact h.lt
 | inr p=>exact AQ.lt h
theorem Hq.keep {T:TypeId} {W W':World} {g:Nat} {Bs:Value} {st:(Int×Int)⊕Nat} {K:Nat→Prop} (h:Hq T W g Bs st) (hk:Keep K W W') (hg:K g):Hq T W' g Bs st:=by
 cases st with
 | inl e=>obtain⟨h1,a,h⟩:=h;exact⟨h1,a,h.keep hk hg⟩
 | inr p=>exact AQ.keep h hk hg
theorem Hq.below {T:TypeId} {W W':World} {g:Nat} {Bs:Value} {st:(Int×Int)⊕Nat} (h:Hq T W g Bs st) (hb:Below W.heap.size W W'):Hq T W' g Bs st:=
 h.keep (K:=fun _=>True) (Keep.DK hb) trivial
abbrev KN (g:Nat):Nat→Prop:=fun k=>k≠g
def Oa (T:TypeId) (g:Nat) (Bs:Value) (w:World) (st:(Int×Int)⊕Nat) (P:Ending→World→Prop) (e:Ending) (w':World):Prop:=Keep (KN g) w w'∧Hq T w' g Bs st∧P e w'
theorem Row.C8 {w w':World} {B:Nat} {A:Option Addr} {xs:List Value} {K:Nat→Prop} (h:Row w B A xs) (hk:Keep K w w') (hB: ∀k,k<B→K k) (hb:B≤w.heap.size):Row w' B A xs:=by
 intro hn
 obtain⟨b,o,e,hlt,hc⟩:=h hn
 refine⟨b,o,e,hlt,fun j u hu=> ?_⟩
 have:=hk.block b (by omega) (hB b hlt)
 rw [←hc j u hu]
 simp [World.cell?,this]
theorem Uj (A:Option Addr) (n cap B:Nat) (p:Int) (w:World) (l:List UInt8) (hn:n=l.length) (h47:n≤140737488351232) (hr:Row w B A (l.map bv)):
 Calls prog 110 #[.slice A n cap,.int .i64 p] w fun e w'=>w=w'∧e= .returned (.tuple #[.int .u64 (KC l p).1,.int .i64 (KC l p).2.1,.int .i64 (KC l p).2.2]):=by
 have Hr:=Lib.hid hr;clear hr
 have Hn:=Lib.hid hn;clear hn
 by_cases h0:0≤p
 ·obtain⟨q,rfl⟩:=Int.eq_ofNat_of_zero_le h0
  by_cases h1:q≤n
  ·go_enter func110,ntmps110
   go_wp2
   go_loop [7,18] (fun v i=> ∃k x:Nat,k≤10∧x<128^k∧i= .int .i64 k∧v= .int .u64 x∧UF (10-k) k x (l.drop (q+k))=UF 10 0 0 (l.drop q)) (fun _ i=>10-(intOf i).toNat)
   case atStart=>exact⟨0,0,by omega,by omega,rfl,rfl,rfl⟩
   case round=>
    obtain⟨k,x,hk,hx,rfl,rfl,hR⟩:=hrel
    have Hx:=Lib.hid hx;clear hx
    have HR:=Lib.hid hR;clear hR
    by_cases hlt:k<10
    ·have AE_:10-k=(9-k)+1:=by omega
     have HR2:Hid (UF ((9-k)+1) k x (l.drop (q+k))=UF 10 0 0 (l.drop q)):=by rw [←AE_];exact HR
     clear AE_
     by_cases hend:q+k<n
     ·obtain⟨b,o,rfl,_,hcell⟩:=Hr.out.byte (j:=q+k) (by rw [←Hn.out];exact hend)
      have HR3:Hid (UF ((9-k)+1) k x ((l[q+k]?.getD 0)::l.drop (q+k+1))=UF 10 0 0 (l.drop q)):=by
       rw [←drop_at l (q+k) (by rw [←Hn.out];exact hend)];exact HR2
      clear HR2 HR
      have hB:(l[q+k]?.getD 0).toNat<256:=UInt8.toNat_lt _
      generalize l[q+k]?.getD 0=c8 at*
      have HR4:=Lib.hid ((jw _ _ _ _ _).symm.trans HR3.out)
      generalize hc:c8.toNat=c at*
      have Hc:=Lib.hid hc;clear hc HR3
      have hk0:(0:Int)≤q+k:=by omega
      have hAcc:Hid (k=9→c≤1)∨(k=9∧1<c):=by
       by_cases h:k=9∧1<c
       ·exact .inr h
       ·exact .inl (Lib.hid (by omega))
      rcases hAcc with h9c | ⟨h9,h1c⟩
      ·have hnot: ¬(k=9∧1<c):=by have:=h9c.out;omega
       have HS:Hid ((if c<128 then(if c=0∧0<k then(0,0,12) else(x+c%128*128^k,k+1,0)) else UF (9-k) (k+1) (x+c%128*128^k) (l.drop (q+k+1)))=UF 10 0 0 (l.drop q)):=by
        have:=HR4.out;rw [if_neg hnot] at this;exact this
       clear HR4 hnot
       have HA:=Lib.hid (acc x c k (by omega) hB Hx.out h9c.out)
       have HL:=Lib.hid (rO x c k Hx.out)
       have pO:(k<9∧((k:Int)==9)=false)∨(((k:Int)==9)=true∧c≤1):=by
        by_cases h:k<9
        ·exact .inl ⟨h,by simp;omega⟩
        ·exact .inr ⟨by simp;omega,h9c.out (by omega)⟩
       by_cases h128:c<128
       ·by_cases hc0:c=0∧0<k
        ·obtain⟨rfl,hk1⟩:=hc0
         have HT:Hid ((0,0,12)=UF 10 0 0 (l.drop q)):=by
          have:=HS.out;rw [if_pos (by omega),if_pos ⟨rfl,hk1⟩] at this;exact this
         clear HS HA HL
         rcases pO with⟨_,zR⟩ | ⟨zR,_⟩<;>
         ·go_wp2
          go_ret3
          rw [Oi l q (by rw [←Hn.out];exact h1) HT.out.symm]
          exact⟨rfl,ZI rfl rfl rfl⟩
        ·have HT:Hid ((x+c%128*128^k,k+1,0)=UF 10 0 0 (l.drop q)):=by
          have:=HS.out;rw [if_pos h128,if_neg hc0] at this;exact this
         have hz:(((c:Int)==0)=true∧ ¬(0:Int)<k)∨((c:Int)==0)=false:=by
          by_cases h:c=0
          ·exact .inl ⟨by simp;omega,by omega⟩
          ·exact .inr (by simp;omega)
         clear HS
         rcases pO with⟨_,zR⟩ | ⟨zR,_⟩<;>rcases hz with⟨hz1,hz2⟩ | hz1<;>
         ·go_wp2
          go_ret3
          rw [Oi l q (by rw [←Hn.out];exact h1) HT.out.symm]
          exact⟨rfl,ZI HA.out (by simp;omega) rfl⟩
       ·have HT:Hid (UF (9-k) (k+1) (x+c%128*128^k) (l.drop (q+k+1))=UF 10 0 0 (l.drop q)):=by
         have:=HS.out;rw [if_neg h128] at this;exact this
        clear HS
        rcases pO with⟨_,zR⟩ | ⟨zR,h⟩
        ·go_wp2
         go_round
         case rel=>exact⟨k+1,_,by omega,HL.out,by go_num,by rw [HA.out],by rw [←HT.out,show 10-(k+1)=9-k from by omega,show q+(k+1)=q+k+1 from by omega]⟩
         case measure=>simp [intOf];omega
        ·exact absurd h (by omega)
      ·have HT:Hid ((0,0,11)=UF 10 0 0 (l.drop q)):=by
        have:=HR4.out;rw [if_pos ⟨h9,h1c⟩] at this;exact this
       clear HR4
       have zR:((k:Int)==9)=true:=by simp;omega
       have h1c2:(1:Int)<c:=by omega
       clear h9 h1c
       go_wp2
       go_ret3
       rw [Oi l q (by rw [←Hn.out];exact h1) HT.out.symm]
       exact⟨rfl,ZI rfl rfl rfl⟩
     ·have HT:Hid ((0,0,10)=UF 10 0 0 (l.drop q)):=by
       have:=HR2.out
       rw [List.drop_of_length_le (by rw [←Hn.out];omega),rP] at this
       exact this
      go_wp2
      go_ret3
      rw [Oi l q (by rw [←Hn.out];exact h1) HT.out.symm]
      exact⟨rfl,ZI rfl rfl rfl⟩
    ·obtain rfl:k=10:=by omega
     have HT:Hid ((0,0,11)=UF 10 0 0 (l.drop q)):=HR.out
     go_wp2
     go_ret3
     rw [Oi l q (by rw [←Hn.out];exact h1) HT.out.symm]
     exact⟨rfl,ZI rfl rfl rfl⟩
  ·go_enter func110,ntmps110
   go_wp2
   go_ret3
   rw [XI l q (.inr (by rw [←Hn.out];omega))]
   exact⟨rfl,ZI rfl rfl rfl⟩
 ·go_enter func110,ntmps110
  go_wp2
  go_ret3
  rw [XI l p (.inl (by omega))]
  exact⟨rfl,ZI rfl rfl rfl⟩

def noR (e a:Int):(Int×Int)⊕Nat→(Int×Int)⊕Nat
 | .inl x=> .inl x
 | .inr _=> .inl (e,a)
theorem Iy {w:World} {g:Nat} (i:Nat) (u:Value):Keep (KN g) w (w.setCell ⟨g,i,none⟩ u):=(Keep.refl _ _).setCell (fun h=>h rfl) u
theorem VP (g:Nat) (Bs:Value) (e a:Int) (st:(Int×Int)⊕Nat) (w:World) (h:Hq 146 w g Bs st) (he:e≠0):
 Calls prog 84 #[.pointer (some ⟨g,0,none⟩),.int .i64 e,.int .i64 a] w (Oa 146 g Bs w (noR e a st) fun en _=>en= .returned (.tuple #[])):=by
 cases st with
 | inl x=>
  obtain⟨hne,b,hb⟩:=h
  have H:=AA (show Hq 146 w g Bs (.inl x)from⟨hne,b,hb⟩)
  have q2:=hb.q 2 rfl
  have n1:(x.1==0)=false:=beq_eq_false_iff_ne.2 hne
  clear hne hb
  go_enter func84,ntmps84
  go_wp2_with fail
  go_end0
  exact⟨Keep.refl _ _,H.out,rfl⟩
 | inr p=>
  have hb:AQ w g 146 [Bs,.int .i64 p,.int .i64 0,.int .i64 0]:=h
  have H:=AA hb
  have q2:=hb.q 2 rfl
  have q3:=hb.q 3 rfl
  have z2:=hb.frozen 2
  have z3:=hb.frozen 3
  clear h hb
  go_enter func84,ntmps84
  go_wp2_with fail
  go_end0
  exact⟨(Iy 2 _).trans (Iy 3 _),⟨he,p,(H.out.set 2 (.int .i64 e)).set 3 (.int .i64 a)⟩,rfl⟩
theorem Fj (g B:Nat) (A:Option Addr) (c:Nat) (l:List UInt8) (most:Nat) (great:Int) (st:(Int×Int)⊕Nat) (w:World) (h:Hq 146 w g (.slice A l.length c) st) (hr:Row w B A (l.map bv)) (hl:l.length≤140737488351232) (hg:great≠0):
 Calls prog 81 #[.pointer (some ⟨g,0,none⟩),.int .u64 most,.int .i64 great] w (Oa 146 g (.slice A l.length c) w (posR (DN st (DX l most great))) fun en _=>en= .returned (.int .u64 (EI 0 (DN st (DX l most great)):Nat))):=by
 cases st with
 | inl x=>
  obtain⟨hne,b,hb⟩:=h
  have H:=AA (show Hq 146 w g (.slice A l.length c) (.inl x)from⟨hne,b,hb⟩)
  have q2:=hb.q 2 rfl
  have n1:(x.1 !=0)=true:=bne_iff_ne.2 hne
  clear hne hb hr
  go_enter func81,ntmps81
  go_wp2_with fail
  go_ret
  exact⟨Keep.refl _ _,H.out,rfl⟩
 | inr p=>
  have hb:AQ w g 146 [.slice A l.length c,.int .i64 p,.int .i64 0,.int .i64 0]:=h
  have H:=AA hb
  have HR:=AA hr
  have q0:=hb.q 0 rfl
  have q1:=hb.q 1 rfl
  have q2:=hb.q 2 rfl
  have HU:Hid (∀x,Calls prog 110 #[.slice A l.length c,.int .i64 p] (w.drewN x) fun e w'=>w.drewN x=w'∧e= .returned (.tuple #[.int .u64 (KC l p).1,.int .i64 (KC l p).2.1,.int .i64 (KC l p).2.2])):=AA (fun x=>Uj A l.length c B p (w.drewN x) l rfl hl (HR.out.drewN x))
  have HQ:Hid (DN (.inr p) (DX l most great)=DX l most great p):=AA rfl
  have HN:Hid (DX l most great p=if(KC l p).2.2≠0 then .inl ((KC l p).2.2,p) else if most<(KC l p).1 then .inl (great,p) else .inr ((KC l p).1,(KC l p).2.1)):=AA rfl
  rw [HQ.out]
  clear h hb hr HQ
  generalize KC l p=u at*
  obtain⟨v,q,er⟩:=u
  dsimp only at HU HN
  go_enter func81,ntmps81
  go_wp2_with fail
  go_quiet ((go_at_call 110;exact BF (HU.out _)))
  generalize hw2:w.drewN _=w2
  have H2:Hid (AQ w2 g 146 [.slice A l.length c,.int .i64 p,.int .i64 0,.int .i64 0]):=AA (by rw [←hw2];exact H.out.drewN _)
  have HK:Hid (Keep (KN g) w w2):=AA (by rw [←hw2];exact(Keep.refl _ _).drewN _)
  have k1:=H2.out.q 1 rfl
  have z1:=H2.out.frozen 1
  clear hw2 H q0 q1 q2 HU
  by_cases her:er=0
  ·subst her
   by_cases hv:most<v
   ·have HX:Hid (DX l most great p= .inl (great,p)):=AA (by rw [HN.out,if_neg (by simp),if_pos hv])
    have hvi:(most:Int)<v:=by omega
    have n2:(great !=0)=true:=bne_iff_ne.2 hg
    clear HN
    go_wp2_with fail
    refine(VP g _ great p (.inr p) w2 H2.out hg).mono ?_
    rintro en w3 ⟨hk,hs,rfl⟩
    have Lp:=AA hk;have XH:=AA hs
    clear hk hs
    go_wp2_with fail
    go_ret
    rw [HX.out]
    exact⟨HK.out.trans Lp.out,XH.out,rfl⟩
   ·have HX:Hid (DX l most great p= .inr (v,q)):=AA (by rw [HN.out,if_neg (by simp),if_neg hv])
    have hvi: ¬(most:Int)<v:=by omega
    clear HN
    go_wp2_with fail
    go_ret
    rw [HX.out]
    exact⟨HK.out.trans (Iy 1 _),H2.out.set 1 (.int .i64 q),rfl⟩
  ·have HX:Hid (DX l most great p= .inl ((er:Int),(p:Int))):=AA (by rw [HN.out,if_pos her])
   have n1:((er:Int)==0)=false:=by rw [beq_eq_false_iff_ne];omega
   have n2:((er:Int) !=0)=true:=by rw [bne_iff_ne];omega
   have hei:(er:Int)≠0:=by omega
   clear HN her
   go_wp2_with fail
   refine(VP g _ er p (.inr p) w2 H2.out hei).mono ?_
   rintro en w3 ⟨hk,hs,rfl⟩
   have Lp:=AA hk;have XH:=AA hs
   clear hk hs
   go_wp2_with fail
   go_ret
   rw [HX.out]
   exact⟨HK.out.trans Lp.out,XH.out,rfl⟩
end Go.Proofs.YtlagonfamllgjaaGreatDoor
