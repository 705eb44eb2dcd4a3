/- Part 25 of the proof: SrdJ -/
import Derived.Test.YtlagonfamllgjaaGreatDoorR24
namespace Go.Proofs.YtlagonfamllgjaaGreatDoor
set_option linter.unusedVariables false
set_option linter.unusedSimpArgs false
set_option maxRecDepth 100000
set_option maxHeartbeats 4000000
open Go.RowKit Tryz
def nY (l:List UInt8) (n N k:Nat) (pg:List (List UInt8)) (bh:Nat) (RR:G8 (List (List UInt8))):(Int×Int)⊕Nat→Prop
 | .inr q=>Em l n (N-k) pg bh q=RR
 | .inl e=>RR= .inl e
def AAi (T:TypeId) (g base:Nat) (Bs:Value) (l:List UInt8) (n N:Nat) (A1:Option Addr) (c1:Nat) (bl:List Nat) (RR:G8 (List (List UInt8))) (w:World) (last i:Value) (wr:World):Prop:= ∃(k:Nat) (pg:List (List UInt8)) (bh:Nat) (st:(Int×Int)⊕Nat),k≤N∧i= .int .u64 k∧last= .int .i64 ((bh:Int)-1)∧bh≤n∧
 RJ base wr A1 n c1 bl pg∧Keep (KN g) w wr∧CK T wr g Bs st∧nY l n N k pg bh RR st
theorem aI (g B:Nat) (A:Option Addr) (c:Nat) (l:List UInt8) (st:(Int×Int)⊕Nat) (w:World) (h:CK 112 w g (.slice A l.length c) st) (hr:Row w B A (l.map bv)) (hB:B≤g) (hl:l.length≤524288) (hlc:l.length≤c):
 Calls prog 59 #[.pointer (some ⟨g,0,none⟩)] w (Gy 112 g (.slice A l.length c) w (posR (Ak st (Cx l))) (Wm (Rd.u8.sl false) w (Ak st (Cx l)))):=by
 have H:=AA h;have HR:=AA hr;have hgl:=h.lt
 have cK:Hid (∀k,k<B→KN g k):=AA (fun k hk=>by show k≠g;omega)
 obtain⟨i0,z0,GU,GV,GX,D8,KY⟩:=info_parts' L6
 have Z5:=AA GU;have Z6:=AA GV;have Z7:=AA GX;have Ny:=AA D8;have M5:=AA KY
 obtain⟨i1,hi1,hz1,hs1,hb1⟩:=info_parts Dt
 have HMK:=AA (fun W=>Er (P:=prog) 40 5 i1 (.int .u8 0) 1 underlying40 hi1 hz1 rfl hs1 hb1 4096 4096 rfl (by omega) (by omega) W)
 clear h hr GU GV GX D8 KY hi1 hz1 hs1 hb1
 have HC:=AA (Dm g B A c l 64 20 st w H.out HR.out (by omega) (by decide))
 have HX:Hid (Ak st (Cx l)=match Ak st (Ar l 64 20)with | .inl e=> .inl e | .inr (n,q)=>match Ar l n 20 q with | .inl e=> .inl e | .inr (k,r)=>Em l n k (List.replicate n Az) 0 r):=AA (by cases st<;>rfl)
 have GZ:Hid (∀v q,Ak st (Ar l 64 20)= .inr (v,q)→v≤64):=AA (fun v q h=>by cases st with | inl x=>cases h | inr p=>exact ET h)
 obtain⟨RR,hRR⟩: ∃RR,Ak st (Cx l)=RR:=⟨_,rfl⟩
 rw [hRR] at HX⊢
 clear hRR
 go_enter func59,ntmps59
 go_wp2_with fail
 refine HC.out.mono ?_
 rintro en w1 ⟨hk1,hs1,rfl⟩
 have Ls:=AA hk1;have Nr:=AA hs1
 have hz1:=hk1.size
 clear hk1 hs1
 obtain⟨n,hnn⟩: ∃n,B_ 0 (Ak st (Ar l 64 20))=n:=⟨_,rfl⟩
 have hn64:n≤64:=by
  rw [←hnn]
  cases hn:Ak st (Ar l 64 20)with
  | inl x=>exact Nat.zero_le _
  | inr x=>exact GZ.out x.1 x.2 hn
 have wT:=AA hnn
 rw [hnn]
 clear hnn GZ HC
 go_wp2_with fail
 go_loopw [3,5] (fun v i wr=> ∃(k:Nat) (A1:Option Addr) (c1:Nat) (bl:List Nat),k≤n∧i= .int .u64 k∧v= .slice A1 k c1∧RJ w.heap.size wr A1 k c1 bl (List.replicate k Az)∧Keep (KN g) w wr∧CK 112 wr g (.slice A l.length c) (posR (Ak st (Ar l 64 20)))) (fun _ i _=>n-(intOf i).toNat)
 case atStart=>exact⟨0,none,0,[],Nat.zero_le _,rfl,rfl,RJ.nil _ _,Ls.out,Nr.out⟩
 case round=>
  obtain⟨k,A1,c1,bl,hk,rfl,rfl,hg,hkp,hs⟩:=hrel
  have HG:=AA hg;have IK:=AA hkp;have HS:=AA hs
  have TQ:=hkp.size
  have hk0:(0:Int)≤k:=by omega
  clear hg hkp hs
  by_cases hlt:k<n
  ·have hki:(k:Int)<n:=by omega
   have m_:=HMK.out wr
   have HN:Hid (Yt (.int .u8 0) 4096=(Az.map bv).toArray):=AA Mr
   rw [HN.out] at m_
   have GL:Hid (Row ((wr.alloc (.cells (Az.map bv).toArray 5)).alloc (.cells #[.slice (some ⟨wr.heap.size,0,none⟩) 4096 4096] 40)) (wr.heap.size+1+1) (some ⟨wr.heap.size+1,0,none⟩) [Qc wr.heap.size]):=AA (by
    have:=row_one (wr.alloc (.cells (Az.map bv).toArray 5)) (Qc wr.heap.size) 40
    rw [show(wr.alloc (.cells (Az.map bv).toArray 5)).heap.size=wr.heap.size+1 by simp] at this
    exact this)
   clear HN
   go_wp2_with (at_builtin;refine BL _ rfl _ _ 32 rfl w.heap.size 40 i0 z0 1 24 underlying32 Z5.out Z6.out Z7.out Ny.out M5.out (by omega) (.slice A1 k c1) k (bl.map Qc) rfl ((HG.out.own.alloc _).alloc _) _ _ 1 1 [Qc wr.heap.size] rfl rfl GL.out (by simp [Value.oneCell',Qc]) (by unfold maxLen;omega) (by omega) (by simp;omega) ?_;intro A6 c6 w6 h2 h3 h4;have H2:=AA h2;have H3:=AA h3;clear h2 h3 h4)
   have Sz:Below w.heap.size wr w6:=((((Below.refl w.heap.size wr).alloc TQ _).alloc (by simp;omega) _)).trans (BG ((HG.out.own.alloc _).alloc _) H3.out (by simp;omega))
   have oQ:=AA (HG.out.snoc TQ rfl H2.out H3.out)
   rw [show List.replicate k Az++ [Az]=List.replicate (k+1) Az from(List.replicate_succ' ..).symm] at oQ
   exact⟨⟨k+1,A6,c6,_,by omega,by go_num,rfl,oQ.out,IK.out.CY Sz,HS.out.under Sz hgl⟩,by simp [intOf];omega⟩
  ·obtain rfl:n=k:=by omega
   have hki: ¬(n:Int)<n:=by omega
   have TS:=AA (Dm g B A c l n 20 (posR (Ak st (Ar l 64 20))) wr HS.out (Row.CB HR.out IK.out cK.out (by omega)) (by omega) (by decide))
   have wW:Hid (Ak (posR (Ak st (Ar l 64 20))) (Ar l n 20)=match Ak st (Ar l 64 20)with | .inl e=> .inl e | .inr (_,q)=>Ar l n 20 q):=AA (by cases Ak st (Ar l 64 20)<;>rfl)
   have Bq:Hid (RR=match Ak (posR (Ak st (Ar l 64 20))) (Ar l n 20)with | .inl e=> .inl e | .inr (k,r)=>Em l n k (List.replicate n Az) 0 r):=AA (by
    rw [wW.out,HX.out]
    have h:=wT.out
    cases hn:Ak st (Ar l 64 20)with
    | inl e=>rfl
    | inr x=>
     rw [hn] at h
     have h:x.1=n:=h
     obtain⟨x1,x2⟩:=x
     dsimp only at h⊢
     rw [h])
   obtain⟨NR,hNR⟩: ∃NR,Ak (posR (Ak st (Ar l 64 20))) (Ar l n 20)=NR:=⟨_,rfl⟩
   have HNL:Hid (∀v r,NR= .inr (v,r)→v≤n):=AA (fun v r h=>by
    rw [←hNR] at h
    cases hq:posR (Ak st (Ar l 64 20))with
    | inl x=>rw [hq] at h;cases h
    | inr p=>rw [hq] at h;exact ET h)
   rw [hNR] at TS Bq
   clear HMK wW HX wT hNR
   go_wp2_with fail
   refine TS.out.mono ?_
   rintro en w2 ⟨hk2,hs2,rfl⟩
   have GN:=AA (IK.out.trans hk2)
   have HG2:=AA (HG.out.kn hk2 hgl)
   have HS2:=AA hs2
   have hz2:=hk2.size
   clear hk2 hs2 TS HS
   obtain⟨N,hN⟩: ∃N,B_ 0 NR=N:=⟨_,rfl⟩
   have hNn:N≤n:=by
    rw [←hN]
    cases hq:NR with
    | inl x=>exact Nat.zero_le _
    | inr x=>exact HNL.out x.1 x.2 hq
   have OA:Hid (nY l n N 0 (List.replicate n Az) 0 RR (posR NR)):=AA (by
    rw [Bq.out,←hN]
    cases NR with
    | inl x=>rfl
    | inr x=>rfl)
   rw [hN]
   clear hN HNL Bq
   go_wp2_with fail
   go_loopw [7,8,9,10] (fun last i _ _ wq=>AAi 112 g w.heap.size (.slice A l.length c) l n N A1 c1 bl RR w last i wq) (fun _ i _ _ _=>N-(intOf i).toNat)
   case atStart=>exact⟨0,List.replicate n Az,0,posR NR,Nat.zero_le _,rfl,rfl,Nat.zero_le _,HG2.out,GN.out,HS2.out,OA.out⟩
   case round=>
    obtain⟨k,pg,bh,st2,hk,rfl,rfl,hbn,hg,hkp,hs,hgo⟩:=hrel
    have HG:=AA hg;have IK:=AA hkp
    have hzq:=hkp.size
    clear hg
    by_cases hlt:k<N
    ·have hki:(k:Int)<N:=by omega
     have hk0:(0:Int)≤k:=by omega
     cases st2 with
     | inl x=>
      have HS:=AA hs
      obtain⟨c2,n1,n2⟩:=hs.err
      have Ey:Hid (RR= .inl x):=AA hgo
      clear hs hgo hkp
      go_wp2_with fail
      go_ret
      rw [Ey.out]
      exact⟨IK.out,HS.out,A1,n,c1,rfl,fun vs q h=>by cases h⟩
     | inr p=>
      have HS:=AA hs
      have dH:=AA (Dm g B A c l 18446744073709551615 17 (.inr p) _ hs (Row.CB HR.out hkp cK.out (by omega)) (by omega) (by decide))
      have hgo:Em l n (N-k) pg bh p=RR:=hgo
      have Ey:=AA (O9 (l:=l) (n:=n) (q:=p) (bh:=bh) (pg:=pg) hlt)
      rw [hgo] at Ey
      have q1:=AQ.q (show AQ _ g 112 [.slice A l.length c,.int .i64 p,.int .i64 0,.int .i64 0] from hs) 1 rfl
      have q2:=AQ.q (show AQ _ g 112 [.slice A l.length c,.int .i64 p,.int .i64 0,.int .i64 0] from hs) 2 rfl
      clear hkp hs hgo
      go_wp2_with fail
      refine dH.out.mono ?_
      rintro en w3 ⟨hk3,hs3,rfl⟩
      have GQ:=AA (IK.out.trans hk3)
      have uw:=AA (HG.out.kn hk3 hgl)
      have Iy:Hid (CK 112 w3 g (.slice A l.length c) (posR (Ar l 18446744073709551615 17 p))):=AA hs3
      have e3:Ak (.inr p) (Ar l 18446744073709551615 17)=Ar l 18446744073709551615 17 p:=rfl
      rw [e3]
      have hz3:=hk3.size
      clear hk3 hs3 e3 dH q1 q2
      unfold NC at Ey
      cases hN:Ar l 18446744073709551615 17 p with
      | inl x=>
       rw [hN] at Iy Ey
       dsimp only at Ey
       have LV:Hid (CK 112 w3 g (.slice A l.length c) (.inl x)):=Iy
       have UD:=GQ;have u_:=uw
       obtain⟨c2,n1,n2⟩:=LV.out.err
       simp only [B_]
       clear hN
       go_wp2_with fail
       go_region
       go_wp2_with fail
       go_region
       go_wp2_with fail
       exact⟨⟨k+1,pg,bh,.inl x,by omega,by go_num,rfl,hbn,(u_.out.all (Below.refl _ _).drew).all (Below.refl _ _).drew,UD.out.drew.drew,LV.out,Ey.out⟩,by simp [intOf];omega⟩
      | inr x=>
       obtain⟨i,q2⟩:=x
       rw [hN] at Iy Ey
       dsimp only at Ey
       have Iy:Hid (CK 112 w3 g (.slice A l.length c) (.inr q2)):=Iy
       have HB3:Hid (AQ w3 g 112 [.slice A l.length c,.int .i64 q2,.int .i64 0,.int .i64 0]):=Iy
       have hi64:=ET hN
       have hq2:=Yd hN
       have c0:=HB3.out.q 0 rfl
       have c1':=HB3.out.q 1 rfl
       have c2:=HB3.out.q 2 rfl
       simp only [B_]
       clear hN
       by_cases hni:n≤i
       ·rw [if_pos hni] at Ey
        have h1:(n:Int)≤i:=by omega
        go_wp2_with fail
        refine(G_ g _ 17 p (.inr q2) w3 Iy.out (by decide)).mono ?_
        rintro en w4 ⟨hk4,hs4,rfl⟩
        have UD:=AA (GQ.out.trans hk4)
        have u_:=AA (uw.out.kn hk4 hgl)
        have LV:Hid (CK 112 w4 g (.slice A l.length c) (.inl (17,p))):=AA hs4
        clear hk4 hs4 c0 c1' c2
        obtain⟨c2,n1,n2⟩:=LV.out.err
        go_wp2_with fail
        go_region
        go_wp2_with fail
        go_region
        go_wp2_with fail
        exact⟨⟨k+1,pg,bh,.inl (17,p),by omega,by go_num,rfl,hbn,(u_.out.all (Below.refl _ _).drew).all (Below.refl _ _).drew,UD.out.drew.drew,LV.out,Ey.out⟩,by simp [intOf];omega⟩
       rw [if_neg hni] at Ey
       have h1: ¬(n:Int)≤i:=by omega
       by_cases hib:i<bh
       ·rw [if_pos hib] at Ey
        have h2:(i:Int)≤(bh:Int)-1:=by omega
        go_wp2_with fail
        refine(G_ g _ 18 p (.inr q2) w3 Iy.out (by decide)).mono ?_
        rintro en w4 ⟨hk4,hs4,rfl⟩
        have UD:=AA (GQ.out.trans hk4)
        have u_:=AA (uw.out.kn hk4 hgl)
        have LV:Hid (CK 112 w4 g (.slice A l.length c) (.inl (18,p))):=AA hs4
        clear hk4 hs4 c0 c1' c2
        obtain⟨c2,n1,n2⟩:=LV.out.err
        go_wp2_with fail
        go_region
        go_wp2_with fail
        go_region
        go_wp2_with fail
        exact⟨⟨k+1,pg,bh,.inl (18,p),by omega,by go_num,rfl,hbn,(u_.out.all (Below.refl _ _).drew).all (Below.refl _ _).drew,UD.out.drew.drew,LV.out,Ey.out⟩,by simp [intOf];omega⟩
       rw [if_neg hib] at Ey
       have h2: ¬(i:Int)≤(bh:Int)-1:=by omega
       by_cases hsh:l.length<q2+4096
       ·rw [if_pos hsh] at Ey
        have h3:(l.length:Int)<q2+4096:=by omega
        go_wp2_with fail
        go_region
        have Qp:Hid (CK 112 w3.drew g (.slice A l.length c) (.inr q2)):=AA Iy.out
        have xG:w3.drew.cell? ⟨g,1,none⟩=some (.int .i64 q2):=c1'
        have LH:=AA GQ.out.drew
        have WE:=AA (uw.out.all (Below.refl _ _).drew)
        generalize w3.drew=w4 at*
        go_wp2_with fail
        refine(G_ g _ 10 q2 (.inr q2) w4 Qp.out (by decide)).mono ?_
        rintro en w5 ⟨hk5,hs5,rfl⟩
        have UD:=AA (LH.out.trans hk5)
        have u_:=AA (WE.out.kn hk5 hgl)
        have LV:Hid (CK 112 w5 g (.slice A l.length c) (.inl (10,q2))):=AA hs5
        clear hk5 hs5 c0 c1' c2 xG
        obtain⟨c2,n1,n2⟩:=LV.out.err
        go_wp2_with fail
        go_region
        go_wp2_with fail
        exact⟨⟨k+1,pg,bh,.inl (10,q2),by omega,by go_num,rfl,hbn,u_.out.all (Below.refl _ _).drew,UD.out.drew,LV.out,Ey.out⟩,by simp [intOf];omega⟩
       rw [if_neg hsh] at Ey
       have h3: ¬(l.length:Int)<q2+4096:=by omega
       obtain⟨ba,oa,eA,hba,hcell⟩:=(Row.CB HR.out GQ.out cK.out (by omega):Row w3 B A (l.map bv)) (by rw [List.length_map];omega)
       subst eA
       obtain⟨P,hP⟩: ∃P,(l.drop q2).take 4096=P:=⟨_,rfl⟩
       rw [hP] at Ey
       have hpl:P.length=4096:=by rw [←hP,List.length_take,List.length_drop];omega
       have dH:Hid (w3.rangeAt ba (oa+q2) (P.map bv)):=AA (fun j v hv=>by
        have hj:=(List.getElem?_eq_some_iff.1 hv).1
        rw [List.length_map,hpl] at hj
        rw [Nat.add_assoc]
        refine hcell (q2+j) v ?_
        rw [←hv,←hP,←List.getElem?_drop,←List.map_drop,List.map_take,List.getElem?_take,if_pos (by omega)])
       have LM:=AA hba
       have Wz:=AA hpl
       clear hcell hba hP hpl
       go_wp2_with fail
       go_region
       have Qp:Hid (CK 112 w3.drew g (.slice (some ⟨ba,oa,none⟩) l.length c) (.inr q2)):=AA Iy.out
       have c0d:w3.drew.cell? ⟨g,0,none⟩=some (.slice (some ⟨ba,oa,none⟩) l.length c):=c0
       have xG:w3.drew.cell? ⟨g,1,none⟩=some (.int .i64 q2):=c1'
       have c2d:w3.drew.cell? ⟨g,2,none⟩=some (.int .i64 0):=c2
       have LH:=AA GQ.out.drew
       have uy:Hid (w3.drew.rangeAt ba (oa+q2) (P.map bv)):=AA dH.out
       have WE:=AA (uw.out.all (Below.refl _ _).drew)
       clear c0 c1' c2 Iy GQ dH uw HB3
       generalize w3.drew=w4 at*
       obtain⟨z,hz⟩: ∃z,Y7 P=z:=⟨_,rfl⟩
       rw [hz] at Ey
       have HNO:Hid (∀x,Calls prog 49 #[.slice (some ⟨ba,oa+q2,none⟩) 4096 (c-q2)] (w4.drewN x) fun e w'=>w4.drewN x=w'∧e= .returned (.bool (!z))):=AA (fun x=>by
        have:=Ye P (some ⟨ba,oa+q2,none⟩) (c-q2) B (w4.drewN x) (fun hn=>⟨ba,oa+q2,rfl,LM.out,fun j v hv=>uy.out j v hv⟩) (by rw [Wz.out];omega)
        rw [Wz.out,hz] at this
        exact this)
       have hcq: ¬c=q2:=by omega
       clear hz
       go_wp2_with fail
       go_quiet ((go_at_call 49;exact Bj (HNO.out _)))
       have Yp:Hid (CK 112 (w4.drewN nq) g (.slice (some ⟨ba,oa,none⟩) l.length c) (.inr q2)):=AA Qp.out
       have Vp:=AA (LH.out.drewN nq)
       have HC5:Hid ((w4.drewN nq).rangeAt ba (oa+q2) (P.map bv)):=AA uy.out
       have PG:=AA (WE.out.all (below_drewN (Below.refl _ _) nq))
       clear c0d xG c2d Qp LH uy WE HNO hz3
       generalize w4.drewN nq=w5 at*
       have Dv:Hid (AQ w5 g 112 [.slice (some ⟨ba,oa,none⟩) l.length c,.int .i64 q2,.int .i64 0,.int .i64 0]):=Yp
       have c1:=Dv.out.q 1 rfl
       have c2:=Dv.out.q 2 rfl
       cases z with
       | false=>
        rw [if_pos rfl] at Ey
        go_wp2_with fail
        refine(G_ g _ 12 q2 (.inr q2) w5 Yp.out (by decide)).mono ?_
        rintro en w6 ⟨L8,hs6,rfl⟩
        have UD:=AA (Vp.out.trans L8)
        have u_:=AA (PG.out.kn L8 hgl)
        have LV:Hid (CK 112 w6 g (.slice (some ⟨ba,oa,none⟩) l.length c) (.inl (12,q2))):=AA hs6
        clear L8 hs6 c1 c2
        obtain⟨c2,n1,n2⟩:=LV.out.err
        go_wp2_with fail
        exact⟨⟨k+1,pg,bh,.inl (12,q2),by omega,by go_num,rfl,hbn,u_.out,UD.out,LV.out,Ey.out⟩,by simp [intOf];omega⟩
       | true=>
        rw [if_neg (by simp)] at Ey
        dsimp only at Ey
        have hil:i<n:=by omega
        obtain⟨b,hb⟩: ∃b,bl[i]?=some b:=⟨_,List.getElem?_eq_getElem (by rw [←PG.out.len];exact hil)⟩
        obtain⟨old,hold⟩: ∃old,pg[i]?=some old:=⟨_,List.getElem?_eq_getElem (by rw [←PG.out.lens,←PG.out.len];exact hil)⟩
        obtain⟨hbb,hbk⟩:=PG.out.blk i b old hb hold
        have HOL:=AA (PG.out.page old (List.mem_of_getElem? hold))
        have Wy:=AA hbk;have HBI:=AA hb
        obtain⟨g2,o2,eA,_,hcell⟩:=(Row.own PG.out.own).at (j:=i) (u:=Qc b) (by rw [List.getElem?_map,hb];rfl)
        subst eA
        have c0:=Dv.out.q 0 rfl
        have hgb:g≠b:=by omega
        have hlq:q2≤l.length:=by omega
        have hin:(i:Int)<n:=by omega
        have hi0:(0:Int)≤i:=by omega
        have hw:IntKind.i64.wrap ((q2:Int)+4096)=(q2:Int)+4096:=by rw [IntKind.wrap_i64];omega
        have hb0:0≤(q2:Int)+4096:=by omega
        have hb1:(q2:Int)+4096≤c:=by omega
        have hb2:q2≤q2+4096:=by omega
        have ht:((q2:Int)+4096).toNat=q2+4096:=by omega
        unfold Qc at hcell
        clear hold hb hbk
        go_upto_region 23 with fail
        go_still_tail 18,(by kernel_rfl)
        repeat still_step
        try refine wpStill_nil ?_
        change wpList _ _ _ _ _ w5.drew
        refine Qg w5.drew rfl (.tmp 130) (.tmp 144) rfl b rfl ⟨ba,oa+q2,none⟩ 4096 (c-q2) (by go_simp;try with_reducible rfl) (by omega) old Wy.out HOL.out P Wz.out (fun j v hv=>by rw [Addr.add_mid];exact HC5.out j v hv) ?_
        intro w6 hb6 L8 oZ
        have Wp:=(Keep.refl (KN b) w5).drew.trans L8
        have HP6:=AA (PG.out.put HBI.out Wz.out hb6 Wp)
        have Ul:=AA (Vp.out.CY (Wp.below Vp.out.size (fun k hk=>by show k≠b;omega)))
        have EL:Hid (AQ w6 g 112 [.slice (some ⟨ba,oa,none⟩) l.length c,.int .i64 q2,.int .i64 0,.int .i64 0]):=AA (Yp.out.keep Wp hgb)
        have c16:=EL.out.q 1 rfl
        have z16:=EL.out.frozen 1
        have g6:=EL.out.lt
        have hbb2:(((i+1:Nat):Int)-1)=i:=by omega
        clear c0 c1 c2 hb6 L8 Wp oZ hcq hlq h3 hcell hw hb0 hb1 hb2 ht
        go_wp2_with fail
        exact⟨⟨k+1,pg.set i P,i+1,.inr (q2+4096),by omega,by go_num,by rw [hbb2],by omega,HP6.out.kn (Cy 1 _) hgl,Ul.out.trans (Cy 1 _),EL.out.set 1 (.int .i64 (q2+4096:Nat)),Ey.out.symm⟩,by simp [intOf];omega⟩
    ·obtain rfl:N=k:=by omega
     have hki: ¬(N:Int)<N:=by omega
     have HS:=AA hs
     have HE:=AA hgo
     clear hs hgo hkp
     go_wp2_with fail
     go_ret
     cases st2 with
     | inl x=>
      have Ey:RR= .inl x:=HE.out
      rw [Ey]
      exact⟨IK.out,HS.out,A1,n,c1,rfl,fun vs q h=>by cases h⟩
     | inr p=>
      have HX:RR= .inr (pg,p):=by
       have:=HE.out
       unfold nY at this
       rw [←this,Nat.sub_self];rfl
      rw [HX]
      refine⟨IK.out,HS.out,A1,n,c1,rfl,fun vs q' h=> ?_⟩
      injection h with h;injection h with h1 h2;subst h1
      exact⟨by rw [HG.out.len,HG.out.lens],HG.out.reads⟩
end Go.Proofs.YtlagonfamllgjaaGreatDoor
