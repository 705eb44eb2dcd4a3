/- Part 24 of the proof: SrdI -/
import Derived.Laws.CopyOwn
import Derived.Test.YtlagonfamllgjaaGreatDoorR23
namespace Go.Proofs.YtlagonfamllgjaaGreatDoor
set_option linter.unusedVariables false
set_option linter.unusedSimpArgs false
set_option maxRecDepth 100000
set_option maxHeartbeats 4000000
open Go.RowKit Tryz
theorem Qg (w:World) {ops:Array Oper} {rest:List Oper} {o:Oper} {a:Act} {Q:Exit→Act→World→Prop} (hgd:o.guard=none) (d s:Operand)
 (ho:o.op= .call {callee:= .builtin .copy,args:= #[d,s],argTypes:= #[40,40]}) (g:Nat) (hd:a.eval d= .slice (some ⟨g,0,none⟩) 4096 4096) (ad:Addr) (sLen sCap:Nat)
 (hs:a.eval s= .slice (some ad) sLen sCap) (hl:4096≤sLen) (cur:List UInt8) (hg:AQ w g 5 (cur.map bv)) (hcur:cur.length=4096) (cs:List UInt8) (hcs:cs.length=4096)
 (hsrc: ∀j v,(cs.map bv)[j]?=some v→w.cell? (ad.add j)=some v)
 (h: ∀w2,AQ w2 g 5 (cs.map bv)→Keep (KN g) w w2→w2.heap.size=w.heap.size→wpList prog ops Q rest (a.put o.dst (goInt 4096)) w2):wpList prog ops Q (o::rest) a w:=by
 have hc:(cs.map bv).length=4096:=by rw [List.length_map,hcs]
 refine wpList_copy_own hgd d s 40 40 ho 5 underlying40 (by obtain⟨i0,hi,hz,hs',hb⟩:=info_parts Dt;rw [hi];simp [hs']) g 0 4096 4096 ad sLen sCap hd hs (cur.map bv).toArray 5 hg (cs.map bv) (by rw [hc];simp [Nat.min_def];omega) hsrc (by rw [hc];simp [hcur]) (Eh cs) ?_
 rw [hc]
 have he:((cur.map bv).toArray.toList.take 0++(cs.map bv++(cur.map bv).toArray.toList.drop (0+4096))).toArray=(cs.map bv).toArray:=by
  rw [List.take_zero,List.nil_append,List.drop_of_length_le (by simp [hcur]),List.append_nil]
 rw [he]
 have hlt:g<w.heap.size:=hg.lt
 have hb:=below_setRow (Below.refl g w) (Nat.le_refl g) (cs.map bv).toArray
 refine h _ ?_ ⟨hb.os,hb.tape,hb.output,by simp,fun k _ hk=>setRow_other w g k _ hk⟩ (by simp)
 exact setRow_heap w g _ _ _ _ hg
theorem RJ.put {base n c:Nat} {W W':World} {A:Option Addr} {bl:List Nat} {pg:List (List UInt8)} (h:RJ base W A n c bl pg) {i b:Nat} {p:List UInt8} (hi:bl[i]?=some b) (hp:p.length=4096) (hb:AQ W' b 5 (p.map bv)) (hk:Keep (KN b) W W'):RJ base W' A n c bl (pg.set i p):=by
 have hil:=(List.getElem?_eq_some_iff.1 hi).1
 have hbl:=(h.blk i b _ hi (List.getElem?_eq_getElem (by rw [←h.lens];exact hil)))
 refine⟨Ce h.own hk (fun k hk' e=>A_ h.own hbl.2 (by decide) (by rw [hk',e])),h.len,by rw [List.length_set];exact h.lens,fun q hq=> ?_,fun j b' q h1 h2=> ?_,h.inj⟩
 ·rcases List.mem_or_eq_of_mem_set hq with hq | rfl
  ·exact h.page q hq
  ·exact hp
 ·rw [List.getElem?_set] at h2
  split at h2
  ·rename_i hij
   subst hij
   rw [hi] at h1
   injection h1 with h1
   subst h1
   split at h2
   ·injection h2 with h2;subst h2;exact⟨hbl.1,hb⟩
   ·cases h2
  ·rename_i hij
   have:=h.blk j b' q h1 h2
   exact⟨this.1,this.2.keep hk (fun e=>hij (by subst e;exact h.inj _ _ _ hi h1))⟩
theorem O9 {l:List UInt8} {n N k q bh:Nat} {pg:List (List UInt8)} (hk:k<N):Em l n (N-k) pg bh q=match NC l n pg bh q with
 | .inl e=> .inl e
 | .inr (x,q2)=>Em l n (N-(k+1)) x.1 x.2 q2:=by
 obtain⟨d,hd⟩: ∃d,N-k=d+1:=⟨N-k-1,by omega⟩
 rw [hd,show N-(k+1)=d by omega]
 rfl
theorem Yd {l:List UInt8} {most:Nat} {great:Int} {p v q:Nat} (h:Ar l most great p= .inr (v,q)):q≤l.length:=by
 have hu:=(Yr l p).2.1
 unfold Ar at h
 split at h
 ·cases h
 split at h
 ·cases h
 ·injection h with h;injection h with h1 h2;omega
theorem CK.err {T:TypeId} {W:World} {g:Nat} {Bs:Value} {x:Int×Int} (h:CK T W g Bs (.inl x)):W.cell? ⟨g,2,none⟩=some (.int .i64 x.1)∧(x.1==0)=false∧(x.1 !=0)=true:=by
 obtain⟨hne,b,hb⟩:=h
 exact⟨hb.q 2 rfl,beq_eq_false_iff_ne.2 hne,bne_iff_ne.2 hne⟩
def AAg (T:TypeId) (g base:Nat) (Bs:Value) (l:List UInt8) (n N:Nat) (A1:Option Addr) (c1:Nat) (bl:List Nat) (RR:G8 (List (List UInt8))) (w:World) (bhv i:Value) (wr:World):Prop:= ∃(k:Nat) (pg:List (List UInt8)) (bh q:Nat),k≤N∧i= .int .u64 k∧bhv= .int .u64 bh∧bh≤n∧
 RJ base wr A1 n c1 bl pg∧Keep (KN g) w wr∧CK T wr g Bs (.inr q)∧Em l n (N-k) pg bh q=RR
theorem nX (g B:Nat) (A:Option Addr) (c:Nat) (l:List UInt8) (st:(Int×Int)⊕Nat) (w:World) (h:CK 146 w g (.slice A l.length c) st) (hr:Row w B A (l.map bv)) (hB:B≤g) (hl:l.length≤140737488351232) (hlc:l.length≤c):
 Calls prog 83 #[.pointer (some ⟨g,0,none⟩)] w (Gy 146 g (.slice A l.length c) w (posR (Ak st (Cx l))) (Wm (Rd.u8.sl false) w (Ak st (Cx l)))):=by
 have H:=AA h;have HR:=AA hr;have hgl:=h.lt
 have cK:Hid (∀k,k<B→KN g k):=AA (fun k hk=>by show k≠g;omega)
 obtain⟨i0,z0,GU,GV,GX,D8,KY⟩:=info_parts' L6
 have Z5:=AA GU;have Z6:=AA GV;have Z7:=AA GX;have Ny:=AA D8;have M5:=AA KY
 obtain⟨i1,hi1,hz1,hs1,hb1⟩:=info_parts Dt
 have HMK:=AA (fun W=>Er (P:=prog) 40 5 i1 (.int .u8 0) 1 underlying40 hi1 hz1 rfl hs1 hb1 4096 4096 rfl (by omega) (by omega) W)
 clear h hr GU GV GX D8 KY hi1 hz1 hs1 hb1
 have HC:=AA (Dn g B A c l 64 20 st w H.out HR.out (by omega) (by decide))
 have HX:Hid (Ak st (Cx l)=match Ak st (Ar l 64 20)with | .inl e=> .inl e | .inr (n,q)=>match Ar l n 20 q with | .inl e=> .inl e | .inr (k,r)=>Em l n k (List.replicate n Az) 0 r):=AA (by cases st<;>rfl)
 have GZ:Hid (∀v q,Ak st (Ar l 64 20)= .inr (v,q)→v≤64):=AA (fun v q h=>by cases st with | inl x=>cases h | inr p=>exact ET h)
 obtain⟨RR,hRR⟩: ∃RR,Ak st (Cx l)=RR:=⟨_,rfl⟩
 rw [hRR] at HX⊢
 clear hRR
 go_enter func83,ntmps83
 go_wp2_with fail
 refine HC.out.mono ?_
 rintro en w1 ⟨hk1,hs1,rfl⟩
 have Ls:=AA hk1;have Nr:=AA hs1
 have hz1:=hk1.size
 clear hk1 hs1
 cases hn:Ak st (Ar l 64 20)with
 | inl x=>
  rw [hn] at Nr HX
  dsimp only at HX
  obtain⟨hne,b,hb⟩:=Nr.out
  clear hn hb hne HC GZ HMK
  simp only [B_]
  go_wp2_with fail
  go_loopw [4,11] (fun v i wr=>v= .slice none 0 0∧i= .int .u64 0∧w1=wr) (fun _ _ _=>0)
  case atStart=>exact⟨rfl,rfl,rfl⟩
  case round=>
   obtain⟨rfl,rfl,rfl⟩:=hrel
   have TS:=AA (Dn g B A c l 0 20 (.inl x) w1 Nr.out (Row.CB HR.out Ls.out cK.out (by omega)) (by omega) (by decide))
   go_wp2_with fail
   refine TS.out.mono ?_
   rintro en w2 ⟨hk2,hs2,rfl⟩
   have GN:=AA hk2;have HS2:=AA hs2
   clear hk2 hs2 TS
   go_wp2_with fail
   go_loopw [21] (fun i wq=>i= .int .u64 0∧w2=wq) (fun _ _=>0)
   case atStart=>exact⟨rfl,rfl⟩
   case round=>
    obtain⟨rfl,rfl⟩:=hrel
    go_wp2_with fail
    go_ret
    rw [HX.out]
    exact⟨Ls.out.trans GN.out,HS2.out,none,0,0,rfl,fun vs q h=>by cases h⟩
 | inr x=>
  obtain⟨n,q⟩:=x
  rw [hn] at Nr HX
  dsimp only at HX
  have hn64:n≤64:=GZ.out n q hn
  have Nr:Hid (CK 146 w1 g (.slice A l.length c) (.inr q)):=Nr
  clear hn HC GZ
  simp only [B_]
  go_wp2_with fail
  go_loopw [4,11] (fun v i wr=> ∃(k:Nat) (A1:Option Addr) (c1:Nat) (bl:List Nat),k≤n∧i= .int .u64 k∧v= .slice A1 k c1∧RJ w.heap.size wr A1 k c1 bl (List.replicate k Az)∧Keep (KN g) w wr∧CK 146 wr g (.slice A l.length c) (.inr q)) (fun _ i _=>n-(intOf i).toNat)
  case atStart=>exact⟨0,none,0,[],Nat.zero_le _,rfl,rfl,RJ.nil _ _,Ls.out,Nr.out⟩
  case round=>
   obtain⟨k,A1,c1,bl,hk,rfl,rfl,hg,hkp,hs⟩:=hrel
   have HG:=AA hg;have IK:=AA hkp;have HS:=AA hs
   have TQ:=hkp.size
   have hk0:(0:Int)≤k:=by omega
   clear hg hkp hs
   by_cases hlt:k<n
   ·have hki:(k:Int)<n:=by omega
    have m_:=HMK.out wr
    have HN:Hid (Yt (.int .u8 0) 4096=(Az.map bv).toArray):=AA Mr
    rw [HN.out] at m_
    have GL:Hid (Row ((wr.alloc (.cells (Az.map bv).toArray 5)).alloc (.cells #[.slice (some ⟨wr.heap.size,0,none⟩) 4096 4096] 40)) (wr.heap.size+1+1) (some ⟨wr.heap.size+1,0,none⟩) [Qc wr.heap.size]):=AA (by
     have:=row_one (wr.alloc (.cells (Az.map bv).toArray 5)) (Qc wr.heap.size) 40
     rw [show(wr.alloc (.cells (Az.map bv).toArray 5)).heap.size=wr.heap.size+1 by simp] at this
     exact this)
    clear HN
    go_wp2_with (at_builtin;refine BL _ rfl _ _ 32 rfl w.heap.size 40 i0 z0 1 24 underlying32 Z5.out Z6.out Z7.out Ny.out M5.out (by omega) (.slice A1 k c1) k (bl.map Qc) rfl ((HG.out.own.alloc _).alloc _) _ _ 1 1 [Qc wr.heap.size] rfl rfl GL.out (by simp [Value.oneCell',Qc]) (by unfold maxLen;omega) (by omega) (by simp;omega) ?_;intro A6 c6 w6 h2 h3 h4;have H2:=AA h2;have H3:=AA h3;clear h2 h3 h4)
    have Sz:Below w.heap.size wr w6:=((((Below.refl w.heap.size wr).alloc TQ _).alloc (by simp;omega) _)).trans (BG ((HG.out.own.alloc _).alloc _) H3.out (by simp;omega))
    have oQ:=AA (HG.out.snoc TQ rfl H2.out H3.out)
    rw [show List.replicate k Az++ [Az]=List.replicate (k+1) Az from(List.replicate_succ' ..).symm] at oQ
    exact⟨⟨k+1,A6,c6,_,by omega,by go_num,rfl,oQ.out,IK.out.CY Sz,HS.out.under Sz hgl⟩,by simp [intOf];omega⟩
   ·obtain rfl:n=k:=by omega
    have hki: ¬(n:Int)<n:=by omega
    have TS:=AA (Dn g B A c l n 20 (.inr q) wr HS.out (Row.CB HR.out IK.out cK.out (by omega)) (by omega) (by decide))
    have AAh:Hid (∀v r,Ar l n 20 q= .inr (v,r)→v≤n):=AA (fun v r h=>ET h)
    clear HMK
    go_wp2_with fail
    refine TS.out.mono ?_
    rintro en w2 ⟨hk2,hs2,rfl⟩
    have GN:=AA hk2
    have HG2:=AA (HG.out.kn hk2 hgl)
    have HS2:Hid (CK 146 w2 g (.slice A l.length c) (posR (Ar l n 20 q))):=AA hs2
    have e2:Ak (.inr q) (Ar l n 20)=Ar l n 20 q:=rfl
    rw [e2]
    have hz2:=hk2.size
    clear hk2 hs2 e2 TS
    cases hN:Ar l n 20 q with
    | inl x=>
     rw [hN] at HS2 HX
     dsimp only at HX
     simp only [B_]
     clear hN AAh
     go_wp2_with fail
     go_loopw [5,21] (fun b i wq=>b= .int .u64 0∧i= .int .u64 0∧w2=wq) (fun _ _ _=>0)
     case atStart=>exact⟨rfl,rfl,rfl⟩
     case round=>
      obtain⟨rfl,rfl,rfl⟩:=hrel
      go_wp2_with fail
      go_ret
      rw [HX.out]
      exact⟨IK.out.trans GN.out,HS2.out,A1,n,c1,rfl,fun vs q h=>by cases h⟩
    | inr x=>
     obtain⟨N,r⟩:=x
     rw [hN] at HS2 HX
     dsimp only at HX
     have hNn:N≤n:=AAh.out N r hN
     have HS2:Hid (CK 146 w2 g (.slice A l.length c) (.inr r)):=HS2
     have P7:=AA (IK.out.trans GN.out)
     simp only [B_]
     clear hN AAh HS
     go_wp2_with fail
     go_loopw [5,6,7,21] (fun bhv _ _ i wq=>AAg 146 g w.heap.size (.slice A l.length c) l n N A1 c1 bl RR w bhv i wq) (fun _ _ _ i _=>N-(intOf i).toNat)
     case atStart=>exact⟨0,List.replicate n Az,0,r,Nat.zero_le _,rfl,rfl,Nat.zero_le _,HG2.out,P7.out,HS2.out,by rw [HX.out];rfl⟩
     case round=>
      obtain⟨k,pg,bh,p,hk,rfl,rfl,hbn,hg,hkp,hs,hgo⟩:=hrel
      have HG:=AA hg;have IK:=AA hkp;have HS:=AA hs;have RH:=AA hgo
      have hzq:=hkp.size
      clear hg hs hgo HX
      by_cases hlt:k<N
      ·have dH:=AA (Dn g B A c l 18446744073709551615 17 (.inr p) _ HS.out (Row.CB HR.out hkp cK.out (by omega)) (by omega) (by decide))
       have Ey:=AA (O9 (l:=l) (n:=n) (q:=p) (bh:=bh) (pg:=pg) hlt)
       rw [RH.out] at Ey
       have hki:(k:Int)<N:=by omega
       have hk0:(0:Int)≤k:=by omega
       have q1:=AQ.q (show AQ _ g 146 [.slice A l.length c,.int .i64 p,.int .i64 0,.int .i64 0] from HS.out) 1 rfl
       clear hkp
       go_wp2_with fail
       refine dH.out.mono ?_
       rintro en w3 ⟨hk3,hs3,rfl⟩
       have GQ:=AA (IK.out.trans hk3)
       have uw:=AA (HG.out.kn hk3 hgl)
       have Iy:Hid (CK 146 w3 g (.slice A l.length c) (posR (Ar l 18446744073709551615 17 p))):=AA hs3
       have e3:Ak (.inr p) (Ar l 18446744073709551615 17)=Ar l 18446744073709551615 17 p:=rfl
       rw [e3]
       have hz3:=hk3.size
       clear hk3 hs3 e3 dH
       unfold NC at Ey
       cases hN:Ar l 18446744073709551615 17 p with
       | inl x=>
        rw [hN] at Iy Ey
        dsimp only at Ey
        have Iy:Hid (CK 146 w3 g (.slice A l.length c) (.inl x)):=Iy
        obtain⟨c2,n1,n2⟩:=Iy.out.err
        simp only [B_]
        clear hN
        by_cases hb0:0<bh
        ·have hbi:(0:Int)<bh:=by omega
         go_wp2_with fail
         refine(MN g _ 18 p (.inl x) w3 Iy.out (by decide)).mono ?_
         rintro en w4 ⟨hk4,hs4,rfl⟩
         have UD:=AA (GQ.out.trans hk4)
         have LV:=AA hs4
         clear hk4 hs4
         replace LV:Hid (CK 146 w4 g (.slice A l.length c) (.inl x)):=LV
         obtain⟨c2',n1',n2'⟩:=LV.out.err
         go_wp2_with fail
         go_region
         all_goals
          go_wp2_with fail
          go_ret
          rw [Ey.out]
          exact⟨UD.out.drew,LV.out,none,0,0,rfl,fun vs q h=>by cases h⟩
        ·have hbi: ¬(0:Int)<bh:=by omega
         have UD:=GQ;have LV:=Iy
         go_wp2_with fail
         go_region
         all_goals
          go_wp2_with fail
          go_ret
          rw [Ey.out]
          exact⟨UD.out.drew,LV.out,none,0,0,rfl,fun vs q h=>by cases h⟩
       | inr x=>
        obtain⟨i,q2⟩:=x
        rw [hN] at Iy Ey
        dsimp only at Ey
        have Iy:Hid (CK 146 w3 g (.slice A l.length c) (.inr q2)):=Iy
        have HB3:Hid (AQ w3 g 146 [.slice A l.length c,.int .i64 q2,.int .i64 0,.int .i64 0]):=Iy
        have hi64:=ET hN
        have hq2:=Yd hN
        have c0:=HB3.out.q 0 rfl
        have c1':=HB3.out.q 1 rfl
        have c2:=HB3.out.q 2 rfl
        simp only [B_]
        clear hN
        by_cases hni:n≤i
        ·rw [if_pos hni] at Ey
         have h1:(n:Int)≤i:=by omega
         have h2: ¬(i:Int)<bh:=by omega
         go_wp2_with fail
         refine(MN g _ 17 p (.inr q2) w3 Iy.out (by decide)).mono ?_
         rintro en w4 ⟨hk4,hs4,rfl⟩
         have UD:=AA (GQ.out.trans hk4)
         have LV:=AA hs4
         clear hk4 hs4
         replace LV:Hid (CK 146 w4 g (.slice A l.length c) (.inl (17,p))):=LV
         clear c0 c1' c2
         obtain⟨c2,n1,n2⟩:=LV.out.err
         go_wp2_with fail
         go_region
         all_goals
          go_wp2_with fail
          go_ret
          rw [Ey.out]
          exact⟨UD.out.drew,LV.out,none,0,0,rfl,fun vs q h=>by cases h⟩
        rw [if_neg hni] at Ey
        have h1: ¬(n:Int)≤i:=by omega
        by_cases hib:i<bh
        ·rw [if_pos hib] at Ey
         have h2:(i:Int)<bh:=by omega
         go_wp2_with fail
         refine(MN g _ 18 p (.inr q2) w3 Iy.out (by decide)).mono ?_
         rintro en w4 ⟨hk4,hs4,rfl⟩
         have UD:=AA (GQ.out.trans hk4)
         have LV:=AA hs4
         clear hk4 hs4
         replace LV:Hid (CK 146 w4 g (.slice A l.length c) (.inl (18,p))):=LV
         clear c0 c1' c2
         obtain⟨c2,n1,n2⟩:=LV.out.err
         go_wp2_with fail
         go_region
         all_goals
          go_wp2_with fail
          go_ret
          rw [Ey.out]
          exact⟨UD.out.drew,LV.out,none,0,0,rfl,fun vs q h=>by cases h⟩
        rw [if_neg hib] at Ey
        have h2: ¬(i:Int)<bh:=by omega
        by_cases hsh:l.length<q2+4096
        ·rw [if_pos hsh] at Ey
         have h3:(l.length:Int)-q2<4096:=by omega
         go_wp2_with fail
         go_region
         have Qp:Hid (CK 146 w3.drew g (.slice A l.length c) (.inr q2)):=AA Iy.out
         have xG:w3.drew.cell? ⟨g,1,none⟩=some (.int .i64 q2):=c1'
         have c2d:w3.drew.cell? ⟨g,2,none⟩=some (.int .i64 0):=c2
         have LH:=AA GQ.out.drew
         generalize w3.drew=w4 at*
         go_wp2_with fail
         refine(MN g _ 10 q2 (.inr q2) w4 Qp.out (by decide)).mono ?_
         rintro en w5 ⟨hk5,hs5,rfl⟩
         have UD:=AA (LH.out.trans hk5)
         have LV:Hid (CK 146 w5 g (.slice A l.length c) (.inl (10,q2))):=AA hs5
         clear hk5 hs5 c0 c1' c2 xG c2d
         obtain⟨c2,n1,n2⟩:=LV.out.err
         go_wp2_with fail
         go_ret
         rw [Ey.out]
         exact⟨UD.out,LV.out,none,0,0,rfl,fun vs q h=>by cases h⟩
        rw [if_neg hsh] at Ey
        have h3: ¬(l.length:Int)-q2<4096:=by omega
        obtain⟨ba,oa,eA,hba,hcell⟩:=(Row.CB HR.out GQ.out cK.out (by omega):Row w3 B A (l.map bv)) (by rw [List.length_map];omega)
        subst eA
        obtain⟨P,hP⟩: ∃P,(l.drop q2).take 4096=P:=⟨_,rfl⟩
        rw [hP] at Ey
        have hpl:P.length=4096:=by rw [←hP,List.length_take,List.length_drop];omega
        have dH:Hid (w3.rangeAt ba (oa+q2) (P.map bv)):=AA (fun j v hv=>by
         have hj:=(List.getElem?_eq_some_iff.1 hv).1
         rw [List.length_map,hpl] at hj
         rw [Nat.add_assoc]
         refine hcell (q2+j) v ?_
         rw [←hv,←hP,←List.getElem?_drop,←List.map_drop,List.map_take,List.getElem?_take,if_pos (by omega)])
        have HI:Hid ((prog.info? 163).map (·.size)=some (P.map bv).length):=by rw [List.length_map,hpl];exact AA U3
        clear hcell hba
        go_wp2_with fail
        go_region
        have Qp:Hid (CK 146 w3.drew g (.slice (some ⟨ba,oa,none⟩) l.length c) (.inr q2)):=AA Iy.out
        have c0d:w3.drew.cell? ⟨g,0,none⟩=some (.slice (some ⟨ba,oa,none⟩) l.length c):=c0
        have xG:w3.drew.cell? ⟨g,1,none⟩=some (.int .i64 q2):=c1'
        have c2d:w3.drew.cell? ⟨g,2,none⟩=some (.int .i64 0):=c2
        have LH:=AA GQ.out.drew
        have uy:Hid (w3.drew.rangeAt ba (oa+q2) (P.map bv)):=AA dH.out
        have WE:=AA (uw.out.all (Below.refl _ _).drew)
        generalize w3.drew=w4 at*
        have har:=YQ
        have hq:=b_ hpl
        obtain⟨z,hz⟩: ∃z,Y7 P=z:=⟨_,rfl⟩
        rw [hz] at Ey
        simp only [hz] at hq
        have hw:IntKind.i64.wrap ((q2:Int)+4096)=(q2:Int)+4096:=by rw [IntKind.wrap_i64];omega
        have hb0:0≤(q2:Int)+4096:=by omega
        have hb1:(q2:Int)+4096≤c:=by omega
        have hb2:q2≤q2+4096:=by omega
        have ht:((q2:Int)+4096).toNat=q2+4096:=by omega
        have hcq: ¬c=q2:=by omega
        go_wp2_with fail
        refine wp_region_held_drew (S:=fun W=>W.cell? ⟨g,0,none⟩=some (.slice (some ⟨ba,oa,none⟩) l.length c)∧W.cell? ⟨g,1,none⟩=some (.int .i64 q2)∧W.rangeAt ba (oa+q2) (P.map bv)) (by kernel_rfl) ⟨c0d,xG,uy.out⟩ (fun hHeld=> ?_)
        refine AZ (i:=0) (v:= ?_) rfl (by kernel_rfl) (fun _ _ _ h=>h) rfl (by intro w hSw;(try dsimp only at hSw);go_simp;try with_reducible rfl) hHeld ?_
        refine AZ (i:=1) (v:= ?_) rfl (by kernel_rfl) (fun _ _ _ h=>h) rfl (by intro w hSw;(try dsimp only at hSw);go_simp;try with_reducible rfl) hHeld ?_
        refine AZ (i:=2) (v:= ?_) rfl (by kernel_rfl) (fun _ _ _ h=>h) rfl (by intro w hSw;(try dsimp only at hSw);go_simp;try with_reducible rfl) hHeld ?_
        refine AZ (i:=3) (v:= ?_) rfl (by kernel_rfl) (fun _ _ _ h=>h) rfl (by intro w hSw;(try dsimp only at hSw);go_simp;try with_reducible rfl) hHeld ?_
        refine AZ (i:=4) (v:= ?_) rfl (by kernel_rfl) (fun _ _ _ h=>h) rfl (by intro w hSw;(try dsimp only at hSw);go_simp;try with_reducible rfl) hHeld ?_
        refine AZ (i:=5) (v:= ?_) rfl (by kernel_rfl) (fun _ _ _ h=>h) rfl (by intro w hSw;(try dsimp only at hSw);go_simp;try with_reducible rfl) hHeld ?_
        refine AZ (i:=6) (v:= ?_) rfl (by kernel_rfl) (fun _ _ _ h=>h) rfl (by intro w hSw;(try dsimp only at hSw);go_simp;try with_reducible rfl) hHeld ?_
        refine AZ (i:=7) (v:= ?_) rfl (by kernel_rfl) (fun _ _ _ h=>h) rfl (by intro w hSw;(try dsimp only at hSw);go_simp;try with_reducible rfl) hHeld ?_
        refine AZ (i:=8) (v:= ?_) rfl (by kernel_rfl) (fun _ _ _ h=>h) rfl (by intro w hSw;(try dsimp only at hSw);go_simp;try with_reducible rfl) hHeld ?_
        refine AZ (i:=9) (v:= ?_) rfl (by kernel_rfl) (fun _ _ _ h=>h) rfl (by intro w hSw;(try dsimp only at hSw);go_simp;try with_reducible rfl) hHeld ?_
        refine AZ (i:=10) (v:= ?_) rfl (by kernel_rfl) (fun _ _ _ h=>h) rfl (by intro w hSw;(try dsimp only at hSw);go_simp;try with_reducible rfl) hHeld ?_
        refine AZ (i:=11) (v:= ?_) rfl (by kernel_rfl) (fun _ _ _ h=>h) rfl (by intro w hSw;(try dsimp only at hSw);go_simp;try with_reducible rfl) hHeld ?_
        refine AZ (i:=12) (v:= ?_) rfl (by kernel_rfl) (fun _ _ _ h=>h) rfl (by intro w hSw;(try dsimp only at hSw);go_simp;try with_reducible rfl) hHeld ?_
        refine AZ (i:=13) (v:= ?_) rfl (by kernel_rfl) (fun _ _ _ h=>h) rfl (by intro w hSw;(try dsimp only at hSw);go_simp;try with_reducible rfl) hHeld ?_
        refine AZ (i:=14) (v:= ?_) rfl (by kernel_rfl) (fun _ _ _ h=>h) rfl (by intro w hSw;(try dsimp only at hSw);go_simp;try with_reducible rfl) hHeld ?_
        refine wpAnyH_take (i:=15) (v:= .agg (P.map bv).toArray) rfl (by kernel_rfl) (by kernel_rfl) (by kernel_rfl) (fun _ _ _ h=>h) (yieldsIf_load_mid rfl 163 _ rfl ba (oa+q2) (by go_simp;try with_reducible rfl) (P.map bv) _ (fun _ h=>h.2.2) underlying163 rfl HI.out) hHeld ?_
        refine AZ (i:=16) (v:= ?_) rfl (by kernel_rfl) (fun _ _ _ h=>h) rfl (by intro w hSw;(try dsimp only at hSw);go_simp;try with_reducible rfl) hHeld ?_
        refine AZ (i:=17) (v:= ?_) rfl (by kernel_rfl) (fun _ _ _ h=>h) rfl (by intro w hSw;(try dsimp only at hSw);go_simp;try with_reducible rfl) hHeld ?_
        refine wpAnyH_done (by kernel_rfl) ?_ _
        have Yp:Hid (CK 146 w4.drew g (.slice (some ⟨ba,oa,none⟩) l.length c) (.inr q2)):=AA Qp.out
        have Vp:=AA LH.out.drew
        have HC5:Hid (w4.drew.rangeAt ba (oa+q2) (P.map bv)):=AA uy.out
        have PG:=AA (WE.out.all (Below.refl _ _).drew)
        clear c0 c1' c2 c0d xG c2d har hHeld Qp LH uy WE Iy GQ dH uw HB3 hw hz3 hb0 hb1 hb2 ht hcq hP HI
        have Wz:=AA hpl
        clear hpl
        generalize w4.drew=w5 at*
        clear hz hq
        cases z with
        | false=>
         rw [if_pos rfl] at Ey
         have c1:=AQ.q (show AQ w5 g 146 [.slice (some ⟨ba,oa,none⟩) l.length c,.int .i64 q2,.int .i64 0,.int .i64 0] from Yp.out) 1 rfl
         go_simp
         go_wp2_with fail
         refine(MN g _ 12 q2 (.inr q2) w5 Yp.out (by decide)).mono ?_
         rintro en w6 ⟨L8,hs6,rfl⟩
         have UD:=AA (Vp.out.trans L8)
         have LV:Hid (CK 146 w6 g (.slice (some ⟨ba,oa,none⟩) l.length c) (.inl (12,q2))):=AA hs6
         clear L8 hs6
         go_wp2_with fail
         go_ret
         rw [Ey.out]
         exact⟨UD.out,LV.out,none,0,0,rfl,fun vs q h=>by cases h⟩
        | true=>
         rw [if_neg (by simp)] at Ey
         dsimp only at Ey
         have hil:i<n:=by omega
         obtain⟨b,hb⟩: ∃b,bl[i]?=some b:=⟨_,List.getElem?_eq_getElem (by rw [←PG.out.len];exact hil)⟩
         obtain⟨old,hold⟩: ∃old,pg[i]?=some old:=⟨_,List.getElem?_eq_getElem (by rw [←PG.out.lens,←PG.out.len];exact hil)⟩
         obtain⟨hbb,hbk⟩:=PG.out.blk i b old hb hold
         have HOL:=AA (PG.out.page old (List.mem_of_getElem? hold))
         have Wy:=AA hbk;have HBI:=AA hb
         obtain⟨g2,o2,eA,_,hcell⟩:=(Row.own PG.out.own).at (j:=i) (u:=Qc b) (by rw [List.getElem?_map,hb];rfl)
         subst eA
         have c0:=AQ.q (show AQ w5 g 146 [.slice (some ⟨ba,oa,none⟩) l.length c,.int .i64 q2,.int .i64 0,.int .i64 0] from Yp.out) 0 rfl
         have c1:=AQ.q (show AQ w5 g 146 [.slice (some ⟨ba,oa,none⟩) l.length c,.int .i64 q2,.int .i64 0,.int .i64 0] from Yp.out) 1 rfl
         have hgb:g≠b:=by omega
         have hcq: ¬c=q2:=by omega
         have hlq:q2≤l.length:=by omega
         have hin:(i:Int)<n:=by omega
         have hi0:(0:Int)≤i:=by omega
         unfold Qc at hcell
         clear hold hb hbk
         go_simp
         go_upto_region 23 with fail
         go_still_tail 13,(by kernel_rfl)
         repeat still_step
         try refine wpStill_nil ?_
         change wpList _ _ _ _ _ w5.drew
         refine Qg w5.drew rfl (.tmp 104) (.tmp 113) rfl b rfl ⟨ba,oa+q2,none⟩ (l.length-q2) (c-q2) (by go_simp;try with_reducible rfl) (by omega) old Wy.out HOL.out P Wz.out (fun j v hv=>by rw [Addr.add_mid];exact HC5.out j v hv) ?_
         intro w6 hb6 L8 oZ
         have Wp:=(Keep.refl (KN b) w5).drew.trans L8
         have HP6:=AA (PG.out.put HBI.out Wz.out hb6 Wp)
         have Ul:=AA (Vp.out.CY (Wp.below Vp.out.size (fun k hk=>by show k≠b;omega)))
         have EL:Hid (AQ w6 g 146 [.slice (some ⟨ba,oa,none⟩) l.length c,.int .i64 q2,.int .i64 0,.int .i64 0]):=AA (Yp.out.keep Wp hgb)
         have c16:=EL.out.q 1 rfl
         have z16:=EL.out.frozen 1
         have g6:=EL.out.lt
         clear c0 c1 hb6 L8 Wp oZ hcq hlq h3 hcell
         go_wp2_with fail
         exact⟨⟨k+1,pg.set i P,i+1,q2+4096,by omega,by go_num,by go_num,by omega,HP6.out.kn (Cy 1 _) hgl,Ul.out.trans (Cy 1 _),EL.out.set 1 (.int .i64 (q2+4096:Nat)),Ey.out.symm⟩,by simp [intOf];omega⟩
      ·obtain rfl:N=k:=by omega
       have hki: ¬(N:Int)<N:=by omega
       have HX:Hid (RR= .inr (pg,p)):=AA (by rw [←RH.out,Nat.sub_self];rfl)
       clear RH
       go_wp2_with fail
       go_ret
       rw [HX.out]
       refine⟨IK.out,HS.out,A1,n,c1,rfl,fun vs q' h=> ?_⟩
       injection h with h;injection h with h1 h2;subst h1
       exact⟨by rw [HG.out.len,HG.out.lens],HG.out.reads⟩
end Go.Proofs.YtlagonfamllgjaaGreatDoor
