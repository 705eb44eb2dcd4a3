/- Part 23 of the proof: SrdB SrdC SrN SrdD SrdE -/
import Derived.Test.YtlagonfamllgjaaGreatDoorR22
namespace Go.Proofs.YtlagonfamllgjaaGreatDoor
set_option linter.unusedVariables false
set_option linter.unusedSimpArgs false
set_option maxRecDepth 100000
set_option maxHeartbeats 4000000
open Go.RowKit Tryz
def AD9 (r:G8 Nat) (en:Ending) (_:World):Prop:= ∃v:Int,en= .returned (.int .i8 v)∧ ∀(a q:Nat),r= .inr (a,q)→v=a
theorem YR (g B:Nat) (A:Option Addr) (c:Nat) (l:List UInt8) (least most:Nat) (hm:most≤127) (st:(Int×Int)⊕Nat) (w:World) (h:CK 146 w g (.slice A l.length c) st) (hr:Row w B A (l.map bv)) (hl:l.length≤140737488351232):
 Calls prog 80 #[.pointer (some ⟨g,0,none⟩),.int .u8 least,.int .u8 most] w (Gy 146 g (.slice A l.length c) w (posR (Ak st (FH l least most))) (AD9 (Ak st (FH l least most)))):=by
 cases st with
 | inl x=>
  obtain⟨hne,b,hb⟩:=h
  have H:=AA (show CK 146 w g (.slice A l.length c) (.inl x)from⟨hne,b,hb⟩)
  have q2:=hb.q 2 rfl
  have n1:(x.1 !=0)=true:=bne_iff_ne.2 hne
  have n2:(x.1==0)=false:=beq_eq_false_iff_ne.2 hne
  clear hne hb hr
  go_enter func80,ntmps80
  go_wp2_with fail
  go_ret
  first
  | exact⟨Keep.refl _ _,H.out,0,rfl,fun a q h=>by cases h⟩
  | exact⟨(Keep.refl _ _).drewN _,H.out.below (below_drewN (Below.refl _ _) _),0,rfl,fun a q h=>by cases h⟩
 | inr p=>
  have hb:AQ w g 146 [.slice A l.length c,.int .i64 p,.int .i64 0,.int .i64 0]:=h
  have H:=AA hb
  have HR:=AA hr
  have q0:=hb.q 0 rfl
  have q1:=hb.q 1 rfl
  have q2:=hb.q 2 rfl
  have HQ:Hid (Ak (.inr p) (FH l least most)=FH l least most p):=AA rfl
  rw [HQ.out]
  clear h hb hr HQ
  go_enter func80,ntmps80
  by_cases hp:p<l.length
  ·have HX:Hid (FH l least most p=if(l[p]?.getD 0).toNat<least∨most<(l[p]?.getD 0).toNat then .inl (17,p) else .inr ((l[p]?.getD 0).toNat,p+1)):=AA (by unfold FH;rw [List.getElem?_eq_getElem hp];rfl)
   have hpi:(p:Int)<l.length:=by omega
   have hp0:(0:Int)≤p:=by omega
   have PE:(l[p]?.getD 0).toNat<256:=UInt8.toNat_lt _
   go_wp2_with fail
   go_quiet (fail)
   generalize K7:w.drewN _=w2
   have Z8:Hid (Keep (KN g) w w2):=AA (by rw [←K7];exact(Keep.refl _ _).drewN _)
   have Qv:Hid (AQ w2 g 146 [.slice A l.length c,.int .i64 p,.int .i64 0,.int .i64 0]):=AA (by rw [←K7];exact H.out.drewN _)
   have Wi:Hid (Row w2 B A (l.map bv)):=AA (by rw [←K7];exact HR.out.drewN _)
   have q0:=Qv.out.q 0 rfl
   have q1:=Qv.out.q 1 rfl
   have q2:=Qv.out.q 2 rfl
   have z1:=Qv.out.frozen 1
   clear K7
   clear H HR
   obtain⟨b,o,eA,_,hcell⟩:=Wi.out.byte (j:=p) hp
   have HA:=AA eA
   generalize (l[p]?.getD 0).toNat=x at*
   subst eA
   go_wp2_with fail
   go_quiet (fail)
   generalize Wj:w2.drewN _=w3
   have Z9:Hid (Keep (KN g) w w3):=AA (by rw [←Wj];exact Z8.out.drewN _)
   have Z_:Hid (AQ w3 g 146 [.slice (some ⟨b,o,none⟩) l.length c,.int .i64 p,.int .i64 0,.int .i64 0]):=AA (by rw [←Wj];exact Qv.out.drewN _)
   have HRw3:Hid (Row w3 B (some ⟨b,o,none⟩) (l.map bv)):=AA (by rw [←Wj];exact Wi.out.drewN _)
   have q0:=Z_.out.q 0 rfl
   have q1:=Z_.out.q 1 rfl
   have q2:=Z_.out.q 2 rfl
   have z1:=Z_.out.frozen 1
   clear Wj
   clear hcell Qv Wi
   by_cases h1:x<least
   ·have h1i:(x:Int)<least:=by omega
    have Bq:Hid (FH l least most p= .inl (17,(p:Int))):=AA (by rw [HX.out,if_pos (by omega)])
    clear HX
    go_wp2_with fail
    refine(MN g _ 17 p (.inr p) w3 Z_.out (by decide)).mono ?_
    rintro en w4 ⟨hk,hs,rfl⟩
    have LH:=AA (Z9.out.trans hk)
    obtain⟨hne,a,hb⟩:=hs
    have H4:=AA hb
    have q1:=hb.q 1 rfl
    have z1:=hb.frozen 1
    clear hk hb q0 q2 hne
    go_wp2_with fail
    go_ret
    rw [Bq.out]
    first
    | exact⟨LH.out.trans (Cy 1 _),⟨(show(17:Int)≠0 by decide),_,H4.out.set 1 _⟩,_,rfl,fun a q h=>by cases h⟩
    | exact⟨LH.out,⟨(show(17:Int)≠0 by decide),_,H4.out⟩,_,rfl,fun a q h=>by cases h⟩
   ·by_cases h2:most<x
    ·have h1i: ¬(x:Int)<least:=by omega
     have h2i:(most:Int)<x:=by omega
     have Bq:Hid (FH l least most p= .inl (17,(p:Int))):=AA (by rw [HX.out,if_pos (by omega)])
     clear HX
     go_wp2_with fail
     refine(MN g _ 17 p (.inr p) w3 Z_.out (by decide)).mono ?_
     rintro en w4 ⟨hk,hs,rfl⟩
     have LH:=AA (Z9.out.trans hk)
     obtain⟨hne,a,hb⟩:=hs
     have H4:=AA hb
     have q1:=hb.q 1 rfl
     have z1:=hb.frozen 1
     clear hk hb q0 q2 hne
     go_wp2_with fail
     go_ret
     rw [Bq.out]
     first
     | exact⟨LH.out.trans (Cy 1 _),⟨(show(17:Int)≠0 by decide),_,H4.out.set 1 _⟩,_,rfl,fun a q h=>by cases h⟩
     | exact⟨LH.out,⟨(show(17:Int)≠0 by decide),_,H4.out⟩,_,rfl,fun a q h=>by cases h⟩
    ·have h1i: ¬(x:Int)<least:=by omega
     have h2i: ¬(most:Int)<x:=by omega
     have Bq:Hid (FH l least most p= .inr (x,p+1)):=AA (by rw [HX.out,if_neg (by omega)])
     clear HX
     go_wp2_with fail
     go_ret
     rw [Bq.out]
     refine⟨Z9.out.trans (Cy 1 _),?_,_,rfl,fun a q h=> ?_⟩
     ·exact Z_.out.set 1 (.int .i64 ((p+1:Nat):Int))
     ·injection h with h;injection h with h;omega
  ·have HX:Hid (FH l least most p= .inl (10,(p:Int))):=AA (by unfold FH;rw [List.getElem?_eq_none (by omega)])
   have hpi: ¬(p:Int)<l.length:=by omega
   have hpj:(l.length:Int)≤p:=by omega
   go_wp2_with fail
   go_quiet (fail)
   generalize K7:w.drewN _=w2
   have Z8:Hid (Keep (KN g) w w2):=AA (by rw [←K7];exact(Keep.refl _ _).drewN _)
   have Qv:Hid (AQ w2 g 146 [.slice A l.length c,.int .i64 p,.int .i64 0,.int .i64 0]):=AA (by rw [←K7];exact H.out.drewN _)
   have Wi:Hid (Row w2 B A (l.map bv)):=AA (by rw [←K7];exact HR.out.drewN _)
   have q0:=Qv.out.q 0 rfl
   have q1:=Qv.out.q 1 rfl
   have q2:=Qv.out.q 2 rfl
   have z1:=Qv.out.frozen 1
   clear K7
   clear H HR
   go_wp2_with fail
   refine(MN g _ 10 p (.inr p) w2 Qv.out (by decide)).mono ?_
   rintro en w3 ⟨hk,hs,rfl⟩
   have GQ:=AA (Z8.out.trans hk);have Iy:=AA hs
   obtain⟨hne,a,hb⟩:=hs
   have q2:=hb.q 2 rfl
   clear hk hb q0 q1 hne
   go_wp2_with fail
   go_ret
   rw [HX.out]
   exact⟨GQ.out,Iy.out,0,rfl,fun a q h=>by cases h⟩
theorem TD (g B:Nat) (A:Option Addr) (c:Nat) (l:List UInt8) (least most:Nat) (hm:most≤127) (st:(Int×Int)⊕Nat) (w:World) (h:CK 112 w g (.slice A l.length c) st) (hr:Row w B A (l.map bv)) (hl:l.length≤140737488351232):
 Calls prog 56 #[.pointer (some ⟨g,0,none⟩),.int .u8 least,.int .u8 most] w (Gy 112 g (.slice A l.length c) w (posR (Ak st (FH l least most))) (AD9 (Ak st (FH l least most)))):=by
 cases st with
 | inl x=>
  obtain⟨hne,b,hb⟩:=h
  have H:=AA (show CK 112 w g (.slice A l.length c) (.inl x)from⟨hne,b,hb⟩)
  have q2:=hb.q 2 rfl
  have n1:(x.1 !=0)=true:=bne_iff_ne.2 hne
  have n2:(x.1==0)=false:=beq_eq_false_iff_ne.2 hne
  clear hne hb hr
  go_enter func56,ntmps56
  go_wp2_with fail
  go_quiet (fail)
  go_wp2_with fail
  go_ret
  first
  | exact⟨Keep.refl _ _,H.out,0,rfl,fun a q h=>by cases h⟩
  | exact⟨(Keep.refl _ _).drewN _,H.out.below (below_drewN (Below.refl _ _) _),0,rfl,fun a q h=>by cases h⟩
 | inr p=>
  have hb:AQ w g 112 [.slice A l.length c,.int .i64 p,.int .i64 0,.int .i64 0]:=h
  have H:=AA hb
  have HR:=AA hr
  have q0:=hb.q 0 rfl
  have q1:=hb.q 1 rfl
  have q2:=hb.q 2 rfl
  have HQ:Hid (Ak (.inr p) (FH l least most)=FH l least most p):=AA rfl
  rw [HQ.out]
  clear h hb hr HQ
  go_enter func56,ntmps56
  by_cases hp:p<l.length
  ·have HX:Hid (FH l least most p=if(l[p]?.getD 0).toNat<least∨most<(l[p]?.getD 0).toNat then .inl (17,p) else .inr ((l[p]?.getD 0).toNat,p+1)):=AA (by unfold FH;rw [List.getElem?_eq_getElem hp];rfl)
   have hpi:(p:Int)<l.length:=by omega
   have hp0:(0:Int)≤p:=by omega
   have PE:(l[p]?.getD 0).toNat<256:=UInt8.toNat_lt _
   go_wp2_with fail
   go_quiet (fail)
   generalize K7:w.drewN _=w2
   have Z8:Hid (Keep (KN g) w w2):=AA (by rw [←K7];exact(Keep.refl _ _).drewN _)
   have Qv:Hid (AQ w2 g 112 [.slice A l.length c,.int .i64 p,.int .i64 0,.int .i64 0]):=AA (by rw [←K7];exact H.out.drewN _)
   have Wi:Hid (Row w2 B A (l.map bv)):=AA (by rw [←K7];exact HR.out.drewN _)
   have q0:=Qv.out.q 0 rfl
   have q1:=Qv.out.q 1 rfl
   have q2:=Qv.out.q 2 rfl
   have z1:=Qv.out.frozen 1
   clear K7
   clear H HR
   obtain⟨b,o,eA,_,hcell⟩:=Wi.out.byte (j:=p) hp
   have HA:=AA eA
   generalize (l[p]?.getD 0).toNat=x at*
   subst eA
   go_wp2_with fail
   go_quiet (fail)
   generalize Wj:w2.drewN _=w3
   have Z9:Hid (Keep (KN g) w w3):=AA (by rw [←Wj];exact Z8.out.drewN _)
   have Z_:Hid (AQ w3 g 112 [.slice (some ⟨b,o,none⟩) l.length c,.int .i64 p,.int .i64 0,.int .i64 0]):=AA (by rw [←Wj];exact Qv.out.drewN _)
   have HRw3:Hid (Row w3 B (some ⟨b,o,none⟩) (l.map bv)):=AA (by rw [←Wj];exact Wi.out.drewN _)
   have q0:=Z_.out.q 0 rfl
   have q1:=Z_.out.q 1 rfl
   have q2:=Z_.out.q 2 rfl
   have z1:=Z_.out.frozen 1
   clear Wj
   clear hcell Qv Wi
   by_cases h1:x<least
   ·have h1i:(x:Int)<least:=by omega
    have Bq:Hid (FH l least most p= .inl (17,(p:Int))):=AA (by rw [HX.out,if_pos (by omega)])
    clear HX
    go_wp2_with fail
    refine(G_ g _ 17 p (.inr p) w3 Z_.out (by decide)).mono ?_
    rintro en w4 ⟨hk,hs,rfl⟩
    have LH:=AA (Z9.out.trans hk)
    obtain⟨hne,a,hb⟩:=hs
    have H4:=AA hb
    have q1:=hb.q 1 rfl
    have z1:=hb.frozen 1
    clear hk hb q0 q2 hne
    go_wp2_with fail
    go_ret
    rw [Bq.out]
    first
    | exact⟨LH.out.trans (Cy 1 _),⟨(show(17:Int)≠0 by decide),_,H4.out.set 1 _⟩,_,rfl,fun a q h=>by cases h⟩
    | exact⟨LH.out,⟨(show(17:Int)≠0 by decide),_,H4.out⟩,_,rfl,fun a q h=>by cases h⟩
   ·by_cases h2:most<x
    ·have h1i: ¬(x:Int)<least:=by omega
     have h2i:(most:Int)<x:=by omega
     have Bq:Hid (FH l least most p= .inl (17,(p:Int))):=AA (by rw [HX.out,if_pos (by omega)])
     clear HX
     go_wp2_with fail
     refine(G_ g _ 17 p (.inr p) w3 Z_.out (by decide)).mono ?_
     rintro en w4 ⟨hk,hs,rfl⟩
     have LH:=AA (Z9.out.trans hk)
     obtain⟨hne,a,hb⟩:=hs
     have H4:=AA hb
     have q1:=hb.q 1 rfl
     have z1:=hb.frozen 1
     clear hk hb q0 q2 hne
     go_wp2_with fail
     go_ret
     rw [Bq.out]
     first
     | exact⟨LH.out.trans (Cy 1 _),⟨(show(17:Int)≠0 by decide),_,H4.out.set 1 _⟩,_,rfl,fun a q h=>by cases h⟩
     | exact⟨LH.out,⟨(show(17:Int)≠0 by decide),_,H4.out⟩,_,rfl,fun a q h=>by cases h⟩
    ·have h1i: ¬(x:Int)<least:=by omega
     have h2i: ¬(most:Int)<x:=by omega
     have Bq:Hid (FH l least most p= .inr (x,p+1)):=AA (by rw [HX.out,if_neg (by omega)])
     clear HX
     go_wp2_with fail
     go_ret
     rw [Bq.out]
     refine⟨Z9.out.trans (Cy 1 _),?_,_,rfl,fun a q h=> ?_⟩
     ·exact Z_.out.set 1 (.int .i64 ((p+1:Nat):Int))
     ·injection h with h;injection h with h;omega
  ·have HX:Hid (FH l least most p= .inl (10,(p:Int))):=AA (by unfold FH;rw [List.getElem?_eq_none (by omega)])
   have hpi: ¬(p:Int)<l.length:=by omega
   have hpj:(l.length:Int)≤p:=by omega
   go_wp2_with fail
   go_quiet (fail)
   generalize K7:w.drewN _=w2
   have Z8:Hid (Keep (KN g) w w2):=AA (by rw [←K7];exact(Keep.refl _ _).drewN _)
   have Qv:Hid (AQ w2 g 112 [.slice A l.length c,.int .i64 p,.int .i64 0,.int .i64 0]):=AA (by rw [←K7];exact H.out.drewN _)
   have Wi:Hid (Row w2 B A (l.map bv)):=AA (by rw [←K7];exact HR.out.drewN _)
   have q0:=Qv.out.q 0 rfl
   have q1:=Qv.out.q 1 rfl
   have q2:=Qv.out.q 2 rfl
   have z1:=Qv.out.frozen 1
   clear K7
   clear H HR
   go_wp2_with fail
   refine(G_ g _ 10 p (.inr p) w2 Qv.out (by decide)).mono ?_
   rintro en w3 ⟨hk,hs,rfl⟩
   have GQ:=AA (Z8.out.trans hk);have Iy:=AA hs
   obtain⟨hne,a,hb⟩:=hs
   have q2:=hb.q 2 rfl
   clear hk hb q0 q1 hne
   go_wp2_with fail
   go_ret
   rw [HX.out]
   exact⟨GQ.out,Iy.out,0,rfl,fun a q h=>by cases h⟩
theorem Fu.kn {α:Type} {r:Rd α} {e:TypeId} {base g:Nat} {W W':World} {A:Option Addr} {n c:Nat} {cells:List Value} {xs:List α} (h:Fu r e base W A n c cells xs) (hk:Keep (KN g) W W') (hg:g<base):Fu r e base W' A n c cells xs:=by
 refine⟨Ce h.own hk (fun k hk'=>by have:=(h.own.lt _ hk').1;show k≠g;omega),h.len,fun k x hx=> ?_⟩
 obtain⟨lo,hi,h1,h2,h3,h4⟩:=h.els k x hx
 exact⟨lo,hi,h1,Nat.le_trans h2 hk.size,h3,Rd.CB h4 hk h2 (fun k a b=>by show k≠g;omega)⟩
theorem ET {l:List UInt8} {most:Nat} {great:Int} {p v q:Nat} (h:Ar l most great p= .inr (v,q)):v≤most:=by
 unfold Ar at h
 split at h
 ·cases h
 split at h
 ·cases h
 ·injection h with h;injection h with h1 h2;omega
theorem Ho {l:List UInt8} {most:Nat} {great:Int} {p:Nat} {e:Int×Int} (hg:great≠0) (h:Ar l most great p= .inl e):e.1≠0:=by
 unfold Ar at h
 split at h
 ·rename_i h0;injection h with h;subst h;simpa using h0
 split at h
 ·injection h with h;subst h;exact hg
 ·cases h
theorem Qb {l:List UInt8} {n k q:Nat} {acc:List Nat} (hk:k<n):IU l (n-k) acc q=match Ar l 18446744073709551615 17 q with
 | .inl e=> .inl e
 | .inr (v,q2)=>IU l (n-(k+1)) (acc++ [v]) q2:=by
 obtain⟨d,hd⟩: ∃d,n-k=d+1:=⟨n-k-1,by omega⟩
 rw [hd,show n-(k+1)=d by omega]
 rfl
def Wm {α:Type} (r:Rd α) (w:World) (x:G8 (List α)) (en:Ending) (w':World):Prop:= ∃A n c,en= .returned (.slice A n c)∧ ∀vs q,x= .inr (vs,q)→n=vs.length∧(r.sl false).R w' w.heap.size w'.heap.size [.slice A n c] vs
theorem Keep.CY {K:Nat→Prop} {w w2 w6:World} (h:Keep K w w2) (hb:Below w.heap.size w2 w6):Keep K w w6:=
 ⟨hb.os.trans h.os,hb.tape.trans h.tape,hb.output.trans h.output,Nat.le_trans h.size hb.size,fun k h1 h2=>(hb.block k h1).trans (h.block k h1 h2)⟩
theorem CK.under {T:TypeId} {W W':World} {g B:Nat} {Bs:Value} {st:(Int×Int)⊕Nat} (h:CK T W g Bs st) (hb:Below B W W') (hg:g<B):CK T W' g Bs st:=
 h.keep (K:=fun k=>k<B) (Keep.of_below hb fun _ h _=>h) hg
def AEA (T:TypeId) (g:Nat) (Bs:Value) (l:List UInt8) (N:Nat) (RR:G8 (List Nat)) (w:World) (v i:Value) (wr:World):Prop:= ∃(k:Nat) (A1:Option Addr) (c1:Nat) (cells:List Value) (acc:List Nat) (q:Nat),k≤N∧i= .int .u64 k∧v= .slice A1 k c1∧
 Fu Rd.u64 87 w.heap.size wr A1 k c1 cells acc∧Keep (KN g) w wr∧CK T wr g Bs (.inr q)∧IU l (N-k) acc q=RR
def AEB (l:List UInt8) (N k n1:Nat) (acc:List Nat) (RR:G8 (List Nat)):(Int×Int)⊕Nat→Prop
 | .inr q=>n1=k∧IU l (N-k) acc q=RR
 | .inl e=>RR= .inl e
def AEC (T:TypeId) (g:Nat) (Bs:Value) (l:List UInt8) (N:Nat) (RR:G8 (List Nat)) (w:World) (v i:Value) (wr:World):Prop:= ∃(k n1:Nat) (A1:Option Addr) (c1:Nat) (cells:List Value) (acc:List Nat) (st:(Int×Int)⊕Nat),k≤N∧i= .int .u64 k∧v= .slice A1 n1 c1∧
 n1≤k∧Fu Rd.u64 87 w.heap.size wr A1 n1 c1 cells acc∧Keep (KN g) w wr∧CK T wr g Bs st∧AEB l N k n1 acc RR st
theorem Mq (g B:Nat) (A:Option Addr) (c:Nat) (l:List UInt8) (most:Nat) (hm:most≤1000) (st:(Int×Int)⊕Nat) (w:World) (h:CK 146 w g (.slice A l.length c) st) (hr:Row w B A (l.map bv)) (hB:B≤g) (hl:l.length≤140737488351232):
 Calls prog 82 #[.pointer (some ⟨g,0,none⟩),.int .u64 most] w (Gy 146 g (.slice A l.length c) w (posR (Ak st (DL l most))) (Wm Rd.u64 w (Ak st (DL l most)))):=by
 have H:=AA h;have HR:=AA hr;have hgl:=h.lt
 have cK:Hid (∀k,k<B→KN g k):=AA (fun k hk=>by show k≠g;omega)
 obtain⟨i0,z0,GU,GV,GX,D8,KY⟩:=info_parts' QI
 have Z5:=AA GU;have Z6:=AA GV;have Z7:=AA GX;have Ny:=AA D8;have M5:=AA KY
 clear h hr GU GV GX D8 KY
 have HC:=AA (Dn g B A c l most 20 st w H.out HR.out hl (by decide))
 have HV:Hid (Ak st (DL l most)=match Ak st (Ar l most 20)with | .inl e=> .inl e | .inr (n,q)=>IU l n [] q):=AA (by cases st<;>rfl)
 have GZ:Hid (∀v q,Ak st (Ar l most 20)= .inr (v,q)→v≤most):=AA (fun v q h=>by cases st with | inl x=>cases h | inr p=>exact ET h)
 obtain⟨RR,hRR⟩: ∃RR,Ak st (DL l most)=RR:=⟨_,rfl⟩
 rw [hRR] at HV⊢
 clear hRR
 go_enter func82,ntmps82
 go_wp2_with fail
 refine HC.out.mono ?_
 rintro en w1 ⟨hk1,hs1,rfl⟩
 have Ls:=AA hk1
 have hz1:=hk1.size
 cases hn:Ak st (Ar l most 20)with
 | inl x=>
  rw [hn] at hs1 HV
  dsimp only at HV
  have Nr:=AA hs1
  obtain⟨hne,b,hb⟩:=hs1
  have q2:=hb.q 2 rfl
  have n1:(x.1==0)=false:=beq_eq_false_iff_ne.2 hne
  clear hk1 hn hb hne
  simp only [B_]
  go_wp2_with fail
  go_loopw [5,12] (fun v i wr=>v= .slice none 0 0∧i= .int .u64 0∧w1=wr) (fun _ _ _=>0)
  case atStart=>exact⟨rfl,rfl,rfl⟩
  case round=>
   obtain⟨rfl,rfl,rfl⟩:=hrel
   go_wp2_with fail
   go_ret
   rw [HV.out]
   exact⟨Ls.out,Nr.out,none,0,0,rfl,fun vs q h=>by cases h⟩
 | inr x=>
  obtain⟨N,q0⟩:=x
  rw [hn] at hs1 HV
  dsimp only at HV
  have hN:N≤most:=GZ.out N q0 hn
  have Nr:=AA hs1
  clear hk1 hs1 hn HC GZ
  simp only [B_]
  go_wp2_with fail
  go_loopw [5,12] (fun v i wr=>AEA 146 g (.slice A l.length c) l N RR w v i wr) (fun _ i _=>N-(intOf i).toNat)
  case atStart=>exact⟨0,none,0,[],[],q0,Nat.zero_le _,rfl,rfl,Fu.nil _ _ _ _,Ls.out,Nr.out,HV.out.symm⟩
  case round=>
   obtain⟨k,A1,c1,cells,acc,q,hk,rfl,rfl,hg,hkp,hs,hgo⟩:=hrel
   have HG:=AA hg;have IK:=AA hkp;have HS:=AA hs;have RH:=AA hgo
   have TQ:=hkp.size
   clear hg hs hgo
   by_cases hlt:k<N
   ·have TS:=AA (Dn g B A c l 18446744073709551615 17 (.inr q) wr HS.out (Row.CB HR.out hkp cK.out (by omega)) hl (by decide))
    have Ey:=AA (Qb (l:=l) (q:=q) (acc:=acc) hlt)
    have hki:(k:Int)<N:=by omega
    have hk0:(0:Int)≤k:=by omega
    clear hkp
    go_upto_region 6 with(first | (go_at_call 81;refine TS.out.mono ?_;rintro en w2 ⟨hk2,hs2,rfl⟩;have GN:=AA hk2;have HS2:=AA hs2;have hz2:=hk2.size;clear hk2 hs2;obtain⟨v,hv⟩: ∃v:Nat,B_ 0 (Ak (.inr q) (Ar l 18446744073709551615 17))=v:=⟨_,rfl⟩;rw [hv];have HVv:=AA hv;clear hv;have HG2:=AA (HG.out.kn GN.out hgl);have GL:=AA (row_one w2 (.int .u64 (v:Int)) 87)) | (at_builtin;refine BL _ rfl _ _ 31 rfl w.heap.size 87 i0 z0 1 8 underlying31 Z5.out Z6.out Z7.out Ny.out M5.out (by omega) (.slice A1 k c1) k cells rfl (HG2.out.own.alloc _) (w2.heap.size+1) _ 1 1 [.int .u64 (v:Int)] rfl rfl GL.out (by simp [Value.oneCell']) (by unfold maxLen;omega) (by omega) (by simp;omega) ?_;intro A6 c6 w6 h2 h3 h4;have H2:=AA h2;have H3:=AA h3;have H4:=AA h4;clear h2 h3 h4))
    have Sz:Below w.heap.size w2 w6:=((Below.refl w.heap.size w2).alloc (by omega) _).trans (BG (HG2.out.own.alloc _) H3.out (by simp;omega))
    have EL:=AA Sz
    have Ul:Hid (Keep (KN g) w w6):=AA ((IK.out.trans GN.out).CY Sz)
    have iB:=AA (HS2.out.under Sz hgl)
    clear Sz
    cases Cr:Ak (.inr q) (Ar l 18446744073709551615 17)with
    | inl x=>
     have U4:Ar l 18446744073709551615 17 q= .inl x:=Cr
     rw [Cr] at iB
     rw [RH.out,U4] at Ey
     obtain⟨hne,b,hb⟩:=iB.out
     have q2:=hb.q 2 rfl
     have n1:(x.1 !=0)=true:=bne_iff_ne.2 hne
     clear Cr U4 hb hne
     go_wp2_with fail
     go_ret
     rw [Ey.out]
     exact⟨Ul.out,iB.out,none,0,0,rfl,fun vs q h=>by cases h⟩
    | inr x=>
     obtain⟨v',q'⟩:=x
     have U4:Ar l 18446744073709551615 17 q= .inr (v',q'):=Cr
     have hv64:=ET U4
     rw [Cr] at iB HVv
     rw [RH.out,U4] at Ey
     have hvv:v'=v:=HVv.out
     subst hvv
     have hb:AQ w6 g 146 [.slice A l.length c,.int .i64 q',.int .i64 0,.int .i64 0]:=iB.out
     have q2:=hb.q 2 rfl
     have zU:Hid (Fu Rd.u64 87 w.heap.size w6 A6 (k+1) c6 (cells++ [.int .u64 (v':Int)]) (acc++ [v'])):=AA ((HG2.out.below ((Below.refl _ _).alloc (Nat.le_refl _) _)).snoc (by simp;omega) (lo:=w.heap.size) (hi:=w.heap.size) (r:=Rd.u64) (x:=v') ⟨rfl,by show v'<_;omega⟩ (Nat.le_refl _) (by simp;omega) (fun g' hg'=> .inr (by have:=(HG2.out.own.lt g' hg').1;omega)) H2.out H3.out H4.out)
     clear Cr U4 hb
     go_wp2_with fail
     exact⟨⟨k+1,A6,c6,_,acc++ [v'],q',by omega,by go_num,rfl,zU.out,Ul.out,iB.out,Ey.out.symm⟩,by simp [intOf];omega⟩
   ·obtain rfl:N=k:=by omega
    have hki: ¬(N:Int)<N:=by omega
    have HX:Hid (RR= .inr (acc,q)):=AA (by rw [←RH.out,Nat.sub_self];rfl)
    go_wp2_with fail
    go_ret
    rw [HX.out]
    refine⟨IK.out,HS.out,A1,N,c1,rfl,fun vs q' h=> ?_⟩
    injection h with h;injection h with h1 h2;subst h1
    exact⟨HG.out.len,by have:=HG.out.reads;rw [HG.out.len] at this⊢;exact this⟩
theorem Jg (g B:Nat) (A:Option Addr) (c:Nat) (l:List UInt8) (most:Nat) (hm:most≤1000) (st:(Int×Int)⊕Nat) (w:World) (h:CK 112 w g (.slice A l.length c) st) (hr:Row w B A (l.map bv)) (hB:B≤g) (hl:l.length≤140737488351232):
 Calls prog 58 #[.pointer (some ⟨g,0,none⟩),.int .u64 most] w (Gy 112 g (.slice A l.length c) w (posR (Ak st (DL l most))) (Wm Rd.u64 w (Ak st (DL l most)))):=by
 have H:=AA h;have HR:=AA hr;have hgl:=h.lt
 have cK:Hid (∀k,k<B→KN g k):=AA (fun k hk=>by show k≠g;omega)
 obtain⟨i0,z0,GU,GV,GX,D8,KY⟩:=info_parts' QI
 have Z5:=AA GU;have Z6:=AA GV;have Z7:=AA GX;have Ny:=AA D8;have M5:=AA KY
 clear h hr GU GV GX D8 KY
 have HC:=AA (Dm g B A c l most 20 st w H.out HR.out hl (by decide))
 have HV:Hid (Ak st (DL l most)=match Ak st (Ar l most 20)with | .inl e=> .inl e | .inr (n,q)=>IU l n [] q):=AA (by cases st<;>rfl)
 have GZ:Hid (∀v q,Ak st (Ar l most 20)= .inr (v,q)→v≤most):=AA (fun v q h=>by cases st with | inl x=>cases h | inr p=>exact ET h)
 obtain⟨RR,hRR⟩: ∃RR,Ak st (DL l most)=RR:=⟨_,rfl⟩
 rw [hRR] at HV⊢
 clear hRR
 go_enter func58,ntmps58
 go_wp2_with fail
 refine HC.out.mono ?_
 rintro en w1 ⟨hk1,hs1,rfl⟩
 have Ls:=AA hk1
 have hz1:=hk1.size
 cases hn:Ak st (Ar l most 20)with
 | inl x=>
  rw [hn] at hs1 HV
  dsimp only at HV
  have Nr:=AA hs1
  obtain⟨hne,b,hb⟩:=hs1
  have q2:=hb.q 2 rfl
  have n1:(x.1==0)=false:=beq_eq_false_iff_ne.2 hne
  clear hk1 hn hb hne
  simp only [B_]
  go_wp2_with fail
  go_loopw [5,7] (fun v i wr=>v= .slice none 0 0∧i= .int .u64 0∧w1=wr) (fun _ _ _=>0)
  case atStart=>exact⟨rfl,rfl,rfl⟩
  case round=>
   obtain⟨rfl,rfl,rfl⟩:=hrel
   go_wp2_with fail
   go_ret
   rw [HV.out]
   exact⟨Ls.out,Nr.out,none,0,0,rfl,fun vs q h=>by cases h⟩
 | inr x=>
  obtain⟨N,q0⟩:=x
  rw [hn] at hs1 HV
  dsimp only at HV
  have hN:N≤most:=GZ.out N q0 hn
  have Nr:=AA hs1
  clear hk1 hs1 hn HC GZ
  simp only [B_]
  go_wp2_with fail
  go_loopw [5,7] (fun v i wr=>AEC 112 g (.slice A l.length c) l N RR w v i wr) (fun _ i _=>N-(intOf i).toNat)
  case atStart=>exact⟨0,0,none,0,[],[],.inr q0,Nat.zero_le _,rfl,rfl,Nat.le_refl _,Fu.nil _ _ _ _,Ls.out,Nr.out,rfl,HV.out.symm⟩
  case round=>
   obtain⟨k,n1,A1,c1,cells,acc,st',hk,rfl,rfl,hn1,hg,hkp,hs,hst⟩:=hrel
   have HG:=AA hg;have IK:=AA hkp;have HS:=AA hs;have HST:=AA hst
   have TQ:=hkp.size
   have hk0:(0:Int)≤k:=by omega
   clear hg
   cases st' with
   | inl e=>
    obtain⟨hne,b,hb⟩:=hs
    have q2:=hb.q 2 rfl
    have m1:(e.1==0)=false:=beq_eq_false_iff_ne.2 hne
    have HX:Hid (RR= .inl e):=AA hst
    clear hkp hb hne hst
    by_cases hlt:k<N
    ·have hki:(k:Int)<N:=by omega
     go_wp2_with fail
     go_ret
     rw [HX.out]
     exact⟨IK.out,HS.out,A1,n1,c1,rfl,fun vs q h=>by cases h⟩
    ·have hki: ¬(k:Int)<N:=by omega
     go_wp2_with fail
     go_ret
     rw [HX.out]
     exact⟨IK.out,HS.out,A1,n1,c1,rfl,fun vs q h=>by cases h⟩
   | inr q=>
    obtain⟨rfl,hgo⟩:=hst
    have RH:=AA hgo
    have hb:AQ wr g 112 [.slice A l.length c,.int .i64 q,.int .i64 0,.int .i64 0]:=hs
    have q2:=hb.q 2 rfl
    clear hgo hb hs
    by_cases hlt:n1<N
    ·have TS:=AA (Dm g B A c l 18446744073709551615 17 (.inr q) wr HS.out (Row.CB HR.out hkp cK.out (by omega)) hl (by decide))
     have Ey:=AA (Qb (l:=l) (q:=q) (acc:=acc) hlt)
     have hki:(n1:Int)<N:=by omega
     clear hkp
     obtain⟨k,rfl⟩: ∃k,k=n1:=⟨_,rfl⟩
     go_wp2_with (first | (go_at_call 57;refine TS.out.mono ?_;rintro en w2 ⟨hk2,hs2,rfl⟩;have GN:=AA hk2;have HS2:=AA hs2;have hz2:=hk2.size;clear hk2 hs2;obtain⟨v,hv⟩: ∃v:Nat,B_ 0 (Ak (.inr q) (Ar l 18446744073709551615 17))=v:=⟨_,rfl⟩;rw [hv];have HVv:=AA hv;clear hv;have HG2:=AA (HG.out.kn GN.out hgl);have GL:=AA (row_one w2 (.int .u64 (v:Int)) 87)) | (at_builtin;refine BL _ rfl _ _ 31 rfl w.heap.size 87 i0 z0 1 8 underlying31 Z5.out Z6.out Z7.out Ny.out M5.out (by omega) (.slice A1 k c1) k cells rfl (HG2.out.own.alloc _) (w2.heap.size+1) _ 1 1 [.int .u64 (v:Int)] rfl rfl GL.out (by simp [Value.oneCell']) (by unfold maxLen;omega) (by omega) (by simp;omega) ?_;intro A6 c6 w6 h2 h3 h4;have H2:=AA h2;have H3:=AA h3;have H4:=AA h4;clear h2 h3 h4))
     have Sz:Below w.heap.size w2 w6:=((Below.refl w.heap.size w2).alloc (by omega) _).trans (BG (HG2.out.own.alloc _) H3.out (by simp;omega))
     have Ul:Hid (Keep (KN g) w w6):=AA ((IK.out.trans GN.out).CY Sz)
     have iB:=AA (HS2.out.under Sz hgl)
     clear Sz
     have hv64:v≤18446744073709551615:=by
      have hvv:B_ 0 (Ar l 18446744073709551615 17 q)=v:=HVv.out
      cases Cr:Ar l 18446744073709551615 17 q with
      | inl x=>rw [Cr] at hvv;have:0=v:=hvv;omega
      | inr x=>
       obtain⟨v',q'⟩:=x
       have h64:=ET Cr
       rw [Cr] at hvv
       have:v'=v:=hvv
       omega
     have zU:Hid (Fu Rd.u64 87 w.heap.size w6 A6 (k+1) c6 (cells++ [.int .u64 (v:Int)]) (acc++ [v])):=AA ((HG2.out.below ((Below.refl _ _).alloc (Nat.le_refl _) _)).snoc (by simp;omega) (lo:=w.heap.size) (hi:=w.heap.size) (r:=Rd.u64) (x:=v) ⟨rfl,by show v<_;omega⟩ (Nat.le_refl _) (by simp;omega) (fun g' hg'=> .inr (by have:=(HG2.out.own.lt g' hg').1;omega)) H2.out H3.out H4.out)
     have HFIN:Hid (AEB l N (k+1) (k+1) (acc++ [v]) RR (posR (Ak (.inr q) (Ar l 18446744073709551615 17)))):=AA (by
      have hx:Ak (.inr q) (Ar l 18446744073709551615 17)=Ar l 18446744073709551615 17 q:=rfl
      have hvv:B_ 0 (Ar l 18446744073709551615 17 q)=v:=HVv.out
      have h2:=Ey.out
      rw [RH.out] at h2
      rw [hx]
      cases Cr:Ar l 18446744073709551615 17 q with
      | inl x=>rw [Cr] at h2;exact h2
      | inr x=>
       obtain⟨v',q'⟩:=x
       rw [Cr] at h2 hvv
       have hvv:v'=v:=hvv
       subst hvv
       exact⟨rfl,h2.symm⟩)
     exact⟨⟨k+1,k+1,A6,c6,_,acc++ [v],_,by omega,by go_num,rfl,Nat.le_refl _,zU.out,Ul.out,iB.out,HFIN.out⟩,by simp [intOf];omega⟩
    ·obtain rfl:N=n1:=by omega
     have hki: ¬(N:Int)<N:=by omega
     have HX:Hid (RR= .inr (acc,q)):=AA (by rw [←RH.out,Nat.sub_self];rfl)
     clear hkp
     go_wp2_with fail
     go_ret
     rw [HX.out]
     refine⟨IK.out,HS.out,A1,N,c1,rfl,fun vs q' h=> ?_⟩
     injection h with h;injection h with h1 h2;subst h1
     exact⟨HG.out.len,by have:=HG.out.reads;rw [HG.out.len] at this⊢;exact this⟩
def AFc (p:List UInt8) (w:World) (i:Value) (wr:World):Prop:= ∃k:Nat,k≤p.length∧i= .int .i64 k∧wr=w∧Y7 (p.drop k)=Y7 p
theorem uz {p:List UInt8} {k:Nat} (h:k<p.length):Y7 (p.drop k)=((p[k]?.getD 0 !=0)||Y7 (p.drop (k+1))):=by
 rw [List.drop_eq_getElem_cons h,List.getElem?_eq_getElem h];rfl
theorem Ye (p:List UInt8) (A0:Option Addr) (c0 B:Nat) (w:World) (hr:Row w B A0 (p.map bv)) (hmm:p.length≤1000000):
 Calls prog 49 #[.slice A0 p.length c0] w fun e w'=>w=w'∧e= .returned (.bool (!Y7 p)):=by
 have HR:=AA hr
 clear hr
 go_enter func49,ntmps49
 go_wp2_with fail
 go_loopw [3] (fun i wr=>AFc p w i wr) (fun i _=>p.length-(intOf i).toNat)
 case atStart=>exact⟨0,Nat.zero_le _,rfl,rfl,rfl⟩
 case round=>
  obtain⟨k,hk,rfl,rfl,hR⟩:=hrel
  by_cases hlt:k<p.length
  ·obtain⟨b,o,rfl,_,hcell⟩:=HR.out.byte (j:=k) hlt
   have hk0:(0:Int)≤k:=by omega
   rw [uz hlt] at hR
   have HRR:=AA hR;clear hR
   have hu:(p[k]?.getD 0).toNat<256:=UInt8.toNat_lt _
   have HU:Hid ((p[k]?.getD 0 !=0)=((p[k]?.getD 0).toNat !=0)):=AA (by rw [Bool.eq_iff_iff,bne_iff_ne,bne_iff_ne,ne_eq,ne_eq,←UInt8.toNat_inj];rfl)
   rw [HU.out] at HRR
   clear HU
   generalize (p[k]?.getD 0).toNat=x at*
   by_cases hx:x=0
   ·subst hx
    go_wp2_with fail
    refine⟨⟨k+1,by omega,by go_num,rfl,by rw [←HRR.out];rfl⟩,by simp [intOf];omega⟩
   ·have hx1:(((x:Nat):Int) !=0)=true:=by rw [bne_iff_ne];omega
    have hx2:(x !=0)=true:=by rw [bne_iff_ne];omega
    rw [hx2] at HRR
    clear hx hx2
    go_wp2_with fail
    go_ret
    exact⟨rfl,by rw [←HRR.out];rfl⟩
  ·obtain rfl:p.length=k:=by omega
   have HRR:Hid (Y7 p=false):=AA (by rw [←hR,List.drop_length];rfl)
   clear hR
   go_wp2_with fail
   go_ret
   exact⟨rfl,by rw [HRR.out];rfl⟩
theorem Mr:Yt (.int .u8 0) 4096=(Az.map bv).toArray:=by
 unfold Yt Az
 rw [List.map_replicate]
 rfl
def Qc (b:Nat):Value:= .slice (some ⟨b,0,none⟩) 4096 4096
structure RJ (base:Nat) (W:World) (A:Option Addr) (n c:Nat) (bl:List Nat) (pg:List (List UInt8)):Prop where
 own:W.ownsRow base 40 1 (.slice A n c) n (bl.map Qc)
 len:n=bl.length
 lens:bl.length=pg.length
 page: ∀p∈pg,p.length=4096
 blk: ∀(i b:Nat) (p:List UInt8),bl[i]?=some b→pg[i]?=some p→base≤b∧AQ W b 5 (p.map bv)
 inj: ∀(i j b:Nat),bl[i]?=some b→bl[j]?=some b→i=j
theorem RJ.nil (base:Nat) (W:World):RJ base W none 0 0 [] []:=
 ⟨⟨by simp,.inl ⟨rfl,rfl⟩⟩,rfl,rfl,fun p hp=>by simp at hp,fun i b p h=>by simp at h,fun i j b h=>by simp at h⟩
section
variable {base n c:Nat} {W W':World} {A:Option Addr} {bl:List Nat} {pg:List (List UInt8)}
theorem RJ.kn (h:RJ base W A n c bl pg) {g:Nat} (hk:Keep (KN g) W W') (hg:g<base):RJ base W' A n c bl pg:=
 ⟨Ce h.own hk (fun k hk'=>by have:=(h.own.lt _ hk').1;show k≠g;omega),h.len,h.lens,h.page,fun i b p h1 h2=>⟨(h.blk i b p h1 h2).1,(h.blk i b p h1 h2).2.keep hk (by have:=(h.blk i b p h1 h2).1;show b≠g;omega)⟩,h.inj⟩
theorem RJ.all (h:RJ base W A n c bl pg) (hb:Below W.heap.size W W'):RJ base W' A n c bl pg:=
 ⟨FD h.own hb,h.len,h.lens,h.page,fun i b p h1 h2=>⟨(h.blk i b p h1 h2).1,(h.blk i b p h1 h2).2.below hb (h.blk i b p h1 h2).2.lt⟩,h.inj⟩
theorem RJ.reads (h:RJ base W A n c bl pg):((Rd.u8.sl false).sl false).R W base W.heap.size [.slice A n c] pg:=by
 refine Rd.own false (r:=Rd.u8.sl false) h.own (by rw [h.len,h.lens]) fun k p hk=> ?_
 have hlt:=(List.getElem?_eq_some_iff.1 hk).1
 obtain⟨b,hb⟩: ∃b,bl[k]?=some b:=⟨_,List.getElem?_eq_getElem (by rw [h.lens];exact hlt)⟩
 have hz:((bl.map Qc).drop (k*1)).take 1= [Qc b]:=by
  rw [Nat.mul_one,←List.map_drop,List.drop_eq_getElem_cons (by rw [h.lens];exact hlt)]
  rw [List.getElem?_eq_getElem (by rw [h.lens];exact hlt)] at hb
  injection hb with hb
  rw [hb];rfl
 have hp:=h.page p (List.mem_of_getElem? hk)
 obtain⟨h1,h2⟩:=h.blk k b p hb hk
 show(Rd.u8.sl false).R W base W.heap.size (((bl.map Qc).drop (k*1)).take 1) p
 rw [hz]
 refine⟨some ⟨b,0,none⟩,4096,by unfold Qc;rw [hp],⟨fun h=>(by cases h),by omega⟩,fun _=>⟨b,0,rfl,h1,h2.lt,fun j x hx=>⟨[bv x],fun i u hu=> ?_,rfl,trivial⟩⟩⟩
 have hi:i=0:=by
  have:=(List.getElem?_eq_some_iff.1 hu).1
  simp at this;exact this
 subst hi
 have:=h2.cell j
 rw [List.getElem?_map,hx] at this
 simpa [Rd.u8,Rd.one] using this.trans (by simpa using hu)
theorem RJ.snoc (h:RJ base W A n c bl pg) (hbase:base≤W.heap.size) {W2:World} {o:Obj} (hz:(W.alloc (.cells (Az.map bv).toArray 5)).alloc o=W2) {A':Option Addr} {c':Nat}
 (ho:W'.ownsRow base 40 1 (.slice A' (n+1) c') (n+1) (bl.map Qc++ [Qc W.heap.size])) (hg:W2.grownBy W' (Value.slice A n c).ownBlock):RJ base W' A' (n+1) c' (bl++ [W.heap.size]) (pg++ [Az]):=by
 have hn:AQ (W.alloc (.cells (Az.map bv).toArray 5)) W.heap.size 5 (Az.map bv):=AQ.new W 5 _
 have hkeep: ∀(b:Nat) (xs:List Value),AQ W2 b 5 xs→AQ W' b 5 xs:=fun b xs hb=>by
  have hne:(Value.slice A n c).ownBlock≠some b:=by
   have:=A_ ((h.own.alloc _).alloc o) (by rw [hz];exact hb) (by decide)
   exact this
  exact Ay hg hb hne
 have hlt: ∀i b,bl[i]?=some b→b<W.heap.size:=fun i b hb=>by
  have hi:=(List.getElem?_eq_some_iff.1 hb).1
  exact(h.blk i b _ hb (List.getElem?_eq_getElem (by rw [←h.lens];exact hi))).2.lt
 refine⟨by rw [List.map_append];exact ho,by rw [List.length_append,←h.len];rfl,by rw [List.length_append,List.length_append,h.lens];rfl,fun p hp=> ?_,fun i b p h1 h2=> ?_,fun i j b h1 h2=> ?_⟩
 ·rcases List.mem_append.1 hp with hp | hp
  ·exact h.page p hp
  ·rw [List.mem_singleton] at hp;subst hp;exact List.length_replicate ..
 ·rw [List.getElem?_append] at h1 h2
  split at h1
  ·rename_i hi
   rw [if_pos (by rw [←h.lens];exact hi)] at h2
   obtain⟨g1,g2⟩:=h.blk i b p h1 h2
   exact⟨g1,hkeep _ _ (by rw [←hz];exact(g2.alloc _).alloc o)⟩
  ·rename_i hi
   rw [if_neg (by rw [←h.lens];exact hi)] at h2
   have hi0:i-bl.length=0:=by
    have:=(List.getElem?_eq_some_iff.1 h1).1
    simp at this;omega
   rw [hi0] at h1
   rw [←h.lens,hi0] at h2
   simp at h1 h2
   subst h1 h2
   exact⟨hbase,hkeep _ _ (by rw [←hz];exact hn.alloc o)⟩
 ·rw [List.getElem?_append] at h1 h2
  have one: ∀i,([W.heap.size]:List Nat)[i-bl.length]?=some b→i-bl.length=0∧b=W.heap.size:=fun i h=>by
   have:=(List.getElem?_eq_some_iff.1 h).1
   have h0:i-bl.length=0:=by simp at this;omega
   rw [h0] at h
   simp at h
   exact⟨h0,h.symm⟩
  split at h1<;>split at h2
  ·exact h.inj i j b h1 h2
  ·have:=hlt i b h1;have:=(one j h2).2;omega
  ·have:=hlt j b h2;have:=(one i h1).2;omega
  ·have:=(one i h1).1;have:=(one j h2).1;omega
end

end Go.Proofs.YtlagonfamllgjaaGreatDoor
