/- Part 47 of the proof: SrdB SrdC SrdD SrdE SrdG -/
import Derived.Laws.CopyOwn
import Derived.Test.YtlagonfamllgjaaGreatDoorK46
namespace Go.Proofs.YtlagonfamllgjaaGreatDoor
set_option linter.unusedVariables false
set_option linter.unusedSimpArgs false
set_option maxRecDepth 100000
set_option maxHeartbeats 4000000
open Go.RowKit Tryz
def OctV (r:Ju Nat) (en:Ending) (_:World):Prop:= ∃v:Int,en= .returned (.int .i8 v)∧ ∀(a q:Nat),r= .inr (a,q)→v=a
theorem Yq (g B:Nat) (A:Option Addr) (c:Nat) (l:List UInt8) (least most:Nat) (hm:most≤127) (st:(Int×Int)⊕Nat) (w:World) (h:Hq 146 w g (.slice A l.length c) st) (hr:Row w B A (l.map bv)) (hl:l.length≤140737488351232):
 Calls prog 80 #[.pointer (some ⟨g,0,none⟩),.int .u8 least,.int .u8 most] w (Oa 146 g (.slice A l.length c) w (posR (DN st (L6 l least most))) (OctV (DN st (L6 l least most)))):=by
 cases st with
 | inl x=>
  obtain⟨hne,b,hb⟩:=h
  have H:=AA (show Hq 146 w g (.slice A l.length c) (.inl x)from⟨hne,b,hb⟩)
  have q2:=hb.q 2 rfl
  have n1:(x.1 !=0)=true:=bne_iff_ne.2 hne
  have n2:(x.1==0)=false:=beq_eq_false_iff_ne.2 hne
  clear hne hb hr
  go_enter func80,ntmps80
  go_wp2_with fail
  go_ret
  first
  | exact⟨Keep.refl _ _,H.out,0,rfl,fun a q h=>by cases h⟩
  | exact⟨(Keep.refl _ _).drewN _,H.out.below (below_drewN (Below.refl _ _) _),0,rfl,fun a q h=>by cases h⟩
 | inr p=>
  have hb:AQ w g 146 [.slice A l.length c,.int .i64 p,.int .i64 0,.int .i64 0]:=h
  have H:=AA hb
  have HR:=AA hr
  have q0:=hb.q 0 rfl
  have q1:=hb.q 1 rfl
  have q2:=hb.q 2 rfl
  have HQ:Hid (DN (.inr p) (L6 l least most)=L6 l least most p):=AA rfl
  rw [HQ.out]
  clear h hb hr HQ
  go_enter func80,ntmps80
  by_cases hp:p<l.length
  ·have HX:Hid (L6 l least most p=if(l[p]?.getD 0).toNat<least∨most<(l[p]?.getD 0).toNat then .inl (17,p) else .inr ((l[p]?.getD 0).toNat,p+1)):=AA (by unfold L6;rw [List.getElem?_eq_getElem hp];rfl)
   have hpi:(p:Int)<l.length:=by omega
   have hp0:(0:Int)≤p:=by omega
   have Nk:(l[p]?.getD 0).toNat<256:=UInt8.toNat_lt _
   go_wp2_with fail
   go_quiet (fail)
   generalize Ww:w.drewN _=w2
   have ABF:Hid (Keep (KN g) w w2):=AA (by rw [←Ww];exact(Keep.refl _ _).drewN _)
   have jq:Hid (AQ w2 g 146 [.slice A l.length c,.int .i64 p,.int .i64 0,.int .i64 0]):=AA (by rw [←Ww];exact H.out.drewN _)
   have wP:Hid (Row w2 B A (l.map bv)):=AA (by rw [←Ww];exact HR.out.drewN _)
   have q0:=jq.out.q 0 rfl
   have q1:=jq.out.q 1 rfl
   have q2:=jq.out.q 2 rfl
   have z1:=jq.out.frozen 1
   clear Ww
   clear H HR
   obtain⟨b,o,eA,_,hcell⟩:=wP.out.byte (j:=p) hp
   have HA:=AA eA
   generalize (l[p]?.getD 0).toNat=x at*
   subst eA
   go_wp2_with fail
   go_quiet (fail)
   generalize wQ:w2.drewN _=w3
   have ABG:Hid (Keep (KN g) w w3):=AA (by rw [←wQ];exact ABF.out.drewN _)
   have Hw3:Hid (AQ w3 g 146 [.slice (some ⟨b,o,none⟩) l.length c,.int .i64 p,.int .i64 0,.int .i64 0]):=AA (by rw [←wQ];exact jq.out.drewN _)
   have HRw3:Hid (Row w3 B (some ⟨b,o,none⟩) (l.map bv)):=AA (by rw [←wQ];exact wP.out.drewN _)
   have q0:=Hw3.out.q 0 rfl
   have q1:=Hw3.out.q 1 rfl
   have q2:=Hw3.out.q 2 rfl
   have z1:=Hw3.out.frozen 1
   clear wQ
   clear hcell jq wP
   by_cases h1:x<least
   ·have h1i:(x:Int)<least:=by omega
    have CV:Hid (L6 l least most p= .inl (17,(p:Int))):=AA (by rw [HX.out,if_pos (by omega)])
    clear HX
    go_wp2_with fail
    refine(VP g _ 17 p (.inr p) w3 Hw3.out (by decide)).mono ?_
    rintro en w4 ⟨hk,hs,rfl⟩
    have UR:=AA (ABG.out.trans hk)
    obtain⟨hne,a,hb⟩:=hs
    have H4:=AA hb
    have q1:=hb.q 1 rfl
    have z1:=hb.frozen 1
    clear hk hb q0 q2 hne
    go_wp2_with fail
    go_ret
    rw [CV.out]
    first
    | exact⟨UR.out.trans (Iy 1 _),⟨(show(17:Int)≠0 by decide),_,H4.out.set 1 _⟩,_,rfl,fun a q h=>by cases h⟩
    | exact⟨UR.out,⟨(show(17:Int)≠0 by decide),_,H4.out⟩,_,rfl,fun a q h=>by cases h⟩
   ·by_cases h2:most<x
    ·have h1i: ¬(x:Int)<least:=by omega
     have h2i:(most:Int)<x:=by omega
     have CV:Hid (L6 l least most p= .inl (17,(p:Int))):=AA (by rw [HX.out,if_pos (by omega)])
     clear HX
     go_wp2_with fail
     refine(VP g _ 17 p (.inr p) w3 Hw3.out (by decide)).mono ?_
     rintro en w4 ⟨hk,hs,rfl⟩
     have UR:=AA (ABG.out.trans hk)
     obtain⟨hne,a,hb⟩:=hs
     have H4:=AA hb
     have q1:=hb.q 1 rfl
     have z1:=hb.frozen 1
     clear hk hb q0 q2 hne
     go_wp2_with fail
     go_ret
     rw [CV.out]
     first
     | exact⟨UR.out.trans (Iy 1 _),⟨(show(17:Int)≠0 by decide),_,H4.out.set 1 _⟩,_,rfl,fun a q h=>by cases h⟩
     | exact⟨UR.out,⟨(show(17:Int)≠0 by decide),_,H4.out⟩,_,rfl,fun a q h=>by cases h⟩
    ·have h1i: ¬(x:Int)<least:=by omega
     have h2i: ¬(most:Int)<x:=by omega
     have CV:Hid (L6 l least most p= .inr (x,p+1)):=AA (by rw [HX.out,if_neg (by omega)])
     clear HX
     go_wp2_with fail
     go_ret
     rw [CV.out]
     refine⟨ABG.out.trans (Iy 1 _),?_,_,rfl,fun a q h=> ?_⟩
     ·exact Hw3.out.set 1 (.int .i64 ((p+1:Nat):Int))
     ·injection h with h;injection h with h;omega
  ·have HX:Hid (L6 l least most p= .inl (10,(p:Int))):=AA (by unfold L6;rw [List.getElem?_eq_none (by omega)])
   have hpi: ¬(p:Int)<l.length:=by omega
   have hpj:(l.length:Int)≤p:=by omega
   go_wp2_with fail
   go_quiet (fail)
   generalize Ww:w.drewN _=w2
   have ABF:Hid (Keep (KN g) w w2):=AA (by rw [←Ww];exact(Keep.refl _ _).drewN _)
   have jq:Hid (AQ w2 g 146 [.slice A l.length c,.int .i64 p,.int .i64 0,.int .i64 0]):=AA (by rw [←Ww];exact H.out.drewN _)
   have wP:Hid (Row w2 B A (l.map bv)):=AA (by rw [←Ww];exact HR.out.drewN _)
   have q0:=jq.out.q 0 rfl
   have q1:=jq.out.q 1 rfl
   have q2:=jq.out.q 2 rfl
   have z1:=jq.out.frozen 1
   clear Ww
   clear H HR
   go_wp2_with fail
   refine(VP g _ 10 p (.inr p) w2 jq.out (by decide)).mono ?_
   rintro en w3 ⟨hk,hs,rfl⟩
   have Lp:=AA (ABF.out.trans hk);have XH:=AA hs
   obtain⟨hne,a,hb⟩:=hs
   have q2:=hb.q 2 rfl
   clear hk hb q0 q1 hne
   go_wp2_with fail
   go_ret
   rw [HX.out]
   exact⟨Lp.out,XH.out,0,rfl,fun a q h=>by cases h⟩
theorem GX.kn {α:Type} {r:Rd α} {e:TypeId} {base g:Nat} {W W':World} {A:Option Addr} {n c:Nat} {cells:List Value} {xs:List α} (h:GX r e base W A n c cells xs) (hk:Keep (KN g) W W') (hg:g<base):GX r e base W' A n c cells xs:=by
 refine⟨DZ h.own hk (fun k hk'=>by have:=(h.own.lt _ hk').1;show k≠g;omega),h.len,fun k x hx=> ?_⟩
 obtain⟨lo,hi,h1,h2,h3,h4⟩:=h.els k x hx
 exact⟨lo,hi,h1,Nat.le_trans h2 hk.size,h3,Rd.C8 h4 hk h2 (fun k a b=>by show k≠g;omega)⟩
theorem Rn {l:List UInt8} {most:Nat} {great:Int} {p v q:Nat} (h:DX l most great p= .inr (v,q)):v≤most:=by
 unfold DX at h
 split at h
 ·cases h
 split at h
 ·cases h
 ·injection h with h;injection h with h1 h2;omega
theorem Yr {l:List UInt8} {n k q:Nat} {acc:List Nat} (hk:k<n):P_ l (n-k) acc q=match DX l 18446744073709551615 17 q with
 | .inl e=> .inl e
 | .inr (v,q2)=>P_ l (n-(k+1)) (acc++ [v]) q2:=by
 obtain⟨d,hd⟩: ∃d,n-k=d+1:=⟨n-k-1,by omega⟩
 rw [hd,show n-(k+1)=d by omega]
 rfl
def iy {α:Type} (r:Rd α) (w:World) (x:Ju (List α)) (en:Ending) (w':World):Prop:= ∃A n c,en= .returned (.slice A n c)∧ ∀vs q,x= .inr (vs,q)→n=vs.length∧(r.sl false).R w' w.heap.size w'.heap.size [.slice A n c] vs
theorem Keep.Jq {K:Nat→Prop} {w w2 w6:World} (h:Keep K w w2) (hb:Below w.heap.size w2 w6):Keep K w w6:=
 ⟨hb.os.trans h.os,hb.tape.trans h.tape,hb.output.trans h.output,Nat.le_trans h.size hb.size,fun k h1 h2=>(hb.block k h1).trans (h.block k h1 h2)⟩
theorem Hq.under {T:TypeId} {W W':World} {g B:Nat} {Bs:Value} {st:(Int×Int)⊕Nat} (h:Hq T W g Bs st) (hb:Below B W W') (hg:g<B):Hq T W' g Bs st:=
 h.keep (K:=fun k=>k<B) (Keep.of_below hb fun _ h _=>h) hg
def AFA (T:TypeId) (g:Nat) (Bs:Value) (l:List UInt8) (N:Nat) (RR:Ju (List Nat)) (w:World) (v i:Value) (wr:World):Prop:= ∃(k:Nat) (A1:Option Addr) (c1:Nat) (cells:List Value) (acc:List Nat) (q:Nat),k≤N∧i= .int .u64 k∧v= .slice A1 k c1∧
 GX Rd.u64 87 w.heap.size wr A1 k c1 cells acc∧Keep (KN g) w wr∧Hq T wr g Bs (.inr q)∧P_ l (N-k) acc q=RR
theorem NZ (g B:Nat) (A:Option Addr) (c:Nat) (l:List UInt8) (most:Nat) (hm:most≤1000) (st:(Int×Int)⊕Nat) (w:World) (h:Hq 146 w g (.slice A l.length c) st) (hr:Row w B A (l.map bv)) (hB:B≤g) (hl:l.length≤140737488351232):
 Calls prog 82 #[.pointer (some ⟨g,0,none⟩),.int .u64 most] w (Oa 146 g (.slice A l.length c) w (posR (DN st (II l most))) (iy Rd.u64 w (DN st (II l most)))):=by
 have H:=AA h;have HR:=AA hr;have hgl:=h.lt
 have HKN:Hid (∀k,k<B→KN g k):=AA (fun k hk=>by show k≠g;omega)
 obtain⟨i0,z0,Ms,Mt,Mv,Il,Yt⟩:=info_parts' Qg
 have Hi0:=AA Ms;have Hz0:=AA Mt;have Hs0:=AA Mv;have aW:=AA Il;have Nz:=AA Yt
 clear h hr Ms Mt Mv Il Yt
 have HC:=AA (Fj g B A c l most 20 st w H.out HR.out hl (by decide))
 have HV:Hid (DN st (II l most)=match DN st (DX l most 20)with | .inl e=> .inl e | .inr (n,q)=>P_ l n [] q):=AA (by cases st<;>rfl)
 have I7:Hid (∀v q,DN st (DX l most 20)= .inr (v,q)→v≤most):=AA (fun v q h=>by cases st with | inl x=>cases h | inr p=>exact Rn h)
 obtain⟨RR,hRR⟩: ∃RR,DN st (II l most)=RR:=⟨_,rfl⟩
 rw [hRR] at HV⊢
 clear hRR
 go_enter func82,ntmps82
 go_wp2_with fail
 refine HC.out.mono ?_
 rintro en w1 ⟨hk1,hs1,rfl⟩
 have Pt:=AA hk1
 have hz1:=hk1.size
 cases hn:DN st (DX l most 20)with
 | inl x=>
  rw [hn] at hs1 HV
  dsimp only at HV
  have RG:=AA hs1
  obtain⟨hne,b,hb⟩:=hs1
  have q2:=hb.q 2 rfl
  have n1:(x.1==0)=false:=beq_eq_false_iff_ne.2 hne
  clear hk1 hn hb hne
  simp only [EI]
  go_wp2_with fail
  go_loopw [5,12] (fun v i wr=>v= .slice none 0 0∧i= .int .u64 0∧w1=wr) (fun _ _ _=>0)
  case atStart=>exact⟨rfl,rfl,rfl⟩
  case round=>
   obtain⟨rfl,rfl,rfl⟩:=hrel
   go_wp2_with fail
   go_ret
   rw [HV.out]
   exact⟨Pt.out,RG.out,none,0,0,rfl,fun vs q h=>by cases h⟩
 | inr x=>
  obtain⟨N,q0⟩:=x
  rw [hn] at hs1 HV
  dsimp only at HV
  have hN:N≤most:=I7.out N q0 hn
  have RG:=AA hs1
  clear hk1 hs1 hn HC I7
  simp only [EI]
  go_wp2_with fail
  go_loopw [5,12] (fun v i wr=>AFA 146 g (.slice A l.length c) l N RR w v i wr) (fun _ i _=>N-(intOf i).toNat)
  case atStart=>exact⟨0,none,0,[],[],q0,Nat.zero_le _,rfl,rfl,GX.nil _ _ _ _,Pt.out,RG.out,HV.out.symm⟩
  case round=>
   obtain⟨k,A1,c1,cells,acc,q,hk,rfl,rfl,hg,hkp,hs,hgo⟩:=hrel
   have HG:=AA hg;have RN:=AA hkp;have HS:=AA hs;have Ye:=AA hgo
   have UZ:=hkp.size
   clear hg hs hgo
   by_cases hlt:k<N
   ·have Wx:=AA (Fj g B A c l 18446744073709551615 17 (.inr q) wr HS.out (Row.C8 HR.out hkp HKN.out (by omega)) hl (by decide))
    have ZE:=AA (Yr (l:=l) (q:=q) (acc:=acc) hlt)
    have hki:(k:Int)<N:=by omega
    have hk0:(0:Int)≤k:=by omega
    clear hkp
    go_upto_region 6 with(first | (go_at_call 81;refine Wx.out.mono ?_;rintro en w2 ⟨hk2,hs2,rfl⟩;have Iu:=AA hk2;have HS2:=AA hs2;have hz2:=hk2.size;clear hk2 hs2;obtain⟨v,hv⟩: ∃v:Nat,EI 0 (DN (.inr q) (DX l 18446744073709551615 17))=v:=⟨_,rfl⟩;rw [hv];have HVv:=AA hv;clear hv;have HG2:=AA (HG.out.kn Iu.out hgl);have Ir:=AA (row_one w2 (.int .u64 (v:Int)) 87)) | (at_builtin;refine BP _ rfl _ _ 31 rfl w.heap.size 87 i0 z0 1 8 underlying31 Hi0.out Hz0.out Hs0.out aW.out Nz.out (by omega) (.slice A1 k c1) k cells rfl (HG2.out.own.alloc _) (w2.heap.size+1) _ 1 1 [.int .u64 (v:Int)] rfl rfl Ir.out (by simp [Value.oneCell']) (by unfold maxLen;omega) (by omega) (by simp;omega) ?_;intro A6 c6 w6 h2 h3 h4;have H2:=AA h2;have H3:=AA h3;have H4:=AA h4;clear h2 h3 h4))
    have iY:Below w.heap.size w2 w6:=((Below.refl w.heap.size w2).alloc (by omega) _).trans (BK (HG2.out.own.alloc _) H3.out (by simp;omega))
    have FQ:=AA iY
    have bZ:Hid (Keep (KN g) w w6):=AA ((RN.out.trans Iu.out).Jq iY)
    have pQ:=AA (HS2.out.under iY hgl)
    clear iY
    cases Df:DN (.inr q) (DX l 18446744073709551615 17)with
    | inl x=>
     have VQ:DX l 18446744073709551615 17 q= .inl x:=Df
     rw [Df] at pQ
     rw [Ye.out,VQ] at ZE
     obtain⟨hne,b,hb⟩:=pQ.out
     have q2:=hb.q 2 rfl
     have n1:(x.1 !=0)=true:=bne_iff_ne.2 hne
     clear Df VQ hb hne
     go_wp2_with fail
     go_ret
     rw [ZE.out]
     exact⟨bZ.out,pQ.out,none,0,0,rfl,fun vs q h=>by cases h⟩
    | inr x=>
     obtain⟨v',q'⟩:=x
     have VQ:DX l 18446744073709551615 17 q= .inr (v',q'):=Df
     have hv64:=Rn VQ
     rw [Df] at pQ HVv
     rw [Ye.out,VQ] at ZE
     have hvv:v'=v:=HVv.out
     subst hvv
     have hb:AQ w6 g 146 [.slice A l.length c,.int .i64 q',.int .i64 0,.int .i64 0]:=pQ.out
     have q2:=hb.q 2 rfl
     have HSN:Hid (GX Rd.u64 87 w.heap.size w6 A6 (k+1) c6 (cells++ [.int .u64 (v':Int)]) (acc++ [v'])):=AA ((HG2.out.below ((Below.refl _ _).alloc (Nat.le_refl _) _)).snoc (by simp;omega) (lo:=w.heap.size) (hi:=w.heap.size) (r:=Rd.u64) (x:=v') ⟨rfl,by show v'<_;omega⟩ (Nat.le_refl _) (by simp;omega) (fun g' hg'=> .inr (by have:=(HG2.out.own.lt g' hg').1;omega)) H2.out H3.out H4.out)
     clear Df VQ hb
     go_wp2_with fail
     exact⟨⟨k+1,A6,c6,_,acc++ [v'],q',by omega,by go_num,rfl,HSN.out,bZ.out,pQ.out,ZE.out.symm⟩,by simp [intOf];omega⟩
   ·obtain rfl:N=k:=by omega
    have hki: ¬(N:Int)<N:=by omega
    have HX:Hid (RR= .inr (acc,q)):=AA (by rw [←Ye.out,Nat.sub_self];rfl)
    go_wp2_with fail
    go_ret
    rw [HX.out]
    refine⟨RN.out,HS.out,A1,N,c1,rfl,fun vs q' h=> ?_⟩
    injection h with h;injection h with h1 h2;subst h1
    exact⟨HG.out.len,by have:=HG.out.reads;rw [HG.out.len] at this⊢;exact this⟩
theorem VR:jy (.int .u8 0) 4096=(CB.map bv).toArray:=by
 unfold jy CB
 rw [List.map_replicate]
 rfl
def jr (b:Nat):Value:= .slice (some ⟨b,0,none⟩) 4096 4096
structure aY (base:Nat) (W:World) (A:Option Addr) (n c:Nat) (bl:List Nat) (pg:List (List UInt8)):Prop where
 own:W.ownsRow base 40 1 (.slice A n c) n (bl.map jr)
 len:n=bl.length
 lens:bl.length=pg.length
 page: ∀p∈pg,p.length=4096
 blk: ∀(i b:Nat) (p:List UInt8),bl[i]?=some b→pg[i]?=some p→base≤b∧AQ W b 5 (p.map bv)
 inj: ∀(i j b:Nat),bl[i]?=some b→bl[j]?=some b→i=j
theorem aY.nil (base:Nat) (W:World):aY base W none 0 0 [] []:=
 ⟨⟨by simp,.inl ⟨rfl,rfl⟩⟩,rfl,rfl,fun p hp=>by simp at hp,fun i b p h=>by simp at h,fun i j b h=>by simp at h⟩
section
variable {base n c:Nat} {W W':World} {A:Option Addr} {bl:List Nat} {pg:List (List UInt8)}
theorem aY.kn (h:aY base W A n c bl pg) {g:Nat} (hk:Keep (KN g) W W') (hg:g<base):aY base W' A n c bl pg:=
 ⟨DZ h.own hk (fun k hk'=>by have:=(h.own.lt _ hk').1;show k≠g;omega),h.len,h.lens,h.page,fun i b p h1 h2=>⟨(h.blk i b p h1 h2).1,(h.blk i b p h1 h2).2.keep hk (by have:=(h.blk i b p h1 h2).1;show b≠g;omega)⟩,h.inj⟩
theorem aY.all (h:aY base W A n c bl pg) (hb:Below W.heap.size W W'):aY base W' A n c bl pg:=
 ⟨FY h.own hb,h.len,h.lens,h.page,fun i b p h1 h2=>⟨(h.blk i b p h1 h2).1,(h.blk i b p h1 h2).2.below hb (h.blk i b p h1 h2).2.lt⟩,h.inj⟩
theorem aY.reads (h:aY base W A n c bl pg):((Rd.u8.sl false).sl false).R W base W.heap.size [.slice A n c] pg:=by
 refine Rd.own false (r:=Rd.u8.sl false) h.own (by rw [h.len,h.lens]) fun k p hk=> ?_
 have hlt:=(List.getElem?_eq_some_iff.1 hk).1
 obtain⟨b,hb⟩: ∃b,bl[k]?=some b:=⟨_,List.getElem?_eq_getElem (by rw [h.lens];exact hlt)⟩
 have hz:((bl.map jr).drop (k*1)).take 1= [jr b]:=by
  rw [Nat.mul_one,←List.map_drop,List.drop_eq_getElem_cons (by rw [h.lens];exact hlt)]
  rw [List.getElem?_eq_getElem (by rw [h.lens];exact hlt)] at hb
  injection hb with hb
  rw [hb];rfl
 have hp:=h.page p (List.mem_of_getElem? hk)
 obtain⟨h1,h2⟩:=h.blk k b p hb hk
 show(Rd.u8.sl false).R W base W.heap.size (((bl.map jr).drop (k*1)).take 1) p
 rw [hz]
 refine⟨some ⟨b,0,none⟩,4096,by unfold jr;rw [hp],⟨fun h=>(by cases h),by omega⟩,fun _=>⟨b,0,rfl,h1,h2.lt,fun j x hx=>⟨[bv x],fun i u hu=> ?_,rfl,trivial⟩⟩⟩
 have hi:i=0:=by
  have:=(List.getElem?_eq_some_iff.1 hu).1
  simp at this;exact this
 subst hi
 have:=h2.cell j
 rw [List.getElem?_map,hx] at this
 simpa [Rd.u8,Rd.one] using this.trans (by simpa using hu)
theorem aY.snoc (h:aY base W A n c bl pg) (hbase:base≤W.heap.size) {W2:World} {o:Obj} (hz:(W.alloc (.cells (CB.map bv).toArray 5)).alloc o=W2) {A':Option Addr} {c':Nat}
 (ho:W'.ownsRow base 40 1 (.slice A' (n+1) c') (n+1) (bl.map jr++ [jr W.heap.size])) (hg:W2.grownBy W' (Value.slice A n c).ownBlock):aY base W' A' (n+1) c' (bl++ [W.heap.size]) (pg++ [CB]):=by
 have hn:AQ (W.alloc (.cells (CB.map bv).toArray 5)) W.heap.size 5 (CB.map bv):=AQ.new W 5 _
 have hkeep: ∀(b:Nat) (xs:List Value),AQ W2 b 5 xs→AQ W' b 5 xs:=fun b xs hb=>by
  have hne:(Value.slice A n c).ownBlock≠some b:=by
   have:=Ay ((h.own.alloc _).alloc o) (by rw [hz];exact hb) (by decide)
   exact this
  exact Av hg hb hne
 have hlt: ∀i b,bl[i]?=some b→b<W.heap.size:=fun i b hb=>by
  have hi:=(List.getElem?_eq_some_iff.1 hb).1
  exact(h.blk i b _ hb (List.getElem?_eq_getElem (by rw [←h.lens];exact hi))).2.lt
 refine⟨by rw [List.map_append];exact ho,by rw [List.length_append,←h.len];rfl,by rw [List.length_append,List.length_append,h.lens];rfl,fun p hp=> ?_,fun i b p h1 h2=> ?_,fun i j b h1 h2=> ?_⟩
 ·rcases List.mem_append.1 hp with hp | hp
  ·exact h.page p hp
  ·rw [List.mem_singleton] at hp;subst hp;exact List.length_replicate ..
 ·rw [List.getElem?_append] at h1 h2
  split at h1
  ·rename_i hi
   rw [if_pos (by rw [←h.lens];exact hi)] at h2
   obtain⟨g1,g2⟩:=h.blk i b p h1 h2
   exact⟨g1,hkeep _ _ (by rw [←hz];exact(g2.alloc _).alloc o)⟩
  ·rename_i hi
   rw [if_neg (by rw [←h.lens];exact hi)] at h2
   have hi0:i-bl.length=0:=by
    have:=(List.getElem?_eq_some_iff.1 h1).1
    simp at this;omega
   rw [hi0] at h1
   rw [←h.lens,hi0] at h2
   simp at h1 h2
   subst h1 h2
   exact⟨hbase,hkeep _ _ (by rw [←hz];exact hn.alloc o)⟩
 ·rw [List.getElem?_append] at h1 h2
  have one: ∀i,([W.heap.size]:List Nat)[i-bl.length]?=some b→i-bl.length=0∧b=W.heap.size:=fun i h=>by
   have:=(List.getElem?_eq_some_iff.1 h).1
   have h0:i-bl.length=0:=by simp at this;omega
   rw [h0] at h
   simp at h
   exact⟨h0,h.symm⟩
  split at h1<;>split at h2
  ·exact h.inj i j b h1 h2
  ·have:=hlt i b h1;have:=(one j h2).2;omega
  ·have:=hlt j b h2;have:=(one i h1).2;omega
  ·have:=(one i h1).1;have:=(one j h2).1;omega
end
theorem jA (g B:Nat) (A:Option Addr) (c:Nat) (l:List UInt8) (p n q r:Nat) (h1:DX l 64 20 p= .inr (n,q)) (h2:DX l n 20 q= .inr (0,r)) (w:World) (h:Hq 146 w g (.slice A l.length c) (.inr p)) (hr:Row w B A (l.map bv)) (hB:B≤g) (hl:l.length≤140737488351232):
 Calls prog 83 #[.pointer (some ⟨g,0,none⟩)] w (Oa 146 g (.slice A l.length c) w (posR (Iq l p)) (iy (Rd.u8.sl false) w (Iq l p))):=by
 have H:=AA h;have HR:=AA hr;have hgl:=h.lt
 have HKN:Hid (∀k,k<B→KN g k):=AA (fun k hk=>by show k≠g;omega)
 obtain⟨i0,z0,Ms,Mt,Mv,Il,Yt⟩:=info_parts' Qq
 have Hi0:=AA Ms;have Hz0:=AA Mt;have Hs0:=AA Mv;have aW:=AA Il;have Nz:=AA Yt
 obtain⟨i1,hi1,hz1,hs1,hb1⟩:=info_parts EJ
 have hmk:=fun W=>JO (P:=prog) 40 5 i1 (.int .u8 0) 1 underlying40 hi1 hz1 rfl hs1 hb1 4096 4096 rfl (by omega) (by omega) W
 clear h hr Ms Mt Mv Il Yt hi1 hz1 hs1 hb1
 have HX:Hid (Iq l p= .inr (List.replicate n CB,r)):=AA (by unfold Iq;rw [h1];dsimp only;rw [h2];rfl)
 have hn:n≤64:=Rn h1
 have HC:=AA (Fj g B A c l 64 20 (.inr p) w H.out HR.out hl (by decide))
 have H1:=AA h1;have H2:=AA h2
 obtain⟨RR,hRR⟩: ∃RR,Iq l p=RR:=⟨_,rfl⟩
 rw [hRR] at HX⊢
 clear hRR h1 h2
 go_enter func83,ntmps83
 go_wp2_with fail
 refine HC.out.mono ?_
 rintro en w1 ⟨hk1,hs1,rfl⟩
 have e1:DN (.inr p) (DX l 64 20)= .inr (n,q):=H1.out
 rw [e1] at hs1⊢
 have Pt:=AA hk1;have RG:=AA hs1
 clear hk1 hs1 e1 HC
 simp only [EI]
 go_wp2_with fail
 go_loopw [4,11] (fun v i wr=> ∃(k:Nat) (A1:Option Addr) (c1:Nat) (bl:List Nat),k≤n∧i= .int .u64 k∧v= .slice A1 k c1∧aY w.heap.size wr A1 k c1 bl (List.replicate k CB)∧Keep (KN g) w wr∧Hq 146 wr g (.slice A l.length c) (.inr q)) (fun _ i _=>n-(intOf i).toNat)
 case atStart=>exact⟨0,none,0,[],Nat.zero_le _,rfl,rfl,aY.nil _ _,Pt.out,RG.out⟩
 case round=>
  obtain⟨k,A1,c1,bl,hk,rfl,rfl,hg,hkp,hs⟩:=hrel
  have HG:=AA hg;have RN:=AA hkp;have HS:=AA hs
  have UZ:=hkp.size
  have hk0:(0:Int)≤k:=by omega
  clear hg hkp hs
  by_cases hlt:k<n
  ·have hki:(k:Int)<n:=by omega
   have hmk2:=hmk wr
   have HN:Hid (jy (.int .u8 0) 4096=(CB.map bv).toArray):=AA VR
   rw [HN.out] at hmk2
   have Ir:Hid (Row ((wr.alloc (.cells (CB.map bv).toArray 5)).alloc (.cells #[.slice (some ⟨wr.heap.size,0,none⟩) 4096 4096] 40)) (wr.heap.size+1+1) (some ⟨wr.heap.size+1,0,none⟩) [jr wr.heap.size]):=AA (by
    have:=row_one (wr.alloc (.cells (CB.map bv).toArray 5)) (jr wr.heap.size) 40
    rw [show(wr.alloc (.cells (CB.map bv).toArray 5)).heap.size=wr.heap.size+1 by simp] at this
    exact this)
   clear hmk HN
   go_wp2_with (at_builtin;refine BP _ rfl _ _ 32 rfl w.heap.size 40 i0 z0 1 24 underlying32 Hi0.out Hz0.out Hs0.out aW.out Nz.out (by omega) (.slice A1 k c1) k (bl.map jr) rfl ((HG.out.own.alloc _).alloc _) _ _ 1 1 [jr wr.heap.size] rfl rfl Ir.out (by simp [Value.oneCell',jr]) (by unfold maxLen;omega) (by omega) (by simp;omega) ?_;intro A6 c6 w6 h2 h3 h4;have H2:=AA h2;have H3:=AA h3;clear h2 h3 h4)
   have iY:Below w.heap.size wr w6:=((((Below.refl w.heap.size wr).alloc UZ _).alloc (by simp;omega) _)).trans (BK ((HG.out.own.alloc _).alloc _) H3.out (by simp;omega))
   have HGN:=AA (HG.out.snoc UZ rfl H2.out H3.out)
   rw [show List.replicate k CB++ [CB]=List.replicate (k+1) CB from(List.replicate_succ' ..).symm] at HGN
   exact⟨⟨k+1,A6,c6,_,by omega,by go_num,rfl,HGN.out,RN.out.Jq iY,HS.out.under iY hgl⟩,by simp [intOf];omega⟩
  ·obtain rfl:n=k:=by omega
   have hki: ¬(n:Int)<n:=by omega
   have Wx:=AA (Fj g B A c l n 20 (.inr q) wr HS.out (Row.C8 HR.out RN.out HKN.out (by omega)) hl (by decide))
   clear hmk
   go_wp2_with fail
   refine Wx.out.mono ?_
   rintro en w2 ⟨hk2,hs2,rfl⟩
   have e2:DN (.inr q) (DX l n 20)= .inr (0,r):=H2.out
   rw [e2] at hs2⊢
   have Iu:=AA hk2;have HS2:=AA hs2
   have HG2:=AA (HG.out.kn hk2 hgl)
   clear hk2 hs2 e2 Wx
   simp only [EI]
   go_wp2_with fail
   go_loopw [21] (fun i wq=>i= .int .u64 0∧w2=wq) (fun _ _=>0)
   case atStart=>exact⟨rfl,rfl⟩
   case round=>
    obtain⟨rfl,rfl⟩:=hrel
    go_wp2_with fail
    go_ret
    rw [HX.out]
    refine⟨RN.out.trans Iu.out,HS2.out,A1,n,c1,rfl,fun vs q' h=> ?_⟩
    injection h with h;injection h with h1 h2;subst h1
    exact⟨by simp,HG2.out.reads⟩
structure RS (T:TypeId) (w:World) (g sb B:Nat) (A:Option Addr) (c:Nat) (l:List UInt8) (zs:List Value) (st:(Int×Int)⊕Nat) (cells:List Value) (W:World):Prop where
 rd:Hq T W g (.slice A l.length c) st
 box:AQ W sb 35 cells
 res:AQ W w.heap.size 35 zs
 Fb:Below w.heap.size w W
 row:Row W B A (l.map bv)
abbrev KS (g sb:Nat):Nat→Prop:=fun k=>k≠g∧k≠sb
section
variable {T:TypeId} {w:World} {g sb B:Nat} {A:Option Addr} {c:Nat} {l:List UInt8} {zs cells:List Value} {st st':(Int×Int)⊕Nat} {W W':World}
theorem RS.call (h:RS T w g sb B A c l zs st cells W) (hg:w.heap.size<g) (hs:g<sb) (hB:B≤w.heap.size) (hk:Keep (KN g) W W') (hr:Hq T W' g (.slice A l.length c) st'):RS T w g sb B A c l zs st' cells W':=
 ⟨hr,h.box.keep hk (by show sb≠g;omega),h.res.keep hk (by show w.heap.size≠g;omega),h.Fb.trans (hk.below h.Fb.size (fun k hk=>by show k≠g;omega)),Row.C8 h.row hk (fun k hk=>by show k≠g;omega) (Nat.le_trans hB h.Fb.size)⟩
theorem RS.set (h:RS T w g sb B A c l zs st cells W) (hg:w.heap.size<g) (hs:g<sb) (hB:B≤w.heap.size) (i:Nat) (u:Value):RS T w g sb B A c l zs st (cells.set i u) (W.setCell ⟨sb,i,none⟩ u):=by
 have hk:Keep (KN sb) W (W.setCell ⟨sb,i,none⟩ u):=Iy i u
 exact⟨h.rd.keep hk (by show g≠sb;omega),h.box.set i u,h.res.keep hk (by show w.heap.size≠sb;omega),h.Fb.setCell (by show w.heap.size≤sb;omega) u,Row.C8 h.row hk (fun k hk=>by show k≠sb;omega) (Nat.le_trans hB h.Fb.size)⟩
theorem RS.under (h:RS T w g sb B A c l zs st cells W) (hg:w.heap.size<g) (hs:g<sb) (hB:B≤w.heap.size) {b:Nat} (hb:Below b W W') (hlt:sb<b):RS T w g sb B A c l zs st cells W':=
 ⟨h.rd.under hb (by omega),h.box.below hb hlt,h.res.below hb (by omega),h.Fb.trans ⟨hb.os,hb.tape,hb.output,hb.size,fun k hk=>hb.block k (by omega)⟩,h.row.below' hb (by omega)⟩
end
def wR {α:Type} (r:Rd α) (W:World) (lo hi:Nat) (A:Option Addr) (n c:Nat) (x:Ju (List α)):Prop:=hi≤W.heap.size∧ ∀vs q,x= .inr (vs,q)→n=vs.length∧(r.sl false).R W lo hi [.slice A n c] vs
theorem wR.keep {α:Type} {r:Rd α} {W W':World} {lo hi:Nat} {A:Option Addr} {n c:Nat} {x:Ju (List α)} {K:Nat→Prop} (h:wR r W lo hi A n c x) (hk:Keep K W W') (hK: ∀k,lo≤k→k<hi→K k):wR r W' lo hi A n c x:=
 ⟨Nat.le_trans h.1 hk.size,fun vs q hx=>⟨(h.2 vs q hx).1,Rd.C8 (h.2 vs q hx).2 hk h.1 hK⟩⟩
theorem iy.ls {α:Type} {r:Rd α} {w w':World} {x:Ju (List α)} {en:Ending} (h:iy r w x en w'): ∃A n c,en= .returned (.slice A n c)∧wR r w' w.heap.size w'.heap.size A n c x:=by
 obtain⟨A,n,c,h1,h2⟩:=h
 exact⟨A,n,c,h1,Nat.le_refl _,h2⟩
theorem dW {g sb:Nat} {W W':World} (h:Keep (KN g) W W'):Keep (KS g sb) W W':=h.mono (fun k hk=>hk.1)
theorem aZ {g sb:Nat} {W:World} (i:Nat) (u:Value):Keep (KS g sb) W (W.setCell ⟨sb,i,none⟩ u):=(Keep.refl _ _).setCell (fun h=>h.2 rfl) u
theorem Pn {l:List UInt8} {most:Nat} {great:Int} {st:(Int×Int)⊕Nat}:EI 0 (DN st (DX l most great))≤most:=by
 cases st with
 | inl e=>exact Nat.zero_le _
 | inr p=>
  cases h:DX l most great p with
  | inl e=>show EI 0 (DX l most great p)≤most;rw [h];exact Nat.zero_le _
  | inr x=>obtain⟨v,q⟩:=x;show EI 0 (DX l most great p)≤most;rw [h];exact Rn h
def FSt (l:List UInt8) (N k hb:Nat) (RR:Ju (List Jy)) (W:World) (Af:Option Addr) (cf:Nat) (fc:List Value):(Int×Int)⊕Nat→Prop
 | .inr q=> ∃acc,GX Od 91 hb W Af k cf fc acc∧Jg l (N-k) acc q=RR
 | .inl e=>RR= .inl e
theorem Uk {l:List UInt8} {n k q:Nat} {acc:List Jy} (hk:k<n):Jg l (n-k) acc q=match OE l q with
 | .inl e=> .inl e
 | .inr (f,q2)=>Jg l (n-(k+1)) (acc++ [f]) q2:=by
 obtain⟨d,hd⟩: ∃d,n-k=d+1:=⟨n-k-1,by omega⟩
 rw [hd,show n-(k+1)=d by omega]
 rfl
def wT (l:List UInt8) (st:(Int×Int)⊕Nat):Ju Nat:=DN st (DX l 127 17)
def rJ (l:List UInt8) (st:(Int×Int)⊕Nat):Ju Nat:=DN (posR (wT l st)) (DX l 2047 17)
def zH (l:List UInt8) (st:(Int×Int)⊕Nat):Ju (List Nat):=DN (posR (rJ l st)) (II l 64)
def fx4 (l:List UInt8) (st:(Int×Int)⊕Nat):Ju (List Nat):=DN (posR (zH l st)) (II l 256)
theorem ABK {l:List UInt8} {q:Nat}:wT l (.inr q)=fr1 l q∧rJ l (.inr q)=fr2 l q∧zH l (.inr q)=zX l q∧fx4 l (.inr q)=fr4 l q:=by
 have h1:wT l (.inr q)=fr1 l q:=rfl
 have h2:rJ l (.inr q)=fr2 l q:=by unfold rJ;rw [h1];exact FZ _ _
 have h3:zH l (.inr q)=zX l q:=by unfold zH;rw [h2];exact FZ _ _
 have h4:fx4 l (.inr q)=fr4 l q:=by unfold fx4;rw [h3];exact FZ _ _
 exact⟨h1,h2,h3,h4⟩
theorem Gg {α β:Type} {x:Ju α} {f:Nat→Ju β} {y:β×Nat} (h:FL x f= .inr y): ∃a p,x= .inr (a,p)∧f p= .inr y:=by
 cases x with
 | inl e=>cases h
 | inr z=>obtain⟨a,p⟩:=z;exact⟨a,p,rfl,h⟩
theorem Et {w:World} {g i:Nat} {u:Value}:Below g w (w.setCell ⟨g,i,none⟩ u):=(Below.refl g w).setCell (p:=⟨g,i,none⟩) (Nat.le_refl g) u
theorem FSt.next {l:List UInt8} {N k hb g sb:Nat} {RR:Ju (List Jy)} {wr y7 y9:World} {Af A9 Al At:Option Addr} {cf c9 n1 n2 ml cl mt ct lo3 hi3 lo5 hi5:Nat} {fc:List Value} {st:(Int×Int)⊕Nat} {u:Value} (h:FSt l N k hb RR wr Af cf fc st) (hk:k<N) (hgh:g<hb) (hsh:sb<hb) (hz:hb≤wr.heap.size)
 (hKE:Keep (KN g) wr y7) (hn1:EI 0 (wT l st)=n1) (hn2:EI 0 (rJ l st)=n2) (h1:n1≤127) (h2:n2≤2047) (hl3:wR Rd.u64 y7 lo3 hi3 Al ml cl (zH l st)) (hlo3:wr.heap.size≤lo3) (hl4:wR Rd.u64 y7 lo5 hi5 At mt ct (fx4 l st)) (ABL:wr.heap.size≤lo5)
 (hol: ∀k',(Value.slice Af k cf).ownBlock=some k'→hb≤k'∧k'<wr.heap.size) (ho:y9.ownsRow hb 91 4 (.slice A9 (k+1) c9) (k+1) (fc++ [.int .i64 n1,.int .i64 n2,.slice Al ml cl,.slice At mt ct]))
 (hg9:(y7.alloc (.cells #[.int .i64 n1,.int .i64 n2,.slice Al ml cl,.slice At mt ct] 91)).grownBy y9 (Value.slice Af k cf).ownBlock)
 (hat:(Value.slice A9 (k+1) c9).ownBlock=(Value.slice Af k cf).ownBlock∨(Value.slice A9 (k+1) c9).ownBlock=some (y7.alloc (.cells #[.int .i64 n1,.int .i64 n2,.slice Al ml cl,.slice At mt ct] 91)).heap.size):
 FSt l N (k+1) hb RR (y9.setCell ⟨sb,0,none⟩ u) A9 c9 (fc++ [.int .i64 n1,.int .i64 n2,.slice Al ml cl,.slice At mt ct]) (posR (fx4 l st)):=by
 cases st with
 | inl e=>exact h
 | inr q=>
  obtain⟨acc,hG,hgo⟩:=h
  obtain⟨x1,x2,x3,x4⟩:=ABK (l:=l) (q:=q)
  rw [x1] at hn1
  rw [x2] at hn2
  rw [x3] at hl3
  rw [x4] at hl4⊢
  have hnx:=Uk (l:=l) (q:=q) (acc:=acc) hk
  rw [hgo] at hnx
  cases h4:fr4 l q with
  | inl e=>
   have:OE l q= .inl e:=by unfold OE;rw [h4]
   rw [this] at hnx
   exact hnx
  | inr z=>
   obtain⟨vs,q'⟩:=z
   have hfr:OE l q= .inr (⟨(EI 0 (fr1 l q):Nat),(EI 0 (fr2 l q):Nat),EI [] (zX l q),vs⟩,q'):=by unfold OE;rw [h4]
   rw [hfr,hn1,hn2] at hnx
   obtain⟨lv,q3,h3,_⟩:=Gg (f:=II l 256) (show FL (zX l q) (II l 256)= .inr (vs,q')from h4)
   obtain⟨e3,r3⟩:=hl3.2 lv q3 h3
   obtain⟨e4,r4⟩:=hl4.2 vs q' h4
   rw [h3] at hnx
   have hz7:=hKE.size
   have Mf:Below y7.heap.size y7 (y7.alloc (.cells #[.int .i64 n1,.int .i64 n2,.slice Al ml cl,.slice At mt ct] 91)):=(Below.refl _ _).alloc (Nat.le_refl _) _
   have hr7:Od.R y7 wr.heap.size y7.heap.size [.int .i64 n1,.int .i64 n2,.slice Al ml cl,.slice At mt ct] ⟨(n1:Int),(n2:Int),lv,vs⟩:=
    FV.2 ⟨_,_,rfl,⟨by show(-9223372036854775808:Int)≤n1;omega,by show(n1:Int)<_;omega⟩,⟨by show(-9223372036854775808:Int)≤n2;omega,by show(n2:Int)<_;omega⟩,Rd.more _ hlo3 hl3.1 r3,Rd.more _ ABL hl4.1 r4⟩
   refine⟨acc++ [⟨(n1:Int),(n2:Int),lv,vs⟩],?_,hnx.symm⟩
   have hs:=((hG.kn hKE hgh).below Mf).snoc (by simp;omega) (Rd.below hr7 Mf (Nat.le_refl _)) hz (by simp) (fun g' hg'=> .inl (hol g' hg').2) ho hg9 hat
   exact hs.kn (Iy 0 u) hsh
theorem dX {l:List UInt8} {least most p a q:Nat} (h:L6 l least most p= .inr (a,q)):a≤most:=by
 unfold L6 at h
 split at h
 ·cases h
 ·split at h
  ·cases h
  ·injection h with h;injection h with h1 h2;omega
structure ABM (l:List UInt8) (acc:List Jy) (v1 v2:Int) (n3 n4:Nat) (v5 v6:List Nat) (v7:List (List UInt8)) (p5 p6 p7:Nat):Prop where
 e5:kP l= .inr (v5,p5)
 e6:bR l= .inr (v6,p6)
 e7:T9 l= .inr (v7,p7)
 b1:0≤v1∧v1≤3
 b2:0≤v2∧v2≤6
 st:R8 l=⟨acc,v6,v7,n4,v1,v5,v2,n3⟩
theorem ABN {l:List UInt8} {acc:List Jy} {p n3 n4:Nat} {v1 v2:Int} (h:jU l= .inr (acc,p)) (hv1: ∀(a q:Nat),qh l= .inr (a,q)→v1=a) (hv2: ∀(a q:Nat),kM l= .inr (a,q)→v2=a) (h3:EI 0 (jT l)=n3) (h4:EI 0 (kN l)=n4):
 ∃v5 v6 v7 p5 p6 p7,ABM l acc v1 v2 n3 n4 v5 v6 v7 p5 p6 p7:=by
 obtain⟨v7,p7,e7,_⟩:=Gg (show FL (T9 l) (O1 l)= .inr (acc,p)from h)
 obtain⟨v6,p6,e6,_⟩:=Gg (show FL (bR l) (Iq l)= .inr (v7,p7)from e7)
 obtain⟨v5,p5,e5,_⟩:=Gg (show FL (kP l) (II l 64)= .inr (v6,p6)from e6)
 obtain⟨a4,p4,e4,_⟩:=Gg (show FL (kN l) (II l 8)= .inr (v5,p5)from e5)
 obtain⟨a3,p3,e3,_⟩:=Gg (show FL (jT l) (DX l 9223372036854775807 17)= .inr (a4,p4)from e4)
 obtain⟨a2,p2,e2,_⟩:=Gg (show FL (kM l) (DX l 4611686018427387904 17)= .inr (a3,p3)from e3)
 obtain⟨a1,p1,e1,f2⟩:=Gg (show FL (qh l) (L6 l 0 6)= .inr (a2,p2)from e2)
 have b1:=dX (show L6 l 1 3 5= .inr (a1,p1)from e1)
 have b2:=dX f2
 have g1:=hv1 a1 p1 e1
 have g2:=hv2 a2 p2 e2
 have st:R8 l=⟨EI [] (jU l),EI [] (bR l),EI [] (T9 l),(EI 0 (kN l):Nat),(EI 0 (qh l):Nat),EI [] (kP l),(EI 0 (kM l):Nat),(EI 0 (jT l):Nat)⟩:=rfl
 rw [h,e6,e7,h4,e1,e5,e2,h3] at st
 exact⟨v5,v6,v7,p5,p6,p7,e5,e6,e7,by omega,by omega,by rw [st,g1,g2];rfl⟩
theorem pR {w:World} {g:Nat} (cs:Array Value) (h:g=g):Keep (KN g) w (w.setRow g cs):=
 ⟨rfl,rfl,rfl,by rw [size_setRow];exact Nat.le_refl _,fun k _ hk=>setRow_other _ _ _ _ hk⟩
theorem jB {l:List UInt8} {acc:List Jy} {v1 v2:Int} {n3 n4 N cf m5 m6 m7 c5 c6 c7 p5 p6 p7 base hb lo5 hi5 lo6 hi6 lo7 hi7:Nat} {Af A5 A6 A7:Option Addr} {v5 v6:List Nat} {v7:List (List UInt8)} {W:World} (h:ABM l acc v1 v2 n3 n4 v5 v6 v7 p5 p6 p7) (h3:n3≤4611686018427387904) (h4:n4≤9223372036854775807)
 (hb0:base≤hb) (b5:base≤lo5) (b6:base≤lo6) (b7:base≤lo7) (fG:(Od.sl false).R W hb W.heap.size [.slice Af N cf] acc) (hN:N=acc.length) (f5:wR Rd.u64 W lo5 hi5 A5 m5 c5 (kP l)) (f6:wR Rd.u64 W lo6 hi6 A6 m6 c6 (bR l)) (f7:wR (Rd.u8.sl false) W lo7 hi7 A7 m7 c7 (T9 l)):
 K7.R W base W.heap.size [.slice Af N cf,.slice A6 m6 c6,.slice A7 m7 c7,.int .i64 n4,.int .i8 v1,.slice A5 m5 c5,.int .i8 v2,.int .i64 n3] (R8 l):=by
 rw [h.st]
 have b1:=h.b1
 have b2:=h.b2
 exact CU.2 ⟨_,_,_,_,rfl,Rd.more _ hb0 (Nat.le_refl _) fG,Rd.more _ b6 f6.1 (f6.2 _ _ h.e6).2,Rd.more _ b7 f7.1 (f7.2 _ _ h.e7).2,⟨by show(-9223372036854775808:Int)≤n4;omega,by show(n4:Int)<_;omega⟩,⟨by show(-128:Int)≤v1;omega,by show v1<128;omega⟩,Rd.more _ b5 f5.1 (f5.2 _ _ h.e5).2,⟨by show(-128:Int)≤v2;omega,by show v2<128;omega⟩,⟨by show(-9223372036854775808:Int)≤n3;omega,by show(n3:Int)<_;omega⟩⟩
end Go.Proofs.YtlagonfamllgjaaGreatDoor
