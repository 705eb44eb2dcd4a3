/- Part 20 of the proof: ModI ModJ ModK -/
import Derived.Laws.IdiomStrings
import Derived.Lib.SlBytesConst
import Derived.Test.YtejbcledkhioeaaGreatDoorQ10
import Derived.Test.YtejbcledkhioeaaGreatDoorQ19
namespace Go.Proofs.YtejbcledkhioeaaGreatDoor
set_option linter.unusedVariables false
set_option linter.unusedSimpArgs false
set_option maxRecDepth 100000
set_option maxHeartbeats 4000000
open Go.RowKit Tryz
section
attribute [local irreducible] DU
theorem VI {m:AP} {k:Nat} {f:GR} (hx:m.fns[k]?=some f):Ye m k=II (Ae (decide (0≤f.t∧f.t<m.types.length)) 30) (II (Bq f.loc (64-J3 m f.t)) (II (Ae (decide (f.code.length≤2048)) 20) (II (Ae (decide (LB m (k+1)≤16384)) 20) (Ad f.code.length (S9 f))))):=by
 unfold Ye;rw [hx]
theorem Q_ {m:AP} {k:Nat} {f:GR} (h0:Ae (decide (m.fns.length≤128)) 20=0) (he:Ad k (Ye m)=0) (hx:m.fns[k]?=some f) {v:Int} (hv:v≠0) (hf:Ye m k=v):I_ m=v:=by
 have h1:TS m=v:=by
  unfold TS
  rw [AZ h0,IK he (by rw [hf];exact hv) _ (List.getElem?_eq_some_iff.1 hx).1,hf]
 unfold I_
 rw [DR (by rw [h1];exact hv),h1]
theorem bO {m:AP} (hf:TS m=0) {v:Int} (hv:v≠0) (h:v=Ae (decide (m.dat.length≤64)) 20:=by rfl):I_ m=v:=by
 subst h
 have h1:QB m=Ae (decide (m.dat.length≤64)) 20:=by unfold QB;rw [DR hv]
 unfold I_
 rw [AZ hf,DR (by rw [h1];exact hv),h1]
theorem SV {m:AP} (hf:TS m=0) (h0:Ae (decide (m.dat.length≤64)) 20=0) {k:Nat} {d:EU} (he:Ad k (Nh m)=0) (hx:m.dat[k]?=some d) {v:Int} (hv:v≠0) (hd:Nh m k=v):I_ m=v:=by
 have h1:QB m=v:=by
  unfold QB
  rw [AZ h0,IK he (by rw [hd];exact hv) _ (List.getElem?_eq_some_iff.1 hx).1,hd]
 unfold I_
 rw [AZ hf,DR (by rw [h1];exact hv),h1]
theorem bP {m:AP} (hf:TS m=0) (hd:QB m=0) {v:Int} (hv:v≠0) (h:v=Ae (decide (m.AU.length≤64)) 20:=by rfl):I_ m=v:=by
 subst h
 have h1:Ua m=Ae (decide (m.AU.length≤64)) 20:=by unfold Ua;rw [DR hv]
 unfold I_
 rw [AZ hf,AZ hd,h1]
theorem Wn {m:AP} (hf:TS m=0) (hd:QB m=0) (h0:Ae (decide (m.AU.length≤64)) 20=0) {k:Nat} {x:Jy} (he:Ad k (Po m)=0) (hx:m.AU[k]?=some x) {v:Int} (hv:v≠0) (hE:Po m k=v):I_ m=v:=by
 have h1:Ua m=v:=by
  unfold Ua
  rw [AZ h0,IK he (by rw [hE];exact hv) _ (List.getElem?_eq_some_iff.1 hx).1,hE]
 unfold I_
 rw [AZ hf,AZ hd,h1]
def stE (m:AP) (k:Nat) (d:EU):Int:=II (Ae (decide (0≤d.at_∧d.at_≤m.first*4096)) 17) (if k=0 then 0 else match (m.dat.take k)[k-1]? with | none=>0 | some y=>Ae (decide (y.at_+y.b.length<d.at_)) 18)
theorem RA {m:AP} {k:Nat} {d:EU} (hx:m.dat[k]?=some d):Nh m k=II (stE m k d) (II (Ae (decide ((d.b.length:Int)≤m.first*4096-d.at_)) 13) (Ae (decide (0<d.b.length)) 17)):=by
 unfold Nh stE
 rw [hx,EG]
 by_cases hk:k=0
 ·subst hk;rfl
 ·dsimp only;rw [if_neg hk,if_neg hk,List.getElem?_take,if_pos (by omega)];rfl
theorem yt {m:AP} (hf0:0≤m.first) (hf1:m.first≤64) {k:Nat} (h:Ad k (Nh m)=0) (hk:k≤m.dat.length): ∀y∈m.dat.take k,0≤y.at_∧y.at_≤262144∧y.b.length≤262144:=by
 intro y hy
 obtain⟨j,hj⟩:=List.getElem?_of_mem hy
 rw [List.getElem?_take] at hj
 split at hj
 ·rename_i hlt
  have h1:=Ca h j hlt
  rw [RA hj] at h1
  obtain⟨a,b⟩:=AQ h1
  obtain⟨b,_⟩:=AQ b
  have a:=of_decide_eq_true (Bw (by decide) (AQ a).1)
  have b:=of_decide_eq_true (Bw (by decide) b)
  omega
 ·cases hj
theorem Xj {m:AP} {k:Nat} {x:Jy} (hx:m.AU[k]?=some x):Po m k=II (II (Ql x.n) (Ni (m.AU.take k) k x.n)) (Ae (decide (0≤x.f∧x.f<m.fns.length)) 30):=by
 unfold Po Ni
 rw [hx,EG]
 by_cases hk:k=0
 ·subst hk;rfl
 ·dsimp only;rw [if_neg hk,if_neg hk,List.getElem?_take,if_pos (by omega)]
theorem VJ {f:GR} {j:Nat} {x:DL} (hx:f.code[j]?=some x):S9 f j=Ai x:=by unfold S9;rw [hx]
theorem oK {x:DL} (h:Ai x=0):0<(Iw x).length:=by
 unfold Ai at h
 unfold Iw
 cases hr:DU x.op.toNat with
 | none=>rw [hr] at h;cases h
 | some r=>simp
theorem Ny {m:AP} {k:Nat} {f:GR} (hx:m.fns[k]?=some f):LB m (k+1)=LB m k+f.code.length:=UY (fun f:GR=>f.code.length) hx
theorem oL {m:AP} (h:Ap m≤2147483647) (k:Nat):LB m k≤2147483647:=by
 have h1:=QM (fun f:GR=>f.code.length) m.fns k
 have h2:A_ (fun f:GR=>f.code.length) m.fns≤A_ J2 m.fns:=by
  unfold A_
  induction m.fns with
  | nil=>simp
  | cons a l ih=>simp only [List.map_cons,List.sum_cons];unfold J2 Ng at*;omega
 unfold Ap at h
 unfold LB
 omega
theorem Keep.cell {K:Nat→Prop} {w w':World} (h:Keep K w w') {p:Addr} (hp:p.block<w.heap.size) (hK:K p.block):w'.cell? p=w.cell? p:=by
 have hb:=h.block p.block hp hK
 simp [World.cell?,hb]
def fnC (A:Option Addr) (c:Nat) (f:GR):List Value:= [.int .i64 f.t,.string f.loc,.slice A f.code.length c]
structure ES (w wr:World) (base g gs gm:Nat) (K K1:Nat→Prop) (m:AP) (cs:List Value) (all:Nat) (L:List UInt8):Prop where
 kp:Keep K w wr
 box:AL wr gm 29 cs
 hd:Hd wr base g gs K1 m.first all m.types L
 hb:base≤wr.heap.size
structure yu (m:AP):Prop where
 sz:Ap m≤2147483647
 num:Kc m
 par: ∀t∈m.types,t.p.size≤8
 f0:0≤m.first
 f1:m.first≤64
theorem ES.Ej {w wr wr':World} {base g gs gm:Nat} {K K1:Nat→Prop} {m:AP} {cs:List Value} {all:Nat} {L:List UInt8} (h:ES w wr base g gs gm K K1 m cs all L) (hb:Below wr.heap.size wr wr'):ES w wr' base g gs gm K K1 m cs all L:=
 ⟨h.kp.all hb,h.box.below hb h.box.lt,h.hd.Ej hb,Nat.le_trans h.hb hb.size⟩
theorem ES.to {w wr wr':World} {base g gs gm:Nat} {K K1:Nat→Prop} {m:AP} {cs:List Value} {all all':Nat} {L L':List UInt8} (h:ES w wr base g gs gm K K1 m cs all L) (hk:Keep K1 wr wr') (hd:Hd wr' base g gs K1 m.first all' m.types L') (hm: ∀k,K k→K1 k) (hg:K1 gm):ES w wr' base g gs gm K K1 m cs all' L':=
 ⟨h.kp.trans (hk.mono hm),h.box.keep hk hg,hd,Nat.le_trans h.hb hk.size⟩
theorem ES.yw {w wr wr':World} {base g gs gm:Nat} {K K1:Nat→Prop} {m:AP} {cs:List Value} {all:Nat} {L:List UInt8} (h:ES w wr base g gs gm K K1 m cs all L) (hb:Below wr.heap.size wr wr') (hl:wr.heap.size<wr'.heap.size):ES w wr' base g gs gm K (fun j=>K1 j∨j=wr.heap.size) m cs all L:=
 ⟨h.kp.all hb,h.box.below hb h.box.lt,h.hd.box hb hl,Nat.le_trans h.hb hb.size⟩
theorem ES.less {w wr:World} {base g gs gm:Nat} {K K1 K2:Nat→Prop} {m:AP} {cs:List Value} {all:Nat} {L:List UInt8} (h:ES w wr base g gs gm K K2 m cs all L) (hk: ∀k,K1 k→K2 k):ES w wr base g gs gm K K1 m cs all L:=
 ⟨h.kp,h.box,h.hd.less hk,h.hb⟩
end
section
attribute [local irreducible] DU
theorem t_ (cs:List Value) (hi base g gs:Nat) (K:Nat→Prop) (m:AP) (L:List UInt8) (w:World) (h:JQ.R w 0 hi cs m) (hhi:hi≤w.heap.size) (hK: ∀k,k<hi→K k) (hd:Hd w base g gs K m.first 0 m.types L) (hbase:base≤w.heap.size) (hin:yu m) (hL:L.length≤300000000000)
 (htab: ∀w',Below hi w w'→Lib.TabIs prog w' "strings.asciiSpace" .u8 Lib.asciiSpaceTab):
 Calls prog 67 #[.pointer (some ⟨g,0,none⟩),.agg cs.toArray] w fun e w'=>Keep K w w'∧Oo (I_ m) e (∃all:Nat,Hd w' base g gs K m.first all m.types (L++Oe m)):=by
 generalize Wi:I_ m=EE
 have HE:=AA Wi
 clear Wi
 obtain⟨v1,v2,v3,v4,v5,v6,rfl,h1,h2,h3,hf63,hm63,h4,h5,h6⟩:=EK.1 h
 obtain⟨A1,c1,rfl⟩:=AX h1
 obtain⟨A2,c2,rfl⟩:=AX h2
 obtain⟨A3,c3,rfl⟩:=AX h3
 obtain⟨A4,c4,rfl⟩:=AX h4
 obtain⟨A5,c5,rfl⟩:=AX h5
 obtain⟨A6,c6,rfl⟩:=AX h6
 have H4:=AA h4;have H5:=AA h5;have H6:=AA h6;have Xg:=AA hK;have OM:=AA hin;have HTAB:=AA htab;have HD0:=AA hd
 clear h h1 h2 h3 h4 h5 h6 hK hin htab hd hm63
 go_enter func67,ntmps67
 go_wp2_with fail
 generalize hw1:w.alloc _=w1
 have hb1:Below w.heap.size w w1:=by rw [←hw1];exact(Below.refl _ _).alloc (Nat.le_refl _) _
 have hbx:AL w1 w.heap.size 29 (NJ A1 A2 A3 A4 A5 A6 c1 c2 c3 c4 c5 c6 m):=by rw [←hw1];exact AL.new w 29 (NJ A1 A2 A3 A4 A5 A6 c1 c2 c3 c4 c5 c6 m)
 have hdd:=HD0.out.box hb1 (by rw [←hw1];simp)
 generalize hK1:(fun k=>K k∨k=w.heap.size)=K1 at*
 have HKK:Hid ((∀k,K k→K1 k)∧K1 w.heap.size):=AA (by rw [←hK1];exact⟨fun k h=> .inl h,.inr rfl⟩)
 have HB1:Hid (ES w w1 base g gs w.heap.size K K1 m (NJ A1 A2 A3 A4 A5 A6 c1 c2 c3 c4 c5 c6 m) 0 L):=AA ⟨Keep.Aq hb1,hbx,hdd,Nat.le_trans hbase hb1.size⟩
 have hlf:m.fns.length≤2147483647:=by have:=OM.out.sz;unfold Ap at this;omega
 clear hw1 hb1 hbx hdd hK1 HD0
 have hcount:=NI m.fns.length 128 (by omega) HB1.out.hd (by omega) HB1.out.hb
 refine hcount.mono ?_
 clear hcount
 rintro e w2 ⟨hk,hcase⟩
 rcases hcase with⟨h0,rfl,hd⟩ | ⟨h0,rfl⟩
 case inr=>
  have H0:=AA h0;clear h0
  have UE:=AA (HB1.out.kp.trans (hk.mono HKK.out.1))
  go_wp2_with fail
  have hX:EE=Ae (decide (m.fns.length≤128)) 20:=by
   rw [←HE.out]
   have:TS m=Ae (decide (m.fns.length≤128)) 20:=by unfold TS;rw [DR H0.out]
   unfold I_
   rw [DR (by rw [this];exact H0.out),this]
  exact⟨rfl,UE.out,.inr ⟨by rw [hX];exact H0.out,by rw [hX]⟩⟩
 have jW:=AA h0
 have HB2:=AA (HB1.out.to (all':=0) hk hd HKK.out.1 HKK.out.2)
 clear h0 hk hd HB1
 have hx5:=HB2.out.box.q 5 rfl
 go_upto_block 0 with fail
 go_cut [] (fun wx=>ES w wx base g gs w.heap.size K K1 m (NJ A1 A2 A3 A4 A5 A6 c1 c2 c3 c4 c5 c6 m) (LB m m.fns.length) (L++(enc m.fns.length++m.fns.flatMap XF))∧Ad m.fns.length (Ye m)=0)
 case first=>
  clear hx5
  go_wp2_with fail
  go_loopw [22] (fun i wr=> ∃k:Nat,k≤m.fns.length∧i= .int .i64 k∧ES w wr base g gs w.heap.size K K1 m (NJ A1 A2 A3 A4 A5 A6 c1 c2 c3 c4 c5 c6 m) (LB m k) (L++(enc m.fns.length++(m.fns.take k).flatMap XF))∧Ad k (Ye m)=0)
   (fun i _=>m.fns.length-(intOf i).toNat)
  case atStart=>exact⟨0,Nat.zero_le _,rfl,by simpa [LB,A_] using HB2.out,rfl⟩
  case round=>
   obtain⟨k,hk,rfl,hbr,her⟩:=hrel
   have Py:=AA hbr;have PW:=AA her
   clear hbr her
   by_cases hltk:k<m.fns.length
   ·obtain⟨f,hx⟩: ∃f,m.fns[k]?=some f:=⟨_,List.getElem?_eq_getElem hltk⟩
    obtain⟨b,o,A_c,c_c,rfl,_,Nw,hd0,hd1,hd2,ABL,hloc,hcode⟩:=UQ H4.out hx
    have hbw:b<w.heap.size:=Nat.lt_of_lt_of_le Nw hhi
    have hc0':=(Py.out.kp.cell (p:=⟨b,o+k*3,none⟩) hbw (Xg.out b Nw)).trans hd0
    have hc1':=(Py.out.kp.cell (p:=⟨b,o+k*3+1,none⟩) hbw (Xg.out b Nw)).trans hd1
    have hc2':=(Py.out.kp.cell (p:=⟨b,o+k*3+2,none⟩) hbw (Xg.out b Nw)).trans hd2
    have ABM:=AA hcode
    have Hx:=AA hx
    have hk0:(0:Int)≤k:=by omega
    have Vy:Hid ((L++(enc m.fns.length++(m.fns.take k).flatMap XF)).length≤390194315000):=AA (by
     have h1:=dV OM.out.num OM.out.sz m.fns.length k hlf
     have:=OM.out.sz
     rw [List.length_append];omega)
    have hz0:=Py.out.box.q 0 rfl
    have hzl:w.heap.size<wr.heap.size:=Py.out.box.lt
    clear hx hcode hd0 hd1 hd2
    go_wp2_with fail
    generalize hw3:wr.alloc _=w3
    have hb3:Below wr.heap.size wr w3:=by rw [←hw3];exact(Below.refl _ _).alloc (Nat.le_refl _) _
    have HB3:=AA (Py.out.yw hb3 (by rw [←hw3];simp))
    have Rv:Hid (AL w3 wr.heap.size 56 (fnC A_c c_c f)):=by rw [←hw3];exact AA (AL.new wr 56 (fnC A_c c_c f))
    generalize hK2:(fun j=>K1 j∨j=wr.heap.size)=K2 at HB3
    have E8:Hid ((∀j,K1 j→K2 j)∧K2 wr.heap.size∧(∀j,K j→K2 j)∧K2 w.heap.size):=AA (by rw [←hK2];exact⟨fun j h=> .inl h,.inr rfl,fun j h=> .inl (HKK.out.1 j h),.inl HKK.out.2⟩)
    generalize Z6:L++(enc m.fns.length++(m.fns.take k).flatMap XF)=LL at*
    have wL:=AA Z6
    clear hw3 hb3 hK2 hc0' hc1' hc2' Z6 hz0
    have hci:=VB f.t m.types.length ABL.2 HB3.out.hd (by have:=Vy.out;omega) HB3.out.hb
    generalize oM:Ae (decide (0≤f.t∧f.t<m.types.length)) 30=v30 at hci
    have HV:=AA oM
    clear oM
    refine hci.mono ?_
    clear hci
    rintro e w4 ⟨hk4,hcase⟩
    rcases hcase with⟨fI,rfl,hd4⟩ | ⟨fI,rfl⟩
    case inr=>
     have uD:=AA fI
     have jU:=AA (HB3.out.kp.trans (hk4.mono E8.out.2.2.1))
     have hX:Hid (EE=v30):=AA (by rw [←HE.out];exact Q_ jW.out PW.out Hx.out fI (by rw [VI Hx.out,HV.out,DR fI]))
     clear fI hk4
     go_wp2_with fail
     exact⟨rfl,jU.out,.inr ⟨by rw [hX.out];exact uD.out,by rw [hX.out]⟩⟩
    have uD:Hid (Ae (decide (0≤f.t∧f.t<m.types.length)) 30=0):=AA (by rw [HV.out];exact fI)
    have J9:=AA (HB3.out.to hk4 hd4 E8.out.2.2.1 E8.out.2.2.2)
    have Ta:=AA (Rv.out.keep hk4 E8.out.2.1)
    have hft:=of_decide_eq_true (Bw (by decide) uD.out)
    obtain⟨t,ht⟩:=Int.eq_ofNat_of_zero_le hft.1
    obtain⟨x,hxt⟩: ∃x,m.types[t]?=some x:=⟨_,List.getElem?_eq_getElem (by omega)⟩
    have Hxt:Hid (m.types[t]?=some x∧J3 m f.t=x.p.size):=AA ⟨hxt,by unfold J3;rw [ht];simp [hxt]⟩
    have hp8:=OM.out.par x (List.mem_of_getElem? hxt)
    have hroom:=tX t x (J9.out.Ej (show Below w4.heap.size w4 w4.drew from⟨rfl,rfl,rfl,Nat.le_refl _,fun _ _=>rfl⟩)).hd hxt (by omega)
    rw [←ht] at hroom
    have wN:=AA (hroom.mono fun e w' h=>(⟨h.2,h.1⟩:e=_∧w'=w4.drew))
    have ZX:Hid ((enc f.t.toNat).length≤10):=AA (LW ABL.2)
    have hm0:=Ta.out.q 0 rfl
    have hm1:=Ta.out.q 1 rfl
    clear fI hk4 hd4 hft ht hxt hroom HB3 Rv
    go_wp2_with fail
    go_still_tail 11,(by kernel_rfl)
    repeat still_step
    still_call wN.out
    repeat still_step
    try refine wpStill_nil ?_
    change wpList _ _ _ _ _ w4.drew
    have ABN:=AA (J9.out.Ej (show Below w4.heap.size w4 w4.drew from⟨rfl,rfl,rfl,Nat.le_refl _,fun _ _=>rfl⟩))
    have yx:Hid (AL w4.drew wr.heap.size 56 (fnC A_c c_c f)):=AA Ta.out
    clear wN J9 Ta hm0 hm1
    generalize w4.drew=w5 at*
    go_wp2_with fail
    refine(QX _ f.loc (64-x.p.size) hloc _).mono ?_
    rintro e w6 ⟨hb6,hcase⟩
    have Lr:=AA (ABN.out.Ej hb6);have jV:=AA (yx.out.below hb6 yx.out.lt)
    clear hb6 ABN yx
    rw [←Hxt.out.2] at hcase
    rcases hcase with⟨h8,rfl⟩ | ⟨h8,rfl⟩
    case inr=>
     have H8:=AA h8
     have hX:Hid (EE=Bq f.loc (64-J3 m f.t)):=AA (by rw [←HE.out];exact Q_ jW.out PW.out Hx.out h8 (by rw [VI Hx.out,AZ uD.out,DR h8]))
     clear h8
     go_wp2_with fail
     exact⟨rfl,Lr.out.kp,.inr ⟨by rw [hX.out];exact H8.out,by rw [hX.out]⟩⟩
    have H8:=AA h8;clear h8
    have hm1:=jV.out.q 1 rfl
    have hlocsz:f.loc.size≤64:=by have:=(Oq H8.out).1;omega
    have y9:=AA (Ja (s:=f.loc) (by omega))
    go_wp2_with fail
    have hct:=Q6 f.loc (by omega) Lr.out.hd (by have:=Vy.out;have:=ZX.out;rw [List.length_append];omega) Lr.out.hb
    refine hct.mono ?_
    clear hct
    rintro e w7 ⟨rfl,QH,hd7⟩
    have bD:=AA (Lr.out.to QH hd7 E8.out.2.2.1 E8.out.2.2.2);have yX:=AA (jV.out.keep QH E8.out.2.1)
    have hm2:=yX.out.q 2 rfl
    clear QH hd7 Lr jV hm1
    go_wp2_with fail
    go_still_tail 6,(by kernel_rfl)
    repeat still_step
    try refine wpStill_nil ?_
    change wpList _ _ _ _ _ w7.drew
    have uE:=AA (bD.out.Ej (show Below w7.heap.size w7 w7.drew from⟨rfl,rfl,rfl,Nat.le_refl _,fun _ _=>rfl⟩))
    have ABO:Hid (AL w7.drew wr.heap.size 56 (fnC A_c c_c f)):=AA yX.out
    clear bD yX hm2
    generalize w7.drew=w8 at*
    have hcl:f.code.length≤2147483647:=by have h1:=EH J2 m.fns f (List.mem_of_getElem? Hx.out);have h2:=OM.out.sz;have h3:f.code.length≤J2 f:=(by unfold J2 Ng;omega);unfold Ap at h2;omega
    have hcc:=tV f.code.length hcl (oL OM.out.sz k) uE.out.hd
    go_wp2_with fail
    refine hcc.mono ?_
    clear hcc
    rintro e w9 ⟨zA,hcase⟩
    rcases hcase with⟨h20,rfl,hd9⟩ | ⟨h20,rfl⟩
    case inr=>
     have H20:=AA h20
     have HK9:=AA (uE.out.kp.trans (zA.mono E8.out.2.2.1))
     have hX:Hid (EE=II (Ae (decide (f.code.length≤2048)) 20) (Ae (decide (LB m k+f.code.length≤16384)) 20)):=AA (by
      rw [←HE.out]
      refine Q_ jW.out PW.out Hx.out h20 ?_
      rw [VI Hx.out,AZ uD.out,AZ H8.out,Ny Hx.out,←EG,DR h20])
     clear h20 zA
     go_wp2_with fail
     exact⟨rfl,HK9.out,.inr ⟨by rw [hX.out];exact H20.out,by rw [hX.out]⟩⟩
    have H20:=AA h20
    have oN:=AA (uE.out.to zA hd9 E8.out.2.2.1 E8.out.2.2.2);have Hn9:=AA (ABO.out.keep zA E8.out.2.1)
    have hm2:=Hn9.out.q 2 rfl
    clear h20 zA hd9 uE ABO
    go_wp2_with fail
    have hcn:=PV f.code.length (by omega) oN.out.hd (by have:=Vy.out;have:=ZX.out;have:=y9.out;simp only [List.length_append] at*;omega) oN.out.hb
    refine hcn.mono ?_
    clear hcn
    rintro e wa ⟨rfl,hka,hda⟩
    have Vj:=AA (oN.out.to hka hda E8.out.2.2.1 E8.out.2.2.2);have Hna:=AA (Hn9.out.keep hka E8.out.2.1)
    have IX:=Hna.out.q 2 rfl
    clear hka hda oN Hn9 hm2
    go_upto_block 2 with fail
    generalize hLF:LL++enc f.t.toNat++EX f.loc++enc f.code.length=LF at*
    have HLF:=AA hLF
    have ABP:Hid (∀j,(LF++(f.code.take j).flatMap Iw).length≤500000000000):=AA (fun j=>by
     have h1:=dU OM.out.num OM.out.sz (List.mem_of_getElem? Hx.out) j
     have h2:=EH J2 m.fns f (List.mem_of_getElem? Hx.out)
     have h3:=OM.out.sz
     have h4:=Vy.out
     rw [←hLF]
     unfold Ap at h3
     simp only [List.length_append] at*
     omega)
    clear hLF
    go_wp2_with fail
    clear IX Py
    generalize wr.heap.size=fb at*
    clear wr
    go_loopw [64] (fun i wi=> ∃j:Nat,j≤f.code.length∧i= .int .i64 j∧ES w wi base g gs w.heap.size K K2 m (NJ A1 A2 A3 (some ⟨b,o,none⟩) A5 A6 c1 c2 c3 c4 c5 c6 m) (LB m k+f.code.length) (LF++(f.code.take j).flatMap Iw)∧Ad j (S9 f)=0)
     (fun i _=>f.code.length-(intOf i).toNat)
    case atStart=>exact⟨0,Nat.zero_le _,rfl,by simpa using Vj.out,rfl⟩
    case round=>
     obtain⟨j,hj,rfl,hbi,hei⟩:=hrel
     have HBi:=AA hbi;have HEi:=AA hei
     clear hbi hei
     by_cases ABQ:j<f.code.length
     ·obtain⟨y,hy⟩: ∃y,f.code[j]?=some y:=⟨_,List.getElem?_eq_getElem ABQ⟩
      obtain⟨bi,oi,hAc,_,uF,cs,hcs,jZ⟩:=OE ABM.out hy
      subst hAc
      have hri2:=jZ
      obtain⟨gQ,rfl,ha63,hl⟩:=Dw.1 hri2
      obtain⟨Sw,Rs,rfl⟩:=AX hl
      have hbw:bi<w.heap.size:=Nat.lt_of_lt_of_le uF hhi
      have hi0:wr.cell? ⟨bi,oi+j*3,none⟩=some (.int .u8 (y.op.toNat:Int)):=(HBi.out.kp.cell (p:=⟨bi,oi+j*3,none⟩) hbw (Xg.out bi uF)).trans (hcs 0 _ rfl)
      have hi1:wr.cell? ⟨bi,oi+j*3+1,none⟩=some (.int .i64 y.a):=(HBi.out.kp.cell (p:=⟨bi,oi+j*3+1,none⟩) hbw (Xg.out bi uF)).trans (hcs 1 _ rfl)
      have hi2:wr.cell? ⟨bi,oi+j*3+2,none⟩=some (.slice Sw y.l.length Rs):=(HBi.out.kp.cell (p:=⟨bi,oi+j*3+2,none⟩) hbw (Xg.out bi uF)).trans (hcs 2 _ rfl)
      have hj0:(0:Int)≤j:=by omega
      have Hri:=AA jZ;have Hy:=AA hy
      clear jZ hcs hl hy hbw ha63
      go_wp2_with fail
      generalize hwi:wr.alloc _=wi
      have hbi:Below wr.heap.size wr wi:=by rw [←hwi];exact(Below.refl _ _).alloc (Nat.le_refl _) _
      have zB:=AA (HBi.out.Ej hbi)
      clear hwi hbi hi0 hi1 hi2 HBi
      have hen:=Xi _ hi y wi (Rd.GX Hri.out zB.out.kp hhi (fun j _ h=>Xg.out j h)) (Nat.le_trans hhi zB.out.kp.size) (HTAB.out _ (zB.out.kp.below hhi Xg.out))
      by_cases h0:Ai y=0
      case neg=>
       generalize hci:Ai y=ci at hen h0
       have HCI:=AA hci
       clear hci
       refine hen.mono ?_
       clear hen
       rintro e wj ⟨hbj,Aj,cj,rfl,hoj⟩
       have HBk:=AA (zB.out.Ej hbj)
       have hX:Hid (EE=ci):=AA (by
        have h1:=AQ H20.out
        rw [←HE.out]
        refine Q_ jW.out PW.out Hx.out h0 ?_
        rw [VI Hx.out,AZ uD.out,AZ H8.out,AZ h1.1,Ny Hx.out,AZ h1.2,IK HEi.out (by rw [VJ Hy.out,HCI.out];exact h0) _ ABQ,VJ Hy.out,HCI.out])
       have hb:(ci==0)=false:=by simpa using h0
       have Hc0:=AA h0
       clear hbj hoj zB h0
       go_wp2_with fail
       refine(Ah ci 0 _).mono ?_
       rintro e wk ⟨rfl,rfl⟩
       go_wp2_with fail
       exact⟨rfl,HBk.out.kp,.inr ⟨by rw [hX.out];exact Hc0.out,by rw [hX.out]⟩⟩
      have Hc0:=AA h0
      have hio:Gg y=Iw y:=by unfold Gg;rw [if_pos h0]
      rw [hio,h0] at hen
      refine hen.mono ?_
      clear hen h0 hio
      rintro e wj ⟨hbj,Aj,cj,rfl,hoj⟩
      have HBk:=AA (zB.out.Ej hbj)
      have uG:=AA (Row.own hoj)
      clear hbj hoj zB
      go_wp2_with fail
      refine(Af 0 0 _).mono ?_
      rintro e wk ⟨rfl,rfl⟩
      have hd:=HBk.out.hd
      obtain⟨T,d,s1,⟨A,c,s2⟩,s3,s4,s5⟩:=hd
      generalize hLJ:LF++(f.code.take j).flatMap Iw=LJ at*
      have HLJ:=AA hLJ
      have ABS:Hid (LJ.length≤500000000000∧LJ.length+(Iw y).length≤500000000000):=AA ⟨by rw [←hLJ];exact ABP.out j,by have:=ABP.out (j+1);rw [Ev Hy.out,←List.append_assoc,hLJ,List.length_append] at this;exact this⟩
      have hg2:=s2.blk.q 2 rfl
      have hgf:=s2.blk.frozen 2
      have hgl:=s2.blk.lt
      have hbk:base≤wj.heap.size:=HBk.out.hb
      have qz:=AA s1;have oG:=AA s2;have wJ:=AA s4;have tu:=AA s5
      obtain⟨i0,hi0,hz,hs',hby⟩:=info_parts Jl
      clear hLJ s1 s2 s4 s5
      go_wp2_with (at_builtin;refine ZP _ rfl (.tmp 81) (.tmp 82) 41 rfl base 5 i0 _ 1 underlying41 hi0 hz hs' hby rfl _ LJ.length (LJ.map bv) rfl (by exact oG.out.own) _ Aj (Iw y).length cj ((Iw y).map bv) (oK Hc0.out) rfl (by rw [List.length_map,Nat.mul_one]) (by exact uG.out) (Nc _) (by have:=ABS.out;unfold maxLen;omega) (by have:=ABS.out;omega) hbk ?_;intro A8 c8 w8 h2 h3 h4;have HP:=AA (oG.out.put rfl h3 h2 h4);have EM:=JZ h3 oG.out.blk (fun e=>(oG.out.apart g e).2 rfl);have hf8:=EM.frozen 2;have hc8:=EM.cell 2;have hl8:=EM.lt;clear h2 h3 h4 EM)
      all_goals
       have HH:=AA (Hd.of qz.out s3 wJ.out tu.out HP.out.1 HP.out.2)
       have HN:Hid (Ad (j+1) (S9 f)=0):=AA (IJ HEi.out (by rw [VJ Hy.out];exact Hc0.out))
       have HF:Hid (LJ++Iw y=LF++(f.code.take (j+1)).flatMap Iw):=AA (by rw [Ev Hy.out,←HLJ.out,List.append_assoc])
       refine⟨⟨j+1,by omega,by go_num,?_,HN.out⟩,by simp [intOf];omega⟩
       rw [←HF.out]
       exact HBk.out.to HH.out.1 HH.out.2 E8.out.2.2.1 E8.out.2.2.2
     ·obtain rfl:j=f.code.length:=by omega
      have HD:Hid (ES w wr base g gs w.heap.size K K1 m (NJ A1 A2 A3 (some ⟨b,o,none⟩) A5 A6 c1 c2 c3 c4 c5 c6 m) (LB m (k+1)) (L++(enc m.fns.length++(m.fns.take (k+1)).flatMap XF))):=AA (by
       have h:=HBi.out.less E8.out.1
       rw [List.take_length,←HLF.out,←wL.out,←Ny Hx.out] at h
       rw [Ev Hx.out]
       rw [show XF f=enc f.t.toNat++EX f.loc++enc f.code.length++f.code.flatMap Iw from rfl]
       simpa only [List.append_assoc] using h)
      have HN:Hid (Ad (k+1) (Ye m)=0):=AA (IJ PW.out (by
       have:=AQ H20.out
       rw [VI Hx.out,AZ uD.out,AZ H8.out,AZ this.1,Ny Hx.out,AZ this.2,HEi.out]))
      go_wp2_with fail
      exact⟨⟨k+1,by omega,by go_num,HD.out,HN.out⟩,by simp [intOf];omega⟩
   ·obtain rfl:k=m.fns.length:=by omega
    go_wp2_with fail
    go_meet
    refine⟨?_,PW.out⟩
    have:=Py.out
    rw [List.take_length] at this
    exact this
 case rest=>
  obtain⟨hbc,bL⟩:=hcut
  have kV:Hid (TS m=0):=AA (by unfold TS;rw [AZ jW.out];exact bL)
  have zC:Hid ((L++(enc m.fns.length++m.fns.flatMap XF)).length≤390194315000):=AA (by
   have h1:=dV OM.out.num OM.out.sz m.fns.length m.fns.length hlf
   rw [List.take_length] at h1
   have:=OM.out.sz
   rw [List.length_append];omega)
  generalize hL1:L++(enc m.fns.length++m.fns.flatMap XF)=L1 at*
  have MG:=AA hL1
  have Wm:=AA hbc
  have hx6:=hbc.box.q 6 rfl
  have hld:m.dat.length≤2147483647:=by have:=OM.out.sz;unfold Ap at this;omega
  generalize LB m m.fns.length=ZY at*
  clear hbc bL hL1 HB2 hx5
  go_wp2_with fail
  have hcount:=NI m.dat.length 64 (by omega) Wm.out.hd (by have:=zC.out;omega) Wm.out.hb
  refine hcount.mono ?_
  clear hcount
  rintro e wd ⟨hk,hcase⟩
  rcases hcase with⟨h0,rfl,hd⟩ | ⟨h0,rfl⟩
  case inr=>
   have H0:=AA h0;clear h0
   have UE:=AA (Wm.out.kp.trans (hk.mono HKK.out.1))
   go_wp2_with fail
   have hX:EE=Ae (decide (m.dat.length≤64)) 20:=by rw [←HE.out];exact bO kV.out H0.out
   exact⟨rfl,UE.out,.inr ⟨by rw [hX];exact H0.out,by rw [hX]⟩⟩
  have HD0:=AA h0
  have HBd:=AA (Wm.out.to (all':=ZY) hk hd HKK.out.1 HKK.out.2)
  have hx6:=HBd.out.box.q 6 rfl
  clear h0 hk hd Wm
  go_upto_block 4 with fail
  go_cut [] (fun wx=>ES w wx base g gs w.heap.size K K1 m (NJ A1 A2 A3 A4 A5 A6 c1 c2 c3 c4 c5 c6 m) ZY (L1++(enc m.dat.length++m.dat.flatMap M5))∧Ad m.dat.length (Nh m)=0)
  case first=>
   clear hx6
   go_wp2_with fail
   go_loopw [96] (fun i wr=> ∃k:Nat,k≤m.dat.length∧i= .int .i64 k∧ES w wr base g gs w.heap.size K K1 m (NJ A1 A2 A3 A4 A5 A6 c1 c2 c3 c4 c5 c6 m) ZY (L1++(enc m.dat.length++(m.dat.take k).flatMap M5))∧Ad k (Nh m)=0)
    (fun i _=>m.dat.length-(intOf i).toNat)
   case atStart=>exact⟨0,Nat.zero_le _,rfl,by simpa using HBd.out,rfl⟩
   case round=>
    obtain⟨k,hk,rfl,hbr,her⟩:=hrel
    have Py:=AA hbr;have PW:=AA her
    clear hbr her
    by_cases hltk:k<m.dat.length
    ·obtain⟨d,hx⟩: ∃d,m.dat[k]?=some d:=⟨_,List.getElem?_eq_getElem hltk⟩
     have hcap:=bQ H5.out
     have htk:=fH H5.out (k:=k) (by omega)
     obtain⟨b,o,Vh,Tz,rfl,_,Nw,hd0,hd1,hat,hbb⟩:=NW H5.out hx
     have hbw:b<w.heap.size:=Nat.lt_of_lt_of_le Nw hhi
     have hc0':=(Py.out.kp.cell (p:=⟨b,o+k*2,none⟩) hbw (Xg.out b Nw)).trans hd0
     have hc1':=(Py.out.kp.cell (p:=⟨b,o+k*2+1,none⟩) hbw (Xg.out b Nw)).trans hd1
     have UF:=AA hbb;have HTK:=AA htk
     have Hx:=AA hx
     have hk0:(0:Int)≤k:=by omega
     have hkc:k≤c5:=by omega
     have Vy:Hid ((L1++(enc m.dat.length++(m.dat.take k).flatMap M5)).length≤490194315000):=AA (by
      have h1:=dW OM.out.num OM.out.sz m.dat.length k hld
      have:=OM.out.sz
      have:=zC.out
      rw [List.length_append];omega)
     have Hbl:Hid (d.b.length≤2147483647):=AA (by
      have h1:=EH (fun d:EU=>d.b.length) m.dat d (List.mem_of_getElem? hx)
      have h2:=OM.out.sz
      unfold Ap at h2;omega)
     have hz3:=Py.out.box.q 6 rfl
     have hzl:w.heap.size<wr.heap.size:=Py.out.box.lt
     clear hx hd0 hd1 hbb htk hcap
     go_upto_region 22 with fail
     generalize hw3:wr.alloc _=w3
     have hb3:Below wr.heap.size wr w3:=by rw [←hw3];exact(Below.refl _ _).alloc (Nat.le_refl _) _
     have HB3:=AA (Py.out.yw hb3 (by rw [←hw3];simp))
     have Rv:Hid (AL w3 wr.heap.size 59 [.int .i64 d.at_,.slice Vh d.b.length Tz]):=by rw [←hw3];exact AA (AL.new wr 59 [.int .i64 d.at_,.slice Vh d.b.length Tz])
     generalize hK2:(fun j=>K1 j∨j=wr.heap.size)=K2 at HB3
     have E8:Hid ((∀j,K1 j→K2 j)∧K2 wr.heap.size∧(∀j,K j→K2 j)∧K2 w.heap.size):=AA (by rw [←hK2];exact⟨fun j h=> .inl h,.inr rfl,fun j h=> .inl (HKK.out.1 j h),.inl HKK.out.2⟩)
     generalize Z6:L1++(enc m.dat.length++(m.dat.take k).flatMap M5)=LL at*
     have wL:=AA Z6
     clear hw3 hb3 hK2 hc0' hc1' Z6 hz3
     have HST:=AA (fun W (hb:Below w3.heap.size w3 W)=>jR d.at_ (some ⟨b,o,none⟩) k c5 0 hi (m.dat.take k) (HB3.out.Ej hb).hd (Rd.GX HTK.out (HB3.out.kp.trans (Keep.Aq hb)) hhi (fun j _ h=>Xg.out j h)) OM.out.f0 OM.out.f1 hat (yt OM.out.f0 OM.out.f1 PW.out hk) (by have:=Bw (by decide) HD0.out;have:=of_decide_eq_true this;omega))
     have hm0:=Rv.out.q 0 rfl
     have MC:=HB3.out.box.q 6 rfl
     go_still_tail 9,(by kernel_rfl)
     repeat still_step
     try refine wpStill_nil ?_
     change wpList _ _ _ _ _ w3.drew
     have hbd:Below w3.heap.size w3 w3.drew:=⟨rfl,rfl,rfl,Nat.le_refl _,fun _ _=>rfl⟩
     have J9:=AA (HB3.out.Ej hbd)
     have Ta:Hid (AL w3.drew wr.heap.size 59 [.int .i64 d.at_,.slice Vh d.b.length Tz]):=AA Rv.out
     have hst:=HST.out w3.drew hbd
     clear HST HB3 Rv hm0 MC hbd
     generalize w3.drew=w4 at*
     go_wp2_with fail
     refine hst.mono ?_
     clear hst
     rintro e w5 ⟨hb5,hcase⟩
     change Ends (stE m k d) 0 e at hcase
     have JX:=AA (J9.out.Ej hb5);have VG:=AA (Ta.out.below hb5 Ta.out.lt)
     clear hb5 J9 Ta
     rcases hcase with⟨h0,rfl⟩ | ⟨h0,rfl⟩
     case inr=>
      have hX:Hid (EE=stE m k d):=AA (by rw [←HE.out];exact SV kV.out HD0.out PW.out Hx.out h0 (by rw [RA Hx.out,DR h0]))
      have HS:=AA h0;clear h0
      go_wp2_with fail
      exact⟨rfl,JX.out.kp,.inr ⟨by rw [hX.out];exact HS.out,by rw [hX.out]⟩⟩
     have HS:=AA h0;clear h0
     have ABT:=of_decide_eq_true (Bw (by decide) (AQ HS.out).1)
     obtain⟨n,hn⟩:=Int.eq_ofNat_of_zero_le ABT.1
     have hm0:=VG.out.q 0 rfl
     have Hnn:Hid (d.at_=(n:Int)∧n≤262144):=AA ⟨hn,by have:=OM.out.f1;omega⟩
     have hcn:=PV n (by have:=Hnn.out.2;omega) JX.out.hd (by have:=Vy.out;omega) JX.out.hb
     rw [←hn] at hcn
     have hfa: -9223372036854775808≤m.first*4096∧m.first*4096≤262144∧0≤d.at_∧d.at_≤m.first*4096:=by have:=OM.out.f0;have:=OM.out.f1;omega
     have Hfa:=AA hfa
     clear hn ABT hfa
     go_wp2_with fail
     refine hcn.mono ?_
     clear hcn
     rintro e w6 ⟨rfl,Z8,hd6⟩
     have Lr:=AA (JX.out.to Z8 hd6 E8.out.2.2.1 E8.out.2.2.2);have jV:=AA (VG.out.keep Z8 E8.out.2.1)
     have hm1:=jV.out.q 1 rfl
     have hm0:=jV.out.q 0 rfl
     have hz3:=Lr.out.box.q 3 rfl
     have hfa:=Hfa.out
     have hwm:IntKind.i64.wrap (m.first*4096)=m.first*4096:=by rw [IntKind.wrap_i64];omega
     have hws:IntKind.i64.wrap (m.first*4096-d.at_)=m.first*4096-d.at_:=by rw [IntKind.wrap_i64];omega
     clear Z8 hd6 JX VG hfa
     go_wp2_with fail
     refine(DT _ 13 0 (by decide) _).mono ?_
     rintro e w7 ⟨rfl,hcase⟩
     rcases hcase with⟨h0,rfl⟩ | ⟨h0,rfl⟩
     case inr=>
      have H13:=AA h0
      have hX:Hid (EE=Ae (decide ((d.b.length:Int)≤m.first*4096-d.at_)) 13):=AA (by rw [←HE.out];exact SV kV.out HD0.out PW.out Hx.out h0 (by rw [RA Hx.out,AZ HS.out,DR h0]))
      clear h0
      go_wp2_with fail
      exact⟨rfl,Lr.out.kp,.inr ⟨by rw [hX.out];exact H13.out,by rw [hX.out]⟩⟩
     have H13:=AA h0;clear h0
     go_wp2_with fail
     refine(DT _ 17 0 (by decide) _).mono ?_
     rintro e w7 ⟨rfl,hcase⟩
     rcases hcase with⟨h0,rfl⟩ | ⟨h0,rfl⟩
     case inr=>
      have H17:=AA h0
      have hX:Hid (EE=Ae (decide (0<d.b.length)) 17):=AA (by rw [←HE.out];exact SV kV.out HD0.out PW.out Hx.out h0 (by rw [RA Hx.out,AZ HS.out,AZ H13.out]))
      clear h0
      go_wp2_with fail
      exact⟨rfl,Lr.out.kp,.inr ⟨by rw [hX.out];exact H17.out,by rw [hX.out]⟩⟩
     have H17:=AA h0
     have hpos:=of_decide_eq_true (Bw (by decide) h0)
     clear h0
     obtain⟨bb,ob,rfl,zD,hbc⟩:=(Rd.xO UF.out).2 (by rw [List.length_map];exact hpos)
     have ABU:=run_convert_bytes_back (P:=prog) w6 41 9 5 ⟨bb,ob,none⟩ Tz d.b underlying41 underlying5 underlying9 (fun j hj=>by
      rw [Addr.add_lit,(Lr.out.kp.cell (p:=⟨bb,ob+j,none⟩) (Nat.lt_of_lt_of_le zD hhi) (Xg.out bb zD))]
      exact hbc j _ (by rw [List.getElem?_map,List.getElem?_eq_getElem hj];rfl))
     clear hpos hbc zD hws hwm
     go_wp2_with fail
     have hct:=Q6 ⟨d.b.toArray⟩ (by have:=Hbl.out;show d.b.toArray.size≤_;simp;omega) Lr.out.hd (by have:=Vy.out;have:=BA n (by have:=Hnn.out.2;omega);rw [List.length_append];omega) Lr.out.hb
     refine hct.mono ?_
     clear hct ABU
     rintro e w8 ⟨rfl,fJ,hd8⟩
     have HN:Hid (Ad (k+1) (Nh m)=0):=AA (IJ PW.out (by rw [RA Hx.out,AZ HS.out,AZ H13.out];exact H17.out))
     have KQ:Hid (ES w w8 base g gs w.heap.size K K1 m (NJ A1 A2 A3 A4 (some ⟨b,o,none⟩) A6 c1 c2 c3 c4 c5 c6 m) ZY (L1++(enc m.dat.length++(m.dat.take (k+1)).flatMap M5))):=AA (by
      have h:=(Lr.out.to fJ hd8 E8.out.2.2.1 E8.out.2.2.2).less E8.out.1
      have he:LL++enc n++EX ⟨d.b.toArray⟩=L1++(enc m.dat.length++(m.dat.take (k+1)).flatMap M5):=by
       rw [Ev Hx.out,←wL.out]
       unfold M5 EX
       rw [Hnn.out.1]
       show _=_
       simp only [List.append_assoc,Int.toNat_natCast]
       rfl
      rw [he] at h
      exact h)
     clear fJ hd8 Lr jV hm0 hm1 hz3
     go_wp2_with fail
     exact⟨⟨k+1,by omega,by go_num,KQ.out,HN.out⟩,by simp [intOf];omega⟩
    ·obtain rfl:k=m.dat.length:=by omega
     go_wp2_with fail
     go_meet
     refine⟨?_,PW.out⟩
     have:=Py.out
     rw [List.take_length] at this
     exact this
  case rest=>
   obtain⟨hbc,bL⟩:=hcut
   have HDE:Hid (QB m=0):=AA (by unfold QB;rw [AZ HD0.out];exact bL)
   have ABV:Hid ((L1++(enc m.dat.length++m.dat.flatMap M5)).length≤490194315000):=AA (by
    have h1:=dW OM.out.num OM.out.sz m.dat.length m.dat.length hld
    rw [List.take_length] at h1
    have:=OM.out.sz
    have:=zC.out
    rw [List.length_append];omega)
   generalize hL2:L1++(enc m.dat.length++m.dat.flatMap M5)=L2 at*
   have HL2:=AA hL2
   have Wm:=AA hbc
   have hx7:=hbc.box.q 7 rfl
   have hle:m.AU.length≤2147483647:=by have:=OM.out.sz;unfold Ap at this;omega
   clear hbc bL hL2 HBd hx6
   go_wp2_with fail
   have hcount:=NI m.AU.length 64 (by omega) Wm.out.hd (by have:=ABV.out;omega) Wm.out.hb
   refine hcount.mono ?_
   clear hcount
   rintro e wd ⟨hk,hcase⟩
   rcases hcase with⟨h0,rfl,hd⟩ | ⟨h0,rfl⟩
   case inr=>
    have H0:=AA h0;clear h0
    have UE:=AA (Wm.out.kp.trans (hk.mono HKK.out.1))
    go_wp2_with fail
    have hX:EE=Ae (decide (m.AU.length≤64)) 20:=by rw [←HE.out];exact bP kV.out HDE.out H0.out
    exact⟨rfl,UE.out,.inr ⟨by rw [hX];exact H0.out,by rw [hX]⟩⟩
   have HX0:=AA h0
   have HBd:=AA (Wm.out.to (all':=ZY) hk hd HKK.out.1 HKK.out.2)
   have hx7:=HBd.out.box.q 7 rfl
   clear h0 hk hd Wm
   go_wp2_with fail
   go_loopw [145] (fun i wr=> ∃k:Nat,k≤m.AU.length∧i= .int .i64 k∧ES w wr base g gs w.heap.size K K1 m (NJ A1 A2 A3 A4 A5 A6 c1 c2 c3 c4 c5 c6 m) ZY (L2++(enc m.AU.length++(m.AU.take k).flatMap Pp))∧Ad k (Po m)=0)
    (fun i _=>m.AU.length-(intOf i).toNat)
   case atStart=>exact⟨0,Nat.zero_le _,rfl,by simpa using HBd.out,rfl⟩
   case round=>
    obtain⟨k,hk,rfl,hbr,her⟩:=hrel
    have Py:=AA hbr;have PW:=AA her
    clear hbr her
    by_cases hltk:k<m.AU.length
    ·obtain⟨x,hx⟩: ∃x,m.AU[k]?=some x:=⟨_,List.getElem?_eq_getElem hltk⟩
     have hcap:=bQ H6.out
     have htk:=fH H6.out (k:=k) (by omega)
     obtain⟨b,o,rfl,_,Nw,hd0,hd1,hns,hf6⟩:=NY H6.out hx
     have hbw:b<w.heap.size:=Nat.lt_of_lt_of_le Nw hhi
     have hc0':=(Py.out.kp.cell (p:=⟨b,o+k*2,none⟩) hbw (Xg.out b Nw)).trans hd0
     have hc1':=(Py.out.kp.cell (p:=⟨b,o+k*2+1,none⟩) hbw (Xg.out b Nw)).trans hd1
     have HTK:=AA htk
     have Hx:=AA hx
     have hk0:(0:Int)≤k:=by omega
     have hkc:k≤c6:=by omega
     have Vy:Hid ((L2++(enc m.AU.length++(m.AU.take k).flatMap Pp)).length≤590194315000):=AA (by
      have h1:=lX OM.out.num OM.out.sz m.AU.length k hle
      have:=OM.out.sz
      have:=ABV.out
      rw [List.length_append];omega)
     have hz3:=Py.out.box.q 7 rfl
     have hzl:w.heap.size<wr.heap.size:=Py.out.box.lt
     clear hx hd0 hd1 htk hcap
     go_upto_region 32 with fail
     generalize hw3:wr.alloc _=w3
     have hb3:Below wr.heap.size wr w3:=by rw [←hw3];exact(Below.refl _ _).alloc (Nat.le_refl _) _
     have HB3:=AA (Py.out.yw hb3 (by rw [←hw3];simp))
     have Rv:Hid (AL w3 wr.heap.size 61 [.string x.n,.int .i64 x.f]):=by rw [←hw3];exact AA (AL.new wr 61 [.string x.n,.int .i64 x.f])
     generalize hK2:(fun j=>K1 j∨j=wr.heap.size)=K2 at HB3
     have E8:Hid ((∀j,K1 j→K2 j)∧K2 wr.heap.size∧(∀j,K j→K2 j)∧K2 w.heap.size):=AA (by rw [←hK2];exact⟨fun j h=> .inl h,.inr rfl,fun j h=> .inl (HKK.out.1 j h),.inl HKK.out.2⟩)
     generalize Z6:L2++(enc m.AU.length++(m.AU.take k).flatMap Pp)=LL at*
     have wL:=AA Z6
     clear hw3 hb3 hK2 hc0' hc1' Z6 hz3
     have HST:=AA (fun W (hb:Below w3.heap.size w3 W)=>jQ x.n hns (some ⟨b,o,none⟩) k c6 0 hi (m.AU.take k) W (Rd.GX HTK.out (HB3.out.kp.trans (Keep.Aq hb)) hhi (fun j _ h=>Xg.out j h)) (by have:=Bw (by decide) HX0.out;have:=of_decide_eq_true this;omega))
     have hm0:=Rv.out.q 0 rfl
     have MC:=HB3.out.box.q 7 rfl
     go_still_tail 6,(by kernel_rfl)
     repeat still_step
     try refine wpStill_nil ?_
     change wpList _ _ _ _ _ w3.drew
     have hbd:Below w3.heap.size w3 w3.drew:=⟨rfl,rfl,rfl,Nat.le_refl _,fun _ _=>rfl⟩
     have J9:=AA (HB3.out.Ej hbd)
     have Ta:Hid (AL w3.drew wr.heap.size 61 [.string x.n,.int .i64 x.f]):=AA Rv.out
     have hst:=HST.out w3.drew hbd
     clear HST HB3 Rv hm0 MC hbd
     generalize w3.drew=w4 at*
     go_wp2_with fail
     refine hst.mono ?_
     clear hst
     rintro e w5 ⟨hb5,hcase⟩
     have JX:=AA (J9.out.Ej hb5);have VG:=AA (Ta.out.below hb5 Ta.out.lt)
     clear hb5 J9 Ta
     rcases hcase with⟨h0,rfl⟩ | ⟨h0,rfl⟩
     case inr=>
      have hX:Hid (EE=II (Ql x.n) (Ni (m.AU.take k) k x.n)):=AA (by rw [←HE.out];exact Wn kV.out HDE.out HX0.out PW.out Hx.out h0 (by rw [Xj Hx.out,DR h0]))
      have HS:=AA h0;clear h0
      go_wp2_with fail
      exact⟨rfl,JX.out.kp,.inr ⟨by rw [hX.out];exact HS.out,by rw [hX.out]⟩⟩
     have HS:=AA h0
     have hn32:x.n.size≤32:=of_decide_eq_true (Bw (by decide) (AQ (AQ h0).1).1)
     clear h0
     have hm0:=VG.out.q 0 rfl
     have hct:=Q6 x.n (by omega) JX.out.hd (by have:=Vy.out;omega) JX.out.hb
     go_wp2_with fail
     refine hct.mono ?_
     clear hct
     rintro e w6 ⟨rfl,Z8,hd6⟩
     have Lr:=AA (JX.out.to Z8 hd6 E8.out.2.2.1 E8.out.2.2.2);have jV:=AA (VG.out.keep Z8 E8.out.2.1)
     have hm1:=jV.out.q 1 rfl
     have hz5:=Lr.out.box.q 5 rfl
     have hci:=VB x.f m.fns.length hf6.2 Lr.out.hd (by have:=Vy.out;have:=Ja (s:=x.n) (by omega);rw [List.length_append];omega) Lr.out.hb
     clear Z8 hd6 JX VG hm0 hn32
     generalize oM:Ae (decide (0≤x.f∧x.f<m.fns.length)) 30=v30 at hci
     have HV:=AA oM
     clear oM
     go_wp2_with fail
     refine hci.mono ?_
     clear hci
     rintro e w7 ⟨QH,hcase⟩
     rcases hcase with⟨fI,rfl,hd7⟩ | ⟨fI,rfl⟩
     case inr=>
      have uD:=AA fI
      have wI:=AA (Lr.out.kp.trans (QH.mono E8.out.2.2.1))
      have hX:Hid (EE=v30):=AA (by rw [←HE.out];exact Wn kV.out HDE.out HX0.out PW.out Hx.out fI (by rw [Xj Hx.out,AZ HS.out,HV.out]))
      clear fI QH
      go_wp2_with fail
      exact⟨rfl,wI.out,.inr ⟨by rw [hX.out];exact uD.out,by rw [hX.out]⟩⟩
     have HN:Hid (Ad (k+1) (Po m)=0):=AA (IJ PW.out (by rw [Xj Hx.out,AZ HS.out,HV.out,fI]))
     have KQ:Hid (ES w w7 base g gs w.heap.size K K1 m (NJ A1 A2 A3 A4 A5 (some ⟨b,o,none⟩) c1 c2 c3 c4 c5 c6 m) ZY (L2++(enc m.AU.length++(m.AU.take (k+1)).flatMap Pp))):=AA (by
      have h:=(Lr.out.to QH hd7 E8.out.2.2.1 E8.out.2.2.2).less E8.out.1
      have he:LL++EX x.n++enc x.f.toNat=L2++(enc m.AU.length++(m.AU.take (k+1)).flatMap Pp):=by
       rw [Ev Hx.out,←wL.out]
       unfold Pp
       simp only [List.append_assoc]
      rw [he] at h
      exact h)
     clear QH hd7 Lr jV hm1 hz5 fI
     go_wp2_with fail
     exact⟨⟨k+1,by omega,by go_num,KQ.out,HN.out⟩,by simp [intOf];omega⟩
    ·obtain rfl:k=m.AU.length:=by omega
     go_wp2_with fail
     go_end0
     have hX:EE=0:=by
      rw [←HE.out]
      unfold I_ Ua
      rw [AZ kV.out,AZ HDE.out,AZ HX0.out,PW.out]
     have h:=Py.out
     rw [List.take_length] at h
     refine⟨h.kp,.inl ⟨hX,rfl,ZY,?_⟩⟩
     have hfin:L++Oe m=L2++(enc m.AU.length++m.AU.flatMap Pp):=by
      unfold Oe
      rw [←HL2.out,←MG.out]
      simp only [List.append_assoc]
     rw [hfin]
     exact h.hd.less HKK.out.1
end
theorem Za {m:AP} (h:JG m=0):(∀t∈m.types,t.p.size≤8)∧0≤m.first∧m.first≤64:=by
 obtain⟨ht,hh⟩:=AQ h
 obtain⟨_,hh⟩:=AQ hh
 obtain⟨_,hp⟩:=AQ hh
 obtain⟨_,t2⟩:=AQ ht
 have hp:=of_decide_eq_true (Bw (by decide) hp)
 refine⟨fun t hm=> ?_,hp.1,by omega⟩
 obtain⟨k,hk⟩:=List.getElem?_of_mem hm
 have:=Ca t2 k (List.getElem?_eq_some_iff.1 hk).1
 rw [Xf hk] at this
 have:=(Oq (AQ this).1).1
 omega
def oO:Array Value:= #[.int .u8 70,.int .u8 76,.int .u8 71,.int .u8 78,.int .u8 1]
def KE (n:Nat) (k:Nat):Prop:=k<n+3∨k=n+5
theorem oP (w:World) (cs:Array Value) {W:World}
 (hW:((((((w.alloc (.cells cs 29)).alloc (.cells #[.slice none 0 0] 41)).alloc (.cells #[.int .i64 0] 33)).alloc (.cells oO 5 (5,6))).alloc (.cells #[.pointer none,.int .i64 0,.slice (some ⟨w.heap.size+1+1+1,0,none⟩) 5 5] 124)).alloc (.cells #[.int .i64 0] 3))=W):
 Below w.heap.size w W∧AL W w.heap.size 29 cs.toList∧AL W (w.heap.size+1) 41 [.slice none 0 0]∧AL W (w.heap.size+1+1) 33 [.int .i64 0]∧AL W (w.heap.size+1+1+1+1+1) 3 [.int .i64 0]∧
  Wr W w.heap.size (w.heap.size+1+1+1+1) (KE w.heap.size) (.pointer none) 0 KY:=by
 have h0:=AL.new w 29 cs.toList
 have h1:=AL.new (w.alloc (.cells cs 29)) 41 [.slice none 0 0]
 have h2:=AL.new ((w.alloc (.cells cs 29)).alloc (.cells #[.slice none 0 0] 41)) 33 [.int .i64 0]
 have h4:=AL.new ((((w.alloc (.cells cs 29)).alloc (.cells #[.slice none 0 0] 41)).alloc (.cells #[.int .i64 0] 33)).alloc (.cells oO 5 (5,6))) 124 [.pointer none,.int .i64 0,.slice (some ⟨w.heap.size+1+1+1,0,none⟩) 5 5]
 have h5:=AL.new (((((w.alloc (.cells cs 29)).alloc (.cells #[.slice none 0 0] 41)).alloc (.cells #[.int .i64 0] 33)).alloc (.cells oO 5 (5,6))).alloc (.cells #[.pointer none,.int .i64 0,.slice (some ⟨w.heap.size+1+1+1,0,none⟩) 5 5] 124)) 3 [.int .i64 0]
 have h3:=heap_alloc_new (((w.alloc (.cells cs 29)).alloc (.cells #[.slice none 0 0] 41)).alloc (.cells #[.int .i64 0] 33)) (.cells oO 5 (5,6))
 simp only [World.size_alloc] at h1 h2 h3 h4 h5
 have hs:W.heap.size=w.heap.size+6:=by rw [←hW];simp only [World.size_alloc]
 have h3':W.heap[w.heap.size+1+1+1]?=some (.cells oO 5 (5,6)):=by
  rw [←hW,heap_alloc_old _ _ (by simp only [World.size_alloc];omega),heap_alloc_old _ _ (by simp only [World.size_alloc];omega)]
  exact h3
 refine⟨?_,?_,?_,?_,?_,some ⟨w.heap.size+1+1+1,0,none⟩,5,?_,?_,by omega,?_,?_,?_⟩
 ·rw [←hW]
  exact(((((((Below.refl _ _).alloc (Nat.le_refl _) _).alloc (by simp only [World.size_alloc];omega) _).alloc (by simp only [World.size_alloc];omega) _).alloc (by simp only [World.size_alloc];omega) _).alloc (by simp only [World.size_alloc];omega) _).alloc (by simp only [World.size_alloc];omega) _)
 ·rw [←hW];exact((((h0.alloc _).alloc _).alloc _).alloc _).alloc _
 ·rw [←hW];exact(((h1.alloc _).alloc _).alloc _).alloc _
 ·rw [←hW];exact((h2.alloc _).alloc _).alloc _
 ·rw [←hW];exact h5
 ·rw [←hW];exact h4.alloc _
 ·exact .inr ⟨w.heap.size+1+1+1,(5,6),rfl,by omega,h3',rfl⟩
 ·unfold KE;omega
 ·intro k hk
  injection hk with hk
  have hk:w.heap.size+1+1+1=k:=hk
  unfold KE
  omega
 ·intro k hk
  unfold KE at hk
  omega
theorem Ls.row1 {w:World} {base:Nat} {A:Option Addr} {n c:Nat} {l:List UInt8} (h:Ls w base 5 (.slice A n c) n (l.map bv)) (hn:n=l.length):Row w w.heap.size A (l.map bv):=by
 rcases h with h | ⟨g,fz,he,hb,hg,hl⟩
 ·exact Row.own h
 ·injection he with h1 h2 h3
  subst h1
  refine fun _=>⟨g,0,rfl,(Array.getElem?_eq_some_iff.1 hg).1,fun j u hu=> ?_⟩
  simp only [World.cell?,hg]
  simpa using hu
def EncR (m:AP) (w w':World) (v:Value) (er:Int):Prop:=Below w.heap.size w w'∧er=GU m∧(er=0→ ∃A c,v= .slice A (LU m).length c∧Row w' w'.heap.size A ((LU m).map bv))
theorem TP (cs:List Value) (hi:Nat) (m:AP) (w:World) (h:JQ.R w 0 hi cs m) (hhi:hi≤w.heap.size) (hle:Ap m≤2147483647) (Px:Kc m)
 (htab: ∀w',Below hi w w'→Lib.TabIs prog w' "strings.asciiSpace" .u8 Lib.asciiSpaceTab):
 Calls prog 18 #[.agg cs.toArray] w fun e w'=> ∃v er,e= .returned (.tuple #[v,.int .i64 er])∧EncR m w w' v er:=by
 have kc:=fun(v1 v2 v3 v4 v5 v6:Value)=>Lib.run_convert_bytes_const (P:=prog) (((w.alloc (.cells #[v1,v2,v3,.int .i64 m.first,.int .i64 m.most,v4,v5,v6] 29)).alloc (.cells #[.slice none 0 0] 41)).alloc (.cells #[.int .i64 0] 33)) 41 5 #[.int .u8 70,.int .u8 76,.int .u8 71,.int .u8 78,.int .u8 1] 5 5 underlying41 underlying5
 simp only [World.size_alloc] at kc
 have hmf: ∀(fn:Fn) (first cap:Array Value) (w:World),(Instr.makeFunc fn first cap).run prog w= .ok (.func fn first cap) w:=fun _ _ _ _=>rfl
 have H:=AA h;have HT:=AA htab;have HL:=AA hle;have HN:=AA Px
 obtain⟨v1,v2,v3,v4,v5,v6,rfl,_⟩:=EK.1 h
 clear h htab hle Px
 go_enter_defers func18,ntmps18
 go_upto_region 5 with fail
 generalize hw1:World.alloc _ _=w1
 obtain⟨i1,i2,i3,i4,i5,i6⟩:=oP w _ hw1
 have HB1:=AA i1;have iE:=AA i2;have HGB:=AA i3;have yh:=AA i4;have HGA:=AA i5;have HW1:=AA i6
 have hm0:=i2.q 0 rfl
 have hm1:=i2.q 1 rfl
 have hm2:=i2.q 2 rfl
 have IX:=i2.q 3 rfl
 have qx:=i2.q 4 rfl
 have Z7:=i2.q 5 rfl
 have MC:=i2.q 6 rfl
 have bE:=i2.q 7 rfl
 have hhead:=tZ _ hi w.heap.size (w.heap.size+1+1+1+1) (KE w.heap.size) m KY w1 (JQ.below H.out i1 hhi) (Nat.le_trans hhi i1.size) (fun k hk=> .inl (by omega)) i6 i1.size HL.out HN.out (by decide)
 clear hw1 kc i1 i2 i3 i4 i5 i6
 generalize Wi:JG m=EE at hhead
 have HE:=AA Wi
 clear Wi
 go_wp2_with fail
 refine hhead.mono ?_
 clear hhead
 rintro e w2 ⟨hk2,hcase⟩
 rcases hcase with⟨h0,rfl,gs,hd⟩ | ⟨h0,rfl⟩
 case inr=>
  have H0:=AA h0
  have hge:=yh.out.keep hk2 (.inl (by omega))
  have hgb:=HGB.out.keep hk2 (.inl (by omega))
  have hga:=HGA.out.keep hk2 (.inr rfl)
  have HB:=AA (HB1.out.trans ((hk2).below HB1.out.size fun k hk=> .inl (by omega)))
  go_wp2_with fail
  refine leaves_cons (f:=62) (args:= #[.pointer (some ⟨w.heap.size+1+1,0,none⟩),.pointer (some ⟨w.heap.size+1+1+1+1+1,0,none⟩)]) (by simp) (by simp [go_sem]) ?_
  refine(Jp (EE) 0 _ _ 0 0 _ hge hga (by omega)).mono ?_
  rintro e u' wx ⟨rfl,rfl,hkx,hbe,hba⟩
  have oQ:=hgb.keep hkx (by omega)
  refine leaves_cons (f:=65) (args:= #[.pointer (some ⟨w.heap.size+1+1,0,none⟩),.pointer (some ⟨w.heap.size+1,0,none⟩)]) (by simp [settle]) (by simp [go_sem]) ?_
  refine(Mf _ _ _ (EE) _ _ hbe oQ).mono ?_
  rintro e u' wy ⟨rfl,rfl,hky,hby⟩
  have hc1:=hby.cell 0
  have hc2:=(hbe.keep hky (by omega)).cell 0
  have hM:GU m=EE:=by unfold GU Rz;rw [HE.out,DR (by rw [DR h0];exact h0),DR h0]
  have ZT:=(HB.out.trans ((hkx.below (B:=w.heap.size) HB.out.size fun k hk=>by omega).trans (hky.below (B:=w.heap.size) (Nat.le_trans HB.out.size hkx.size) fun k hk=>by omega)))
  simp [Leaves,settle,results,results18,go_sem,hc1,hc2]
  exact⟨_,_,⟨rfl,rfl⟩,ZT,hM.symm,fun h=>absurd h h0⟩
 have HE0:Hid (JG m=0):=AA (HE.out.trans h0)
 have hin:=Za HE0.out
 have UE:=AA hk2
 have hx2:=iE.out.keep hk2 (.inl (by omega))
 have hs1:=HB1.out.size
 have hlen:(KY++Li m).length≤300000000000:=by
  have h1:=iB HN.out HL.out (fun j x hj hx=>(PN (AQ (AQ (AQ (AQ HE0.out).2).2).1).2 j x hj hx).2)
  have h2:=HL.out
  rw [List.length_append]
  show 5+_≤_
  omega
 have hbody:=t_ _ hi w.heap.size (w.heap.size+1+1+1+1) gs (KE w.heap.size) m (KY++Li m) w2 (Rd.GX (JQ.below H.out HB1.out hhi) hk2 (by omega) (fun j _ h=> .inl (by omega))) (by have:=hk2.size;omega) (fun k hk=> .inl (by omega)) hd (by have:=hk2.size;omega) ⟨HL.out,HN.out,hin.1,hin.2.1,hin.2.2⟩ hlen (fun w' hb=>HT.out w' ((HB1.out.mono hhi).trans ((hk2.below (B:=hi) (by omega) fun k hk=> .inl (by omega)).trans hb)))
 have hm0:=hx2.q 0 rfl
 have hm1:=hx2.q 1 rfl
 have hm2:=hx2.q 2 rfl
 have IX:=hx2.q 3 rfl
 have qx:=hx2.q 4 rfl
 have Z7:=hx2.q 5 rfl
 have MC:=hx2.q 6 rfl
 have bE:=hx2.q 7 rfl
 clear hd h0 hin hs1 hlen hk2 hx2
 generalize hE2:I_ m=E2 at hbody
 have HE2:=AA hE2
 clear hE2
 go_wp2_with fail
 refine hbody.mono ?_
 clear hbody
 rintro e w3 ⟨hk3,hcase⟩
 have hk3:=UE.out.trans hk3
 rcases hcase with⟨h0,rfl,all,hd⟩ | ⟨h0,rfl⟩
 case inr=>
  have H0:=AA h0
  have hge:=yh.out.keep hk3 (.inl (by omega))
  have hgb:=HGB.out.keep hk3 (.inl (by omega))
  have hga:=HGA.out.keep hk3 (.inr rfl)
  have HB:=AA (HB1.out.trans ((hk3).below HB1.out.size fun k hk=> .inl (by omega)))
  go_wp2_with fail
  refine leaves_cons (f:=62) (args:= #[.pointer (some ⟨w.heap.size+1+1,0,none⟩),.pointer (some ⟨w.heap.size+1+1+1+1+1,0,none⟩)]) (by simp) (by simp [go_sem]) ?_
  refine(Jp (E2) 0 _ _ 0 0 _ hge hga (by omega)).mono ?_
  rintro e u' wx ⟨rfl,rfl,hkx,hbe,hba⟩
  have oQ:=hgb.keep hkx (by omega)
  refine leaves_cons (f:=65) (args:= #[.pointer (some ⟨w.heap.size+1+1,0,none⟩),.pointer (some ⟨w.heap.size+1,0,none⟩)]) (by simp [settle]) (by simp [go_sem]) ?_
  refine(Mf _ _ _ (E2) _ _ hbe oQ).mono ?_
  rintro e u' wy ⟨rfl,rfl,hky,hby⟩
  have hc1:=hby.cell 0
  have hc2:=(hbe.keep hky (by omega)).cell 0
  have hM:GU m=E2:=by unfold GU Rz;rw [HE0.out,AZ rfl,HE2.out,DR h0]
  have ZT:=(HB.out.trans ((hkx.below (B:=w.heap.size) HB.out.size fun k hk=>by omega).trans (hky.below (B:=w.heap.size) (Nat.le_trans HB.out.size hkx.size) fun k hk=>by omega)))
  simp [Leaves,settle,results,results18,go_sem,hc1,hc2]
  exact⟨_,_,⟨rfl,rfl⟩,ZT,hM.symm,fun h=>absurd h h0⟩
 have HP:Hid (Rz m=0):=AA (by unfold Rz;rw [HE0.out,AZ rfl,HE2.out,h0])
 obtain⟨T,d,s1,⟨A,c,s2⟩,s3,s4,s5⟩:=hd
 have hmod:KY++Li m++Oe m=LU m:=by unfold LU;rw [List.append_assoc]
 rw [hmod] at s2
 have hg2:=s2.blk.q 2 rfl
 have SQ:=AA hk3
 have HOW:=AA s2.own
 have HAP:Hid (∀k,(Value.slice A (LU m).length c).ownBlock=some k→ ¬KE w.heap.size k):=AA (fun k hk h=>(s2.apart k hk).1 (.inl h))
 clear s1 s2 s3 s4 s5 h0 hk3 hm0 hm1 hm2 IX qx Z7 MC bE
 have hdd:decide (((LU m).length:Int)≤65536)=decide ((LU m).length≤65536):=decide_eq_decide.2 (by omega)
 have HDD:=AA hdd
 clear hdd
 go_wp2_with fail
 refine(DT _ 13 0 (by decide) _).mono ?_
 rintro e w4 ⟨rfl,hcase⟩
 rw [HDD.out] at hcase
 rcases hcase with⟨h0,rfl⟩ | ⟨h0,rfl⟩
 case inr=>
  have hge:=yh.out.keep SQ.out (.inl (by omega))
  have hgb:=HGB.out.keep SQ.out (.inl (by omega))
  have hga:=HGA.out.keep SQ.out (.inr rfl)
  have HB:=AA (HB1.out.trans ((SQ.out).below HB1.out.size fun k hk=> .inl (by omega)))
  go_wp2_with fail
  refine leaves_cons (f:=62) (args:= #[.pointer (some ⟨w.heap.size+1+1,0,none⟩),.pointer (some ⟨w.heap.size+1+1+1+1+1,0,none⟩)]) (by simp) (by simp [go_sem]) ?_
  refine(Jp (Ae (decide ((LU m).length≤65536)) 13) 0 _ _ 0 0 _ hge hga (by omega)).mono ?_
  rintro e u' wx ⟨rfl,rfl,hkx,hbe,hba⟩
  have oQ:=hgb.keep hkx (by omega)
  refine leaves_cons (f:=65) (args:= #[.pointer (some ⟨w.heap.size+1+1,0,none⟩),.pointer (some ⟨w.heap.size+1,0,none⟩)]) (by simp [settle]) (by simp [go_sem]) ?_
  refine(Mf _ _ _ (Ae (decide ((LU m).length≤65536)) 13) _ _ hbe oQ).mono ?_
  rintro e u' wy ⟨rfl,rfl,hky,hby⟩
  have hc1:=hby.cell 0
  have hc2:=(hbe.keep hky (by omega)).cell 0
  have hM:GU m=Ae (decide ((LU m).length≤65536)) 13:=by unfold GU;rw [HP.out,AZ rfl]
  have ZT:=(HB.out.trans ((hkx.below (B:=w.heap.size) HB.out.size fun k hk=>by omega).trans (hky.below (B:=w.heap.size) (Nat.le_trans HB.out.size hkx.size) fun k hk=>by omega)))
  simp [Leaves,settle,results,results18,go_sem,hc1,hc2]
  exact⟨_,_,⟨rfl,rfl⟩,ZT,hM.symm,fun h=>absurd h h0⟩
 have HM:Hid (GU m=0):=AA (by unfold GU;rw [HP.out,AZ rfl,h0])
 have hge:=yh.out.keep SQ.out (.inl (by omega))
 have hgb:=HGB.out.keep SQ.out (.inl (by omega))
 have hcb:=hgb.cell 0
 have hce:=hge.cell 0
 have hfb:=hgb.frozen 0
 have hfe:=hge.frozen 0
 have hlb:=hgb.lt
 have hle:=hge.lt
 have HB:=AA (HB1.out.trans (SQ.out.below HB1.out.size fun k hk=> .inl (by omega)))
 have Hge:=AA hge;have Hgb:=AA hgb
 clear hge hgb h0
 go_wp2_with fail
 generalize Mr:World.setCell _ _ _=w5
 have hbe:AL w5 (w.heap.size+1+1) 33 [.int .i64 0]:=by
  rw [←Mr];exact(Hge.out.far (p:=⟨w.heap.size+1,0,none⟩) (by show w.heap.size+1+1≠w.heap.size+1;omega) _).set 0 _
 have hbb:AL w5 (w.heap.size+1) 41 [.slice A (LU m).length c]:=by
  rw [←Mr];exact(Hgb.out.set 0 _).far (p:=⟨w.heap.size+1+1,0,none⟩) (by show w.heap.size+1≠w.heap.size+1+1;omega) _
 have hO5:Ls w5 w.heap.size 5 (.slice A (LU m).length c) (LU m).length ((LU m).map bv):=by
  rw [←Mr]
  exact Ls.GX (K:=fun k=>k≠w.heap.size+1∧k≠w.heap.size+1+1) HOW.out (((Keep.refl _ _).setCell (fun h=>h.1 rfl) _).setCell (fun h=>h.2 rfl) _) (fun k hk=>by have:=HAP.out k hk;unfold KE at this;omega)
 have hb5:Below w.heap.size w w5:=by rw [←Mr];exact(HB.out.setCell (by show w.heap.size≤w.heap.size+1;omega) _).setCell (by show w.heap.size≤w.heap.size+1+1;omega) _
 refine leaves_cons (f:=62) (args:= #[.pointer (some ⟨w.heap.size+1+1,0,none⟩),.pointer (some ⟨w.heap.size+1+1+1+1+1,0,none⟩)]) (by simp) (by simp [go_sem]) ?_
 refine(TN _ _ _).mono ?_
 rintro e u' wx ⟨rfl,rfl,rfl⟩
 refine leaves_cons (f:=65) (args:= #[.pointer (some ⟨w.heap.size+1+1,0,none⟩),.pointer (some ⟨w.heap.size+1,0,none⟩)]) (by simp [settle]) (by simp [go_sem]) ?_
 refine(Mf _ _ _ 0 _ _ hbe hbb).mono ?_
 rintro e u' wy ⟨rfl,rfl,hky,hby⟩
 have hc1:=hby.cell 0
 have hc2:=(hbe.keep hky (by omega)).cell 0
 have hM:=HM.out
 have hOY:=Ls.GX hO5 hky (fun k hk=>by have:=HAP.out k hk;unfold KE at this;omega)
 have ZT:=hb5.trans (hky.below (B:=w.heap.size) hb5.size fun k hk=>by omega)
 simp [Leaves,settle,results,results18,go_sem,hc1,hc2]
 exact⟨_,_,⟨rfl,rfl⟩,ZT,hM.symm,fun _=>⟨A,c,rfl,hOY.row1 rfl⟩⟩
theorem bR (cs:List Value) (hi:Nat) (m:AP) (w:World) (h:JQ.R w 0 hi cs m) (hhi:hi≤w.heap.size) (hle:Ap m≤2147483647) (Px:Kc m)
 (htab: ∀w',Below hi w w'→Lib.TabIs prog w' "strings.asciiSpace" .u8 Lib.asciiSpaceTab):
 Calls prog 18 #[.agg cs.toArray] w fun e w'=>Below w.heap.size w w'∧ ∃v,e= .returned (.tuple #[v,.int .i64 (GU m)]):=
 (TP cs hi m w h hhi hle Px htab).mono fun e w' ⟨v,er,he,hb,hr,_⟩=>⟨hb,v,by rw [he,hr]⟩
theorem Wo (cs:List Value) (hi:Nat) (m:AP) (w:World) (h:JQ.R w 0 hi cs m) (hhi:hi≤w.heap.size) (hle:Ap m≤2147483647) (Px:Kc m)
 (htab: ∀w',Below hi w w'→Lib.TabIs prog w' "strings.asciiSpace" .u8 Lib.asciiSpaceTab):
 Calls prog 27 #[.agg cs.toArray] w fun e w'=>Below w.heap.size w w'∧e= .returned (.int .i64 (GU m)):=by
 have hb1:Below w.heap.size w (w.alloc (.cells cs.toArray 29)):=(Below.refl _ _).alloc (Nat.le_refl _) _
 have hen:=bR cs hi m (w.alloc (.cells cs.toArray 29)) (JQ.below h hb1 hhi) (by simp only [World.size_alloc];omega) hle Px (fun w' hb=>htab w' ((hb1.mono hhi).trans hb))
 obtain⟨v1,v2,v3,v4,v5,v6,rfl,_⟩:=EK.1 h
 have hm0:=(AL.new w 29 [v1,v2,v3,.int .i64 m.first,.int .i64 m.most,v4,v5,v6]).q 0 rfl
 have hm1:=(AL.new w 29 [v1,v2,v3,.int .i64 m.first,.int .i64 m.most,v4,v5,v6]).q 1 rfl
 have hm2:=(AL.new w 29 [v1,v2,v3,.int .i64 m.first,.int .i64 m.most,v4,v5,v6]).q 2 rfl
 have IX:=(AL.new w 29 [v1,v2,v3,.int .i64 m.first,.int .i64 m.most,v4,v5,v6]).q 3 rfl
 have qx:=(AL.new w 29 [v1,v2,v3,.int .i64 m.first,.int .i64 m.most,v4,v5,v6]).q 4 rfl
 have Z7:=(AL.new w 29 [v1,v2,v3,.int .i64 m.first,.int .i64 m.most,v4,v5,v6]).q 5 rfl
 have MC:=(AL.new w 29 [v1,v2,v3,.int .i64 m.first,.int .i64 m.most,v4,v5,v6]).q 6 rfl
 have bE:=(AL.new w 29 [v1,v2,v3,.int .i64 m.first,.int .i64 m.most,v4,v5,v6]).q 7 rfl
 have HB1:=AA hb1
 clear h hb1
 go_enter func27,ntmps27
 go_wp2_with fail
 refine hen.mono ?_
 clear hen
 rintro e w2 ⟨hb2,v,rfl⟩
 go_wp2_with fail
 go_ret
 exact⟨HB1.out.trans (hb2.mono (by simp only [World.size_alloc];omega)),rfl⟩
end Go.Proofs.YtejbcledkhioeaaGreatDoor
