/- Part 15 of the proof: ModI SlT ModJ -/
import Derived.Laws.IdiomStrings
import Derived.Test.YtebgikflpgcnlaaGreatDoorP13
import Derived.Test.YtebgikflpgcnlaaGreatDoorP14
namespace Go.Proofs.YtebgikflpgcnlaaGreatDoor
set_option linter.unusedVariables false
set_option linter.unusedSimpArgs false
set_option maxRecDepth 100000
set_option maxHeartbeats 4000000
open Go.RowKit Tryz
section
attribute [local irreducible] CG
theorem Ut {m:AQ} {k:Nat} {f:FL} (hx:m.fns[k]?=some f):YK m k=EO (Ae (decide (0≤f.t∧f.t<m.types.length)) 30) (EO (Dh f.loc (64-Qn m f.t)) (EO (Ae (decide (f.code.length≤2048)) 20) (EO (Ae (decide (JM m (k+1)≤16384)) 20) (Aq f.code.length (PN f))))):=by
 unfold YK;rw [hx]
theorem TQ {m:AQ} {k:Nat} {f:FL} (h0:Ae (decide (m.fns.length≤128)) 20=0) (he:Aq k (YK m)=0) (hx:m.fns[k]?=some f) {v:Int} (hv:v≠0) (hf:YK m k=v):Mt m=v:=by
 have h1:N9 m=v:=by
  unfold N9
  rw [AY h0,Ij he (by rw [hf];exact hv) _ (List.getElem?_eq_some_iff.1 hx).1,hf]
 unfold Mt
 rw [Dk (by rw [h1];exact hv),h1]
theorem iO {m:AQ} (hf:N9 m=0) {v:Int} (hv:v≠0) (h:v=Ae (decide (m.dat.length≤64)) 20:=by rfl):Mt m=v:=by
 subst h
 have h1:KW m=Ae (decide (m.dat.length≤64)) 20:=by unfold KW;rw [Dk hv]
 unfold Mt
 rw [AY hf,Dk (by rw [h1];exact hv),h1]
theorem Uu {m:AQ} (hf:N9 m=0) (h0:Ae (decide (m.dat.length≤64)) 20=0) {k:Nat} {d:EZ} (he:Aq k (Oz m)=0) (hx:m.dat[k]?=some d) {v:Int} (hv:v≠0) (hd:Oz m k=v):Mt m=v:=by
 have h1:KW m=v:=by
  unfold KW
  rw [AY h0,Ij he (by rw [hd];exact hv) _ (List.getElem?_eq_some_iff.1 hx).1,hd]
 unfold Mt
 rw [AY hf,Dk (by rw [h1];exact hv),h1]
theorem iP {m:AQ} (hf:N9 m=0) (hd:KW m=0) {v:Int} (hv:v≠0) (h:v=Ae (decide (m.AO.length≤64)) 20:=by rfl):Mt m=v:=by
 subst h
 have h1:NZ m=Ae (decide (m.AO.length≤64)) 20:=by unfold NZ;rw [Dk hv]
 unfold Mt
 rw [AY hf,AY hd,h1]
theorem ZB {m:AQ} (hf:N9 m=0) (hd:KW m=0) (h0:Ae (decide (m.AO.length≤64)) 20=0) {k:Nat} {x:LA} (he:Aq k (Rx m)=0) (hx:m.AO[k]?=some x) {v:Int} (hv:v≠0) (hE:Rx m k=v):Mt m=v:=by
 have h1:NZ m=v:=by
  unfold NZ
  rw [AY h0,Ij he (by rw [hE];exact hv) _ (List.getElem?_eq_some_iff.1 hx).1,hE]
 unfold Mt
 rw [AY hf,AY hd,h1]
def stE (m:AQ) (k:Nat) (d:EZ):Int:=EO (Ae (decide (0≤d.at_∧d.at_≤m.first*4096)) 17) (if k=0 then 0 else match (m.dat.take k)[k-1]? with | none=>0 | some y=>Ae (decide (y.at_+y.b.length<d.at_)) 18)
theorem TR {m:AQ} {k:Nat} {d:EZ} (hx:m.dat[k]?=some d):Oz m k=EO (stE m k d) (EO (Ae (decide ((d.b.length:Int)≤m.first*4096-d.at_)) 13) (Ae (decide (0<d.b.length)) 17)):=by
 unfold Oz stE
 rw [hx,I6]
 by_cases hk:k=0
 ·subst hk;rfl
 ·dsimp only;rw [if_neg hk,if_neg hk,List.getElem?_take,if_pos (by omega)];rfl
theorem uh {m:AQ} (hf0:0≤m.first) (hf1:m.first≤64) {k:Nat} (h:Aq k (Oz m)=0) (hk:k≤m.dat.length): ∀y∈m.dat.take k,0≤y.at_∧y.at_≤262144∧y.b.length≤262144:=by
 intro y hy
 obtain⟨j,hj⟩:=List.getElem?_of_mem hy
 rw [List.getElem?_take] at hj
 split at hj
 ·rename_i hlt
  have h1:=Aw h j hlt
  rw [TR hj] at h1
  obtain⟨a,b⟩:=AL h1
  obtain⟨b,_⟩:=AL b
  have a:=of_decide_eq_true (EY (by decide) (AL a).1)
  have b:=of_decide_eq_true (EY (by decide) b)
  omega
 ·cases hj
theorem WT {m:AQ} {k:Nat} {x:LA} (hx:m.AO[k]?=some x):Rx m k=EO (EO (Qo x.n) (Ws (m.AO.take k) k x.n)) (Ae (decide (0≤x.f∧x.f<m.fns.length)) 30):=by
 unfold Rx Ws
 rw [hx,I6]
 by_cases hk:k=0
 ·subst hk;rfl
 ·dsimp only;rw [if_neg hk,if_neg hk,List.getElem?_take,if_pos (by omega)]
theorem TS {f:FL} {j:Nat} {x:Av} (hx:f.code[j]?=some x):PN f j=Aa x:=by unfold PN;rw [hx]
theorem dZ {x:Av} (h:Aa x=0):0<(Kl x).length:=by
 unfold Aa at h
 unfold Kl
 cases hr:CG x.op.toNat with
 | none=>rw [hr] at h;cases h
 | some r=>simp
theorem QL {m:AQ} {k:Nat} {f:FL} (hx:m.fns[k]?=some f):JM m (k+1)=JM m k+f.code.length:=Wo (fun f:FL=>f.code.length) hx
theorem uj {m:AQ} (h:Ad m≤2147483647) (k:Nat):JM m k≤2147483647:=by
 have h1:=Rw (fun f:FL=>f.code.length) m.fns k
 have h2:Ak (fun f:FL=>f.code.length) m.fns≤Ak JB m.fns:=by
  unfold Ak
  induction m.fns with
  | nil=>simp
  | cons a l ih=>simp only [List.map_cons,List.sum_cons];unfold JB N8 at*;omega
 unfold Ad at h
 unfold JM
 omega
theorem Keep.cell {K:Nat→Prop} {w w':World} (h:Keep K w w') {p:Addr} (hp:p.block<w.heap.size) (hK:K p.block):w'.cell? p=w.cell? p:=by
 have hb:=h.block p.block hp hK
 simp [World.cell?,hb]
def fnC (A:Option Addr) (c:Nat) (f:FL):List Value:= [.int .i64 f.t,.string f.loc,.slice A f.code.length c]
structure FZ (w wr:World) (base g gs gm:Nat) (K K1:Nat→Prop) (m:AQ) (cs:List Value) (all:Nat) (L:List UInt8):Prop where
 kp:Keep K w wr
 box:AV wr gm 29 cs
 hd:Hd wr base g gs K1 m.first all m.types L
 hb:base≤wr.heap.size
structure ACI (m:AQ):Prop where
 sz:Ad m≤2147483647
 num:LM m
 par: ∀t∈m.types,t.p.size≤8
 f0:0≤m.first
 f1:m.first≤64
theorem FZ.K7 {w wr wr':World} {base g gs gm:Nat} {K K1:Nat→Prop} {m:AQ} {cs:List Value} {all:Nat} {L:List UInt8} (h:FZ w wr base g gs gm K K1 m cs all L) (hb:Below wr.heap.size wr wr'):FZ w wr' base g gs gm K K1 m cs all L:=
 ⟨h.kp.all hb,h.box.below hb h.box.lt,h.hd.K7 hb,Nat.le_trans h.hb hb.size⟩
theorem FZ.to {w wr wr':World} {base g gs gm:Nat} {K K1:Nat→Prop} {m:AQ} {cs:List Value} {all all':Nat} {L L':List UInt8} (h:FZ w wr base g gs gm K K1 m cs all L) (hk:Keep K1 wr wr') (hd:Hd wr' base g gs K1 m.first all' m.types L') (hm: ∀k,K k→K1 k) (hg:K1 gm):FZ w wr' base g gs gm K K1 m cs all' L':=
 ⟨h.kp.trans (hk.mono hm),h.box.keep hk hg,hd,Nat.le_trans h.hb hk.size⟩
theorem FZ.ACJ {w wr wr':World} {base g gs gm:Nat} {K K1:Nat→Prop} {m:AQ} {cs:List Value} {all:Nat} {L:List UInt8} (h:FZ w wr base g gs gm K K1 m cs all L) (hb:Below wr.heap.size wr wr') (hl:wr.heap.size<wr'.heap.size):FZ w wr' base g gs gm K (fun j=>K1 j∨j=wr.heap.size) m cs all L:=
 ⟨h.kp.all hb,h.box.below hb h.box.lt,h.hd.box hb hl,Nat.le_trans h.hb hb.size⟩
theorem FZ.less {w wr:World} {base g gs gm:Nat} {K K1 K2:Nat→Prop} {m:AQ} {cs:List Value} {all:Nat} {L:List UInt8} (h:FZ w wr base g gs gm K K2 m cs all L) (hk: ∀k,K1 k→K2 k):FZ w wr base g gs gm K K1 m cs all L:=
 ⟨h.kp,h.box,h.hd.less hk,h.hb⟩
end
theorem iQ {α:Type} {r:Rd α} {sp:Bool} {W:World} {lo hi:Nat} {A:Option Addr} {n c:Nat} {xs:List α} (h:(r.sl sp).R W lo hi [.slice A n c] xs):n≤c:=by
 obtain⟨A',c',he,hs,_⟩:=h
 injection he with he _
 injection he with h1 h2 h3
 have:=hs.2
 omega
theorem kQ {α:Type} {r:Rd α} {W:World} {lo hi:Nat} {A:Option Addr} {n c:Nat} {xs:List α} (h:(r.sl false).R W lo hi [.slice A n c] xs) {k:Nat} (hk:k≤n):(r.sl false).R W lo hi [.slice A k c] (xs.take k):=by
 have hc:=iQ h
 have hn:=D5 h
 obtain⟨A',c',he,hs,hx⟩:=h
 injection he with he _
 injection he with h1 h2 h3
 subst h1 h2 h3
 have hl:(xs.take k).length=k:=by rw [List.length_take];omega
 refine⟨A,c,by rw [hl],⟨fun h=>(by cases h),by rw [hl];omega⟩,fun h0=> ?_⟩
 obtain⟨b,o,e,b1,b2,hx⟩:=hx (by omega)
 refine⟨b,o,e,b1,b2,fun j x hj=>hx j x ?_⟩
 rw [List.getElem?_take] at hj
 split at hj
 ·exact hj
 ·cases hj
section
attribute [local irreducible] CG
theorem zS (cs:List Value) (hi base g gs:Nat) (K:Nat→Prop) (m:AQ) (L:List UInt8) (w:World) (h:IZ.R w 0 hi cs m) (hhi:hi≤w.heap.size) (hK: ∀k,k<hi→K k) (hd:Hd w base g gs K m.first 0 m.types L) (hbase:base≤w.heap.size) (hin:ACI m) (hL:L.length≤300000000000)
 (htab: ∀w',Below hi w w'→Lib.TabIs prog w' "strings.asciiSpace" .u8 Lib.asciiSpaceTab):
 Calls prog 67 #[.pointer (some ⟨g,0,none⟩),.agg cs.toArray] w fun e w'=>Keep K w w'∧Qy (Mt m) e (∃all:Nat,Hd w' base g gs K m.first all m.types (L++U9 m)):=by
 generalize dU:Mt m=EE
 have HE:=AA dU
 clear dU
 obtain⟨v1,v2,v3,v4,v5,v6,rfl,h1,h2,h3,n_,hm63,h4,h5,h6⟩:=DF.1 h
 obtain⟨A1,c1,rfl⟩:=AU h1
 obtain⟨A2,c2,rfl⟩:=AU h2
 obtain⟨A3,c3,rfl⟩:=AU h3
 obtain⟨A4,c4,rfl⟩:=AU h4
 obtain⟨A5,c5,rfl⟩:=AU h5
 obtain⟨A6,c6,rfl⟩:=AU h6
 have H4:=AA h4;have H5:=AA h5;have H6:=AA h6;have Zy:=AA hK;have OJ:=AA hin;have HTAB:=AA htab;have HD0:=AA hd
 clear h h1 h2 h3 h4 h5 h6 hK hin htab hd hm63
 go_enter func67,ntmps67
 go_wp2_with fail
 generalize hw1:w.alloc _=w1
 have hb1:Below w.heap.size w w1:=by rw [←hw1];exact(Below.refl _ _).alloc (Nat.le_refl _) _
 have hbx:AV w1 w.heap.size 29 (Pj A1 A2 A3 A4 A5 A6 c1 c2 c3 c4 c5 c6 m):=by rw [←hw1];exact AV.new w 29 (Pj A1 A2 A3 A4 A5 A6 c1 c2 c3 c4 c5 c6 m)
 have hdd:=HD0.out.box hb1 (by rw [←hw1];simp)
 generalize hK1:(fun k=>K k∨k=w.heap.size)=K1 at*
 have HKK:Hid ((∀k,K k→K1 k)∧K1 w.heap.size):=AA (by rw [←hK1];exact⟨fun k h=> .inl h,.inr rfl⟩)
 have HB1:Hid (FZ w w1 base g gs w.heap.size K K1 m (Pj A1 A2 A3 A4 A5 A6 c1 c2 c3 c4 c5 c6 m) 0 L):=AA ⟨Keep.Am hb1,hbx,hdd,Nat.le_trans hbase hb1.size⟩
 have hlf:m.fns.length≤2147483647:=by have:=OJ.out.sz;unfold Ad at this;omega
 clear hw1 hb1 hbx hdd hK1 HD0
 have hcount:=Ph m.fns.length 128 (by omega) HB1.out.hd (by omega) HB1.out.hb
 refine hcount.mono ?_
 clear hcount
 rintro e w2 ⟨hk,hcase⟩
 rcases hcase with⟨h0,rfl,hd⟩ | ⟨h0,rfl⟩
 case inr=>
  have H0:=AA h0;clear h0
  have Zz:=AA (HB1.out.kp.trans (hk.mono HKK.out.1))
  go_wp2_with fail
  have hX:EE=Ae (decide (m.fns.length≤128)) 20:=by
   rw [←HE.out]
   have:N9 m=Ae (decide (m.fns.length≤128)) 20:=by unfold N9;rw [Dk H0.out]
   unfold Mt
   rw [Dk (by rw [this];exact H0.out),this]
  exact⟨rfl,Zz.out,.inr ⟨by rw [hX];exact H0.out,by rw [hX]⟩⟩
 have oF:=AA h0
 have HB2:=AA (HB1.out.to (all':=0) hk hd HKK.out.1 HKK.out.2)
 clear h0 hk hd HB1
 have hx5:=HB2.out.box.q 5 rfl
 go_upto_block 0 with fail
 go_cut [] (fun wx=>FZ w wx base g gs w.heap.size K K1 m (Pj A1 A2 A3 A4 A5 A6 c1 c2 c3 c4 c5 c6 m) (JM m m.fns.length) (L++(enc m.fns.length++m.fns.flatMap Wt))∧Aq m.fns.length (YK m)=0)
 case first=>
  clear hx5
  go_wp2_with fail
  go_loopw [22] (fun i wr=> ∃k:Nat,k≤m.fns.length∧i= .int .i64 k∧FZ w wr base g gs w.heap.size K K1 m (Pj A1 A2 A3 A4 A5 A6 c1 c2 c3 c4 c5 c6 m) (JM m k) (L++(enc m.fns.length++(m.fns.take k).flatMap Wt))∧Aq k (YK m)=0)
   (fun i _=>m.fns.length-(intOf i).toNat)
  case atStart=>exact⟨0,Nat.zero_le _,rfl,by simpa [JM,Ak] using HB2.out,rfl⟩
  case round=>
   obtain⟨k,hk,rfl,hbr,her⟩:=hrel
   have Ky:=AA hbr;have RN:=AA her
   clear hbr her
   by_cases hltk:k<m.fns.length
   ·obtain⟨f,hx⟩: ∃f,m.fns[k]?=some f:=⟨_,List.getElem?_eq_getElem hltk⟩
    obtain⟨b,o,iR,oI,rfl,_,Kg,hd0,hd1,hd2,AEO,hloc,hcode⟩:=Oy H4.out hx
    have hbw:b<w.heap.size:=Nat.lt_of_lt_of_le Kg hhi
    have hc0':=(Ky.out.kp.cell (p:=⟨b,o+k*3,none⟩) hbw (Zy.out b Kg)).trans hd0
    have hc1':=(Ky.out.kp.cell (p:=⟨b,o+k*3+1,none⟩) hbw (Zy.out b Kg)).trans hd1
    have hc2':=(Ky.out.kp.cell (p:=⟨b,o+k*3+2,none⟩) hbw (Zy.out b Kg)).trans hd2
    have AEP:=AA hcode
    have Hx:=AA hx
    have hk0:(0:Int)≤k:=by omega
    have Xh:Hid ((L++(enc m.fns.length++(m.fns.take k).flatMap Wt)).length≤390194315000):=AA (by
     have h1:=Zc OJ.out.num OJ.out.sz m.fns.length k hlf
     have:=OJ.out.sz
     rw [List.length_append];omega)
    have hz0:=Ky.out.box.q 0 rfl
    have hzl:w.heap.size<wr.heap.size:=Ky.out.box.lt
    clear hx hcode hd0 hd1 hd2
    go_wp2_with fail
    generalize hw3:wr.alloc _=w3
    have hb3:Below wr.heap.size wr w3:=by rw [←hw3];exact(Below.refl _ _).alloc (Nat.le_refl _) _
    have HB3:=AA (Ky.out.ACJ hb3 (by rw [←hw3];simp))
    have Rp:Hid (AV w3 wr.heap.size 56 (fnC iR oI f)):=by rw [←hw3];exact AA (AV.new wr 56 (fnC iR oI f))
    generalize hK2:(fun j=>K1 j∨j=wr.heap.size)=K2 at HB3
    have Hw:Hid ((∀j,K1 j→K2 j)∧K2 wr.heap.size∧(∀j,K j→K2 j)∧K2 w.heap.size):=AA (by rw [←hK2];exact⟨fun j h=> .inl h,.inr rfl,fun j h=> .inl (HKK.out.1 j h),.inl HKK.out.2⟩)
    generalize fO:L++(enc m.fns.length++(m.fns.take k).flatMap Wt)=LL at*
    have uZ:=AA fO
    clear hw3 hb3 hK2 hc0' hc1' hc2' fO hz0
    have hci:=Xd f.t m.types.length AEO.2 HB3.out.hd (by have:=Xh.out;omega) HB3.out.hb
    generalize um:Ae (decide (0≤f.t∧f.t<m.types.length)) 30=v30 at hci
    have HV:=AA um
    clear um
    refine hci.mono ?_
    clear hci
    rintro e w4 ⟨hk4,hcase⟩
    rcases hcase with⟨kR,rfl,hd4⟩ | ⟨kR,rfl⟩
    case inr=>
     have zT:=AA kR
     have xL:=AA (HB3.out.kp.trans (hk4.mono Hw.out.2.2.1))
     have hX:Hid (EE=v30):=AA (by rw [←HE.out];exact TQ oF.out RN.out Hx.out kR (by rw [Ut Hx.out,HV.out,Dk kR]))
     clear kR hk4
     go_wp2_with fail
     exact⟨rfl,xL.out,.inr ⟨by rw [hX.out];exact zT.out,by rw [hX.out]⟩⟩
    have zT:Hid (Ae (decide (0≤f.t∧f.t<m.types.length)) 30=0):=AA (by rw [HV.out];exact kR)
    have Ke:=AA (HB3.out.to hk4 hd4 Hw.out.2.2.1 Hw.out.2.2.2)
    have Va:=AA (Rp.out.keep hk4 Hw.out.2.1)
    have hft:=of_decide_eq_true (EY (by decide) zT.out)
    obtain⟨t,ht⟩:=Int.eq_ofNat_of_zero_le hft.1
    obtain⟨x,hxt⟩: ∃x,m.types[t]?=some x:=⟨_,List.getElem?_eq_getElem (by omega)⟩
    have Hxt:Hid (m.types[t]?=some x∧Qn m f.t=x.p.size):=AA ⟨hxt,by unfold Qn;rw [ht];simp [hxt]⟩
    have hp8:=OJ.out.par x (List.mem_of_getElem? hxt)
    have hroom:=zN t x (Ke.out.K7 (show Below w4.heap.size w4 w4.drew from⟨rfl,rfl,rfl,Nat.le_refl _,fun _ _=>rfl⟩)).hd hxt (by omega)
    rw [←ht] at hroom
    have HRM:=AA (hroom.mono fun e w' h=>(⟨h.2,h.1⟩:e=_∧w'=w4.drew))
    have HF1:Hid ((enc f.t.toNat).length≤10):=AA (Nl AEO.2)
    have hm0:=Va.out.q 0 rfl
    have hm1:=Va.out.q 1 rfl
    clear kR hk4 hd4 hft ht hxt hroom HB3 Rp
    go_wp2_with fail
    go_still_tail 11,(by kernel_rfl)
    repeat still_step
    still_call HRM.out
    repeat still_step
    try refine wpStill_nil ?_
    change wpList _ _ _ _ _ w4.drew
    have AEQ:=AA (Ke.out.K7 (show Below w4.heap.size w4 w4.drew from⟨rfl,rfl,rfl,Nat.le_refl _,fun _ _=>rfl⟩))
    have ACK:Hid (AV w4.drew wr.heap.size 56 (fnC iR oI f)):=AA Va.out
    clear HRM Ke Va hm0 hm1
    generalize w4.drew=w5 at*
    go_wp2_with fail
    refine(R9 _ f.loc (64-x.p.size) hloc _).mono ?_
    rintro e w6 ⟨hb6,hcase⟩
    have MU:=AA (AEQ.out.K7 hb6);have oC:=AA (ACK.out.below hb6 ACK.out.lt)
    clear hb6 AEQ ACK
    rw [←Hxt.out.2] at hcase
    rcases hcase with⟨h8,rfl⟩ | ⟨h8,rfl⟩
    case inr=>
     have H8:=AA h8
     have hX:Hid (EE=Dh f.loc (64-Qn m f.t)):=AA (by rw [←HE.out];exact TQ oF.out RN.out Hx.out h8 (by rw [Ut Hx.out,AY zT.out,Dk h8]))
     clear h8
     go_wp2_with fail
     exact⟨rfl,MU.out.kp,.inr ⟨by rw [hX.out];exact H8.out,by rw [hX.out]⟩⟩
    have H8:=AA h8;clear h8
    have hm1:=oC.out.q 1 rfl
    have hlocsz:f.loc.size≤64:=by have:=(JX H8.out).1;omega
    have ZC:=AA (Kw (s:=f.loc) (by omega))
    go_wp2_with fail
    have hct:=TP f.loc (by omega) MU.out.hd (by have:=Xh.out;have:=HF1.out;rw [List.length_append];omega) MU.out.hb
    refine hct.mono ?_
    clear hct
    rintro e w7 ⟨rfl,dW,hd7⟩
    have dK:=AA (MU.out.to dW hd7 Hw.out.2.2.1 Hw.out.2.2.2);have Hn7:=AA (oC.out.keep dW Hw.out.2.1)
    have hm2:=Hn7.out.q 2 rfl
    clear dW hd7 MU oC hm1
    go_wp2_with fail
    go_still_tail 6,(by kernel_rfl)
    repeat still_step
    try refine wpStill_nil ?_
    change wpList _ _ _ _ _ w7.drew
    have zU:=AA (dK.out.K7 (show Below w7.heap.size w7 w7.drew from⟨rfl,rfl,rfl,Nat.le_refl _,fun _ _=>rfl⟩))
    have AER:Hid (AV w7.drew wr.heap.size 56 (fnC iR oI f)):=AA Hn7.out
    clear dK Hn7 hm2
    generalize w7.drew=w8 at*
    have hcl:f.code.length≤2147483647:=by have h1:=Dy JB m.fns f (List.mem_of_getElem? Hx.out);have h2:=OJ.out.sz;have h3:f.code.length≤JB f:=(by unfold JB N8;omega);unfold Ad at h2;omega
    have hcc:=zM f.code.length hcl (uj OJ.out.sz k) zU.out.hd
    go_wp2_with fail
    refine hcc.mono ?_
    clear hcc
    rintro e w9 ⟨hk9,hcase⟩
    rcases hcase with⟨h20,rfl,hd9⟩ | ⟨h20,rfl⟩
    case inr=>
     have H20:=AA h20
     have HK9:=AA (zU.out.kp.trans (hk9.mono Hw.out.2.2.1))
     have hX:Hid (EE=EO (Ae (decide (f.code.length≤2048)) 20) (Ae (decide (JM m k+f.code.length≤16384)) 20)):=AA (by
      rw [←HE.out]
      refine TQ oF.out RN.out Hx.out h20 ?_
      rw [Ut Hx.out,AY zT.out,AY H8.out,QL Hx.out,←I6,Dk h20])
     clear h20 hk9
     go_wp2_with fail
     exact⟨rfl,HK9.out,.inr ⟨by rw [hX.out];exact H20.out,by rw [hX.out]⟩⟩
    have H20:=AA h20
    have Pq:=AA (zU.out.to hk9 hd9 Hw.out.2.2.1 Hw.out.2.2.2);have Hn9:=AA (AER.out.keep hk9 Hw.out.2.1)
    have hm2:=Hn9.out.q 2 rfl
    clear h20 hk9 hd9 zU AER
    go_wp2_with fail
    have hcn:=RL f.code.length (by omega) Pq.out.hd (by have:=Xh.out;have:=HF1.out;have:=ZC.out;simp only [List.length_append] at*;omega) Pq.out.hb
    refine hcn.mono ?_
    clear hcn
    rintro e wa ⟨rfl,hka,hda⟩
    have YL:=AA (Pq.out.to hka hda Hw.out.2.2.1 Hw.out.2.2.2);have Hna:=AA (Hn9.out.keep hka Hw.out.2.1)
    have IX:=Hna.out.q 2 rfl
    clear hka hda Pq Hn9 hm2
    go_upto_block 2 with fail
    generalize hLF:LL++enc f.t.toNat++JH f.loc++enc f.code.length=LF at*
    have HLF:=AA hLF
    have AET:Hid (∀j,(LF++(f.code.take j).flatMap Kl).length≤500000000000):=AA (fun j=>by
     have h1:=ji OJ.out.num OJ.out.sz (List.mem_of_getElem? Hx.out) j
     have h2:=Dy JB m.fns f (List.mem_of_getElem? Hx.out)
     have h3:=OJ.out.sz
     have h4:=Xh.out
     rw [←hLF]
     unfold Ad at h3
     simp only [List.length_append] at*
     omega)
    clear hLF
    go_wp2_with fail
    clear IX Ky
    generalize wr.heap.size=fb at*
    clear wr
    go_loopw [64] (fun i wi=> ∃j:Nat,j≤f.code.length∧i= .int .i64 j∧FZ w wi base g gs w.heap.size K K2 m (Pj A1 A2 A3 (some ⟨b,o,none⟩) A5 A6 c1 c2 c3 c4 c5 c6 m) (JM m k+f.code.length) (LF++(f.code.take j).flatMap Kl)∧Aq j (PN f)=0)
     (fun i _=>f.code.length-(intOf i).toNat)
    case atStart=>exact⟨0,Nat.zero_le _,rfl,by simpa using YL.out,rfl⟩
    case round=>
     obtain⟨j,hj,rfl,hbi,hei⟩:=hrel
     have HBi:=AA hbi;have HEi:=AA hei
     clear hbi hei
     by_cases AEU:j<f.code.length
     ·obtain⟨y,hy⟩: ∃y,f.code[j]?=some y:=⟨_,List.getElem?_eq_getElem AEU⟩
      obtain⟨bi,oi,hAc,_,zV,cs,hcs,hri⟩:=NW AEP.out hy
      subst hAc
      have hri2:=hri
      obtain⟨fu,rfl,iT,hl⟩:=D9.1 hri2
      obtain⟨OT,Nt,rfl⟩:=AU hl
      have hbw:bi<w.heap.size:=Nat.lt_of_lt_of_le zV hhi
      have hi0:wr.cell? ⟨bi,oi+j*3,none⟩=some (.int .u8 (y.op.toNat:Int)):=(HBi.out.kp.cell (p:=⟨bi,oi+j*3,none⟩) hbw (Zy.out bi zV)).trans (hcs 0 _ rfl)
      have hi1:wr.cell? ⟨bi,oi+j*3+1,none⟩=some (.int .i64 y.a):=(HBi.out.kp.cell (p:=⟨bi,oi+j*3+1,none⟩) hbw (Zy.out bi zV)).trans (hcs 1 _ rfl)
      have hi2:wr.cell? ⟨bi,oi+j*3+2,none⟩=some (.slice OT y.l.length Nt):=(HBi.out.kp.cell (p:=⟨bi,oi+j*3+2,none⟩) hbw (Zy.out bi zV)).trans (hcs 2 _ rfl)
      have hj0:(0:Int)≤j:=by omega
      have Hri:=AA hri;have Hy:=AA hy
      clear hri hcs hl hy hbw iT
      go_wp2_with fail
      generalize hwi:wr.alloc _=wi
      have hbi:Below wr.heap.size wr wi:=by rw [←hwi];exact(Below.refl _ _).alloc (Nat.le_refl _) _
      have HBj:=AA (HBi.out.K7 hbi)
      clear hwi hbi hi0 hi1 hi2 HBi
      have hen:=Z5 _ hi y wi (Rd.Iz Hri.out HBj.out.kp hhi (fun j _ h=>Zy.out j h)) (Nat.le_trans hhi HBj.out.kp.size) (HTAB.out _ (HBj.out.kp.below hhi Zy.out))
      by_cases h0:Aa y=0
      case neg=>
       generalize hci:Aa y=ci at hen h0
       have HCI:=AA hci
       clear hci
       refine hen.mono ?_
       clear hen
       rintro e wj ⟨hbj,Aj,cj,rfl,hoj⟩
       have HBk:=AA (HBj.out.K7 hbj)
       have hX:Hid (EE=ci):=AA (by
        have h1:=AL H20.out
        rw [←HE.out]
        refine TQ oF.out RN.out Hx.out h0 ?_
        rw [Ut Hx.out,AY zT.out,AY H8.out,AY h1.1,QL Hx.out,AY h1.2,Ij HEi.out (by rw [TS Hy.out,HCI.out];exact h0) _ AEU,TS Hy.out,HCI.out])
       have hb:(ci==0)=false:=by simpa using h0
       have Hc0:=AA h0
       clear hbj hoj HBj h0
       go_wp2_with fail
       refine(EU ci 0 _).mono ?_
       rintro e wk ⟨rfl,rfl⟩
       go_wp2_with fail
       exact⟨rfl,HBk.out.kp,.inr ⟨by rw [hX.out];exact Hc0.out,by rw [hX.out]⟩⟩
      have Hc0:=AA h0
      have hio:Dm y=Kl y:=by unfold Dm;rw [if_pos h0]
      rw [hio,h0] at hen
      refine hen.mono ?_
      clear hen h0 hio
      rintro e wj ⟨hbj,Aj,cj,rfl,hoj⟩
      have HBk:=AA (HBj.out.K7 hbj)
      have HRow:=AA (Row.own hoj)
      clear hbj hoj HBj
      go_wp2_with fail
      refine(Et 0 0 _).mono ?_
      rintro e wk ⟨rfl,rfl⟩
      have hd:=HBk.out.hd
      obtain⟨T,d,s1,⟨A,c,s2⟩,s3,s4,s5⟩:=hd
      generalize hLJ:LF++(f.code.take j).flatMap Kl=LJ at*
      have HLJ:=AA hLJ
      have AEW:Hid (LJ.length≤500000000000∧LJ.length+(Kl y).length≤500000000000):=AA ⟨by rw [←hLJ];exact AET.out j,by have:=AET.out (j+1);rw [FK Hy.out,←List.append_assoc,hLJ,List.length_append] at this;exact this⟩
      have hg2:=s2.blk.q 2 rfl
      have hgf:=s2.blk.frozen 2
      have hgl:=s2.blk.lt
      have hbk:base≤wj.heap.size:=HBk.out.hb
      have xO:=AA s1;have uV:=AA s2;have Hs4:=AA s4;have zQ:=AA s5
      obtain⟨i0,hi0,hz,hs',hby⟩:=info_parts G8
      clear hLJ s1 s2 s4 s5
      go_wp2_with (at_builtin;refine VJ _ rfl (.tmp 81) (.tmp 82) 41 rfl base 5 i0 _ 1 underlying41 hi0 hz hs' hby rfl _ LJ.length (LJ.map bv) rfl (by exact uV.out.own) _ Aj (Kl y).length cj ((Kl y).map bv) (dZ Hc0.out) rfl (by rw [List.length_map,Nat.mul_one]) (by exact HRow.out) (LC _) (by have:=AEW.out;unfold maxLen;omega) (by have:=AEW.out;omega) hbk ?_;intro A8 c8 w8 h2 h3 h4;have HP:=AA (uV.out.put rfl h3 h2 h4);have FX:=EB h3 uV.out.blk (fun e=>(uV.out.apart g e).2 rfl);have hf8:=FX.frozen 2;have hc8:=FX.cell 2;have hl8:=FX.lt;clear h2 h3 h4 FX)
      all_goals
       have HH:=AA (Hd.of xO.out s3 Hs4.out zQ.out HP.out.1 HP.out.2)
       have HN:Hid (Aq (j+1) (PN f)=0):=AA (Ib HEi.out (by rw [TS Hy.out];exact Hc0.out))
       have HF:Hid (LJ++Kl y=LF++(f.code.take (j+1)).flatMap Kl):=AA (by rw [FK Hy.out,←HLJ.out,List.append_assoc])
       refine⟨⟨j+1,by omega,by go_num,?_,HN.out⟩,by simp [intOf];omega⟩
       rw [←HF.out]
       exact HBk.out.to HH.out.1 HH.out.2 Hw.out.2.2.1 Hw.out.2.2.2
     ·obtain rfl:j=f.code.length:=by omega
      have HD:Hid (FZ w wr base g gs w.heap.size K K1 m (Pj A1 A2 A3 (some ⟨b,o,none⟩) A5 A6 c1 c2 c3 c4 c5 c6 m) (JM m (k+1)) (L++(enc m.fns.length++(m.fns.take (k+1)).flatMap Wt))):=AA (by
       have h:=HBi.out.less Hw.out.1
       rw [List.take_length,←HLF.out,←uZ.out,←QL Hx.out] at h
       rw [FK Hx.out]
       rw [show Wt f=enc f.t.toNat++JH f.loc++enc f.code.length++f.code.flatMap Kl from rfl]
       simpa only [List.append_assoc] using h)
      have HN:Hid (Aq (k+1) (YK m)=0):=AA (Ib RN.out (by
       have:=AL H20.out
       rw [Ut Hx.out,AY zT.out,AY H8.out,AY this.1,QL Hx.out,AY this.2,HEi.out]))
      go_wp2_with fail
      exact⟨⟨k+1,by omega,by go_num,HD.out,HN.out⟩,by simp [intOf];omega⟩
   ·obtain rfl:k=m.fns.length:=by omega
    go_wp2_with fail
    go_meet
    refine⟨?_,RN.out⟩
    have:=Ky.out
    rw [List.take_length] at this
    exact this
 case rest=>
  obtain⟨hbc,iL⟩:=hcut
  have qF:Hid (N9 m=0):=AA (by unfold N9;rw [AY oF.out];exact iL)
  have ACP:Hid ((L++(enc m.fns.length++m.fns.flatMap Wt)).length≤390194315000):=AA (by
   have h1:=Zc OJ.out.num OJ.out.sz m.fns.length m.fns.length hlf
   rw [List.take_length] at h1
   have:=OJ.out.sz
   rw [List.length_append];omega)
  generalize hL1:L++(enc m.fns.length++m.fns.flatMap Wt)=L1 at*
  have KZ:=AA hL1
  have ZA:=AA hbc
  have hx6:=hbc.box.q 6 rfl
  have hld:m.dat.length≤2147483647:=by have:=OJ.out.sz;unfold Ad at this;omega
  generalize JM m m.fns.length=dh at*
  clear hbc iL hL1 HB2 hx5
  go_wp2_with fail
  have hcount:=Ph m.dat.length 64 (by omega) ZA.out.hd (by have:=ACP.out;omega) ZA.out.hb
  refine hcount.mono ?_
  clear hcount
  rintro e wd ⟨hk,hcase⟩
  rcases hcase with⟨h0,rfl,hd⟩ | ⟨h0,rfl⟩
  case inr=>
   have H0:=AA h0;clear h0
   have Zz:=AA (ZA.out.kp.trans (hk.mono HKK.out.1))
   go_wp2_with fail
   have hX:EE=Ae (decide (m.dat.length≤64)) 20:=by rw [←HE.out];exact iO qF.out H0.out
   exact⟨rfl,Zz.out,.inr ⟨by rw [hX];exact H0.out,by rw [hX]⟩⟩
  have HD0:=AA h0
  have HBd:=AA (ZA.out.to (all':=dh) hk hd HKK.out.1 HKK.out.2)
  have hx6:=HBd.out.box.q 6 rfl
  clear h0 hk hd ZA
  go_upto_block 4 with fail
  go_cut [] (fun wx=>FZ w wx base g gs w.heap.size K K1 m (Pj A1 A2 A3 A4 A5 A6 c1 c2 c3 c4 c5 c6 m) dh (L1++(enc m.dat.length++m.dat.flatMap Mv))∧Aq m.dat.length (Oz m)=0)
  case first=>
   clear hx6
   go_wp2_with fail
   go_loopw [96] (fun i wr=> ∃k:Nat,k≤m.dat.length∧i= .int .i64 k∧FZ w wr base g gs w.heap.size K K1 m (Pj A1 A2 A3 A4 A5 A6 c1 c2 c3 c4 c5 c6 m) dh (L1++(enc m.dat.length++(m.dat.take k).flatMap Mv))∧Aq k (Oz m)=0)
    (fun i _=>m.dat.length-(intOf i).toNat)
   case atStart=>exact⟨0,Nat.zero_le _,rfl,by simpa using HBd.out,rfl⟩
   case round=>
    obtain⟨k,hk,rfl,hbr,her⟩:=hrel
    have Ky:=AA hbr;have RN:=AA her
    clear hbr her
    by_cases hltk:k<m.dat.length
    ·obtain⟨d,hx⟩: ∃d,m.dat[k]?=some d:=⟨_,List.getElem?_eq_getElem hltk⟩
     have hcap:=iQ H5.out
     have htk:=kQ H5.out (k:=k) (by omega)
     obtain⟨b,o,Sb,Rl,rfl,_,Kg,hd0,hd1,hat,hbb⟩:=Jd H5.out hx
     have hbw:b<w.heap.size:=Nat.lt_of_lt_of_le Kg hhi
     have hc0':=(Ky.out.kp.cell (p:=⟨b,o+k*2,none⟩) hbw (Zy.out b Kg)).trans hd0
     have hc1':=(Ky.out.kp.cell (p:=⟨b,o+k*2+1,none⟩) hbw (Zy.out b Kg)).trans hd1
     have zW:=AA hbb;have HTK:=AA htk
     have Hx:=AA hx
     have hk0:(0:Int)≤k:=by omega
     have hkc:k≤c5:=by omega
     have Xh:Hid ((L1++(enc m.dat.length++(m.dat.take k).flatMap Mv)).length≤490194315000):=AA (by
      have h1:=Zd OJ.out.num OJ.out.sz m.dat.length k hld
      have:=OJ.out.sz
      have:=ACP.out
      rw [List.length_append];omega)
     have Hbl:Hid (d.b.length≤2147483647):=AA (by
      have h1:=Dy (fun d:EZ=>d.b.length) m.dat d (List.mem_of_getElem? hx)
      have h2:=OJ.out.sz
      unfold Ad at h2;omega)
     have hz3:=Ky.out.box.q 6 rfl
     have hzl:w.heap.size<wr.heap.size:=Ky.out.box.lt
     clear hx hd0 hd1 hbb htk hcap
     go_upto_region 22 with fail
     generalize hw3:wr.alloc _=w3
     have hb3:Below wr.heap.size wr w3:=by rw [←hw3];exact(Below.refl _ _).alloc (Nat.le_refl _) _
     have HB3:=AA (Ky.out.ACJ hb3 (by rw [←hw3];simp))
     have Rp:Hid (AV w3 wr.heap.size 59 [.int .i64 d.at_,.slice Sb d.b.length Rl]):=by rw [←hw3];exact AA (AV.new wr 59 [.int .i64 d.at_,.slice Sb d.b.length Rl])
     generalize hK2:(fun j=>K1 j∨j=wr.heap.size)=K2 at HB3
     have Hw:Hid ((∀j,K1 j→K2 j)∧K2 wr.heap.size∧(∀j,K j→K2 j)∧K2 w.heap.size):=AA (by rw [←hK2];exact⟨fun j h=> .inl h,.inr rfl,fun j h=> .inl (HKK.out.1 j h),.inl HKK.out.2⟩)
     generalize fO:L1++(enc m.dat.length++(m.dat.take k).flatMap Mv)=LL at*
     have uZ:=AA fO
     clear hw3 hb3 hK2 hc0' hc1' fO hz3
     have HST:=AA (fun W (hb:Below w3.heap.size w3 W)=>nk d.at_ (some ⟨b,o,none⟩) k c5 0 hi (m.dat.take k) (HB3.out.K7 hb).hd (Rd.Iz HTK.out (HB3.out.kp.trans (Keep.Am hb)) hhi (fun j _ h=>Zy.out j h)) OJ.out.f0 OJ.out.f1 hat (uh OJ.out.f0 OJ.out.f1 RN.out hk) (by have:=EY (by decide) HD0.out;have:=of_decide_eq_true this;omega))
     have hm0:=Rp.out.q 0 rfl
     have OU:=HB3.out.box.q 6 rfl
     go_still_tail 9,(by kernel_rfl)
     repeat still_step
     try refine wpStill_nil ?_
     change wpList _ _ _ _ _ w3.drew
     have hbd:Below w3.heap.size w3 w3.drew:=⟨rfl,rfl,rfl,Nat.le_refl _,fun _ _=>rfl⟩
     have Ke:=AA (HB3.out.K7 hbd)
     have Va:Hid (AV w3.drew wr.heap.size 59 [.int .i64 d.at_,.slice Sb d.b.length Rl]):=AA Rp.out
     have hst:=HST.out w3.drew hbd
     clear HST HB3 Rp hm0 OU hbd
     generalize w3.drew=w4 at*
     go_wp2_with fail
     refine hst.mono ?_
     clear hst
     rintro e w5 ⟨hb5,hcase⟩
     change Ends (stE m k d) 0 e at hcase
     have I8:=AA (Ke.out.K7 hb5);have VK:=AA (Va.out.below hb5 Va.out.lt)
     clear hb5 Ke Va
     rcases hcase with⟨h0,rfl⟩ | ⟨h0,rfl⟩
     case inr=>
      have hX:Hid (EE=stE m k d):=AA (by rw [←HE.out];exact Uu qF.out HD0.out RN.out Hx.out h0 (by rw [TR Hx.out,Dk h0]))
      have HS:=AA h0;clear h0
      go_wp2_with fail
      exact⟨rfl,I8.out.kp,.inr ⟨by rw [hX.out];exact HS.out,by rw [hX.out]⟩⟩
     have HS:=AA h0;clear h0
     have AEX:=of_decide_eq_true (EY (by decide) (AL HS.out).1)
     obtain⟨n,hn⟩:=Int.eq_ofNat_of_zero_le AEX.1
     have hm0:=VK.out.q 0 rfl
     have Hnn:Hid (d.at_=(n:Int)∧n≤262144):=AA ⟨hn,by have:=OJ.out.f1;omega⟩
     have hcn:=RL n (by have:=Hnn.out.2;omega) I8.out.hd (by have:=Xh.out;omega) I8.out.hb
     rw [←hn] at hcn
     have hfa: -9223372036854775808≤m.first*4096∧m.first*4096≤262144∧0≤d.at_∧d.at_≤m.first*4096:=by have:=OJ.out.f0;have:=OJ.out.f1;omega
     have Hfa:=AA hfa
     clear hn AEX hfa
     go_wp2_with fail
     refine hcn.mono ?_
     clear hcn
     rintro e w6 ⟨rfl,fP,hd6⟩
     have MU:=AA (I8.out.to fP hd6 Hw.out.2.2.1 Hw.out.2.2.2);have oC:=AA (VK.out.keep fP Hw.out.2.1)
     have hm1:=oC.out.q 1 rfl
     have hm0:=oC.out.q 0 rfl
     have hz3:=MU.out.box.q 3 rfl
     have hfa:=Hfa.out
     have hwm:IntKind.i64.wrap (m.first*4096)=m.first*4096:=by rw [IntKind.wrap_i64];omega
     have hws:IntKind.i64.wrap (m.first*4096-d.at_)=m.first*4096-d.at_:=by rw [IntKind.wrap_i64];omega
     clear fP hd6 I8 VK hfa
     go_wp2_with fail
     refine(JJ _ 13 0 (by decide) _).mono ?_
     rintro e w7 ⟨rfl,hcase⟩
     rcases hcase with⟨h0,rfl⟩ | ⟨h0,rfl⟩
     case inr=>
      have H13:=AA h0
      have hX:Hid (EE=Ae (decide ((d.b.length:Int)≤m.first*4096-d.at_)) 13):=AA (by rw [←HE.out];exact Uu qF.out HD0.out RN.out Hx.out h0 (by rw [TR Hx.out,AY HS.out,Dk h0]))
      clear h0
      go_wp2_with fail
      exact⟨rfl,MU.out.kp,.inr ⟨by rw [hX.out];exact H13.out,by rw [hX.out]⟩⟩
     have H13:=AA h0;clear h0
     go_wp2_with fail
     refine(JJ _ 17 0 (by decide) _).mono ?_
     rintro e w7 ⟨rfl,hcase⟩
     rcases hcase with⟨h0,rfl⟩ | ⟨h0,rfl⟩
     case inr=>
      have H17:=AA h0
      have hX:Hid (EE=Ae (decide (0<d.b.length)) 17):=AA (by rw [←HE.out];exact Uu qF.out HD0.out RN.out Hx.out h0 (by rw [TR Hx.out,AY HS.out,AY H13.out]))
      clear h0
      go_wp2_with fail
      exact⟨rfl,MU.out.kp,.inr ⟨by rw [hX.out];exact H17.out,by rw [hX.out]⟩⟩
     have H17:=AA h0
     have hpos:=of_decide_eq_true (EY (by decide) h0)
     clear h0
     obtain⟨bb,ob,rfl,ACQ,hbc⟩:=(Rd.qd zW.out).2 (by rw [List.length_map];exact hpos)
     have AEY:=run_convert_bytes_back (P:=prog) w6 41 9 5 ⟨bb,ob,none⟩ Rl d.b underlying41 underlying5 underlying9 (fun j hj=>by
      rw [Addr.add_lit,(MU.out.kp.cell (p:=⟨bb,ob+j,none⟩) (Nat.lt_of_lt_of_le ACQ hhi) (Zy.out bb ACQ))]
      exact hbc j _ (by rw [List.getElem?_map,List.getElem?_eq_getElem hj];rfl))
     clear hpos hbc ACQ hws hwm
     go_wp2_with fail
     have hct:=TP ⟨d.b.toArray⟩ (by have:=Hbl.out;show d.b.toArray.size≤_;simp;omega) MU.out.hd (by have:=Xh.out;have:=Ag n (by have:=Hnn.out.2;omega);rw [List.length_append];omega) MU.out.hb
     refine hct.mono ?_
     clear hct AEY
     rintro e w8 ⟨rfl,hk8,hd8⟩
     have HN:Hid (Aq (k+1) (Oz m)=0):=AA (Ib RN.out (by rw [TR Hx.out,AY HS.out,AY H13.out];exact H17.out))
     have NC:Hid (FZ w w8 base g gs w.heap.size K K1 m (Pj A1 A2 A3 A4 (some ⟨b,o,none⟩) A6 c1 c2 c3 c4 c5 c6 m) dh (L1++(enc m.dat.length++(m.dat.take (k+1)).flatMap Mv))):=AA (by
      have h:=(MU.out.to hk8 hd8 Hw.out.2.2.1 Hw.out.2.2.2).less Hw.out.1
      have he:LL++enc n++JH ⟨d.b.toArray⟩=L1++(enc m.dat.length++(m.dat.take (k+1)).flatMap Mv):=by
       rw [FK Hx.out,←uZ.out]
       unfold Mv JH
       rw [Hnn.out.1]
       show _=_
       simp only [List.append_assoc,Int.toNat_natCast]
       rfl
      rw [he] at h
      exact h)
     clear hk8 hd8 MU oC hm0 hm1 hz3
     go_wp2_with fail
     exact⟨⟨k+1,by omega,by go_num,NC.out,HN.out⟩,by simp [intOf];omega⟩
    ·obtain rfl:k=m.dat.length:=by omega
     go_wp2_with fail
     go_meet
     refine⟨?_,RN.out⟩
     have:=Ky.out
     rw [List.take_length] at this
     exact this
  case rest=>
   obtain⟨hbc,iL⟩:=hcut
   have HDE:Hid (KW m=0):=AA (by unfold KW;rw [AY HD0.out];exact iL)
   have AEZ:Hid ((L1++(enc m.dat.length++m.dat.flatMap Mv)).length≤490194315000):=AA (by
    have h1:=Zd OJ.out.num OJ.out.sz m.dat.length m.dat.length hld
    rw [List.take_length] at h1
    have:=OJ.out.sz
    have:=ACP.out
    rw [List.length_append];omega)
   generalize hL2:L1++(enc m.dat.length++m.dat.flatMap Mv)=L2 at*
   have HL2:=AA hL2
   have ZA:=AA hbc
   have hx7:=hbc.box.q 7 rfl
   have hle:m.AO.length≤2147483647:=by have:=OJ.out.sz;unfold Ad at this;omega
   clear hbc iL hL2 HBd hx6
   go_wp2_with fail
   have hcount:=Ph m.AO.length 64 (by omega) ZA.out.hd (by have:=AEZ.out;omega) ZA.out.hb
   refine hcount.mono ?_
   clear hcount
   rintro e wd ⟨hk,hcase⟩
   rcases hcase with⟨h0,rfl,hd⟩ | ⟨h0,rfl⟩
   case inr=>
    have H0:=AA h0;clear h0
    have Zz:=AA (ZA.out.kp.trans (hk.mono HKK.out.1))
    go_wp2_with fail
    have hX:EE=Ae (decide (m.AO.length≤64)) 20:=by rw [←HE.out];exact iP qF.out HDE.out H0.out
    exact⟨rfl,Zz.out,.inr ⟨by rw [hX];exact H0.out,by rw [hX]⟩⟩
   have HX0:=AA h0
   have HBd:=AA (ZA.out.to (all':=dh) hk hd HKK.out.1 HKK.out.2)
   have hx7:=HBd.out.box.q 7 rfl
   clear h0 hk hd ZA
   go_wp2_with fail
   go_loopw [145] (fun i wr=> ∃k:Nat,k≤m.AO.length∧i= .int .i64 k∧FZ w wr base g gs w.heap.size K K1 m (Pj A1 A2 A3 A4 A5 A6 c1 c2 c3 c4 c5 c6 m) dh (L2++(enc m.AO.length++(m.AO.take k).flatMap Ni))∧Aq k (Rx m)=0)
    (fun i _=>m.AO.length-(intOf i).toNat)
   case atStart=>exact⟨0,Nat.zero_le _,rfl,by simpa using HBd.out,rfl⟩
   case round=>
    obtain⟨k,hk,rfl,hbr,her⟩:=hrel
    have Ky:=AA hbr;have RN:=AA her
    clear hbr her
    by_cases hltk:k<m.AO.length
    ·obtain⟨x,hx⟩: ∃x,m.AO[k]?=some x:=⟨_,List.getElem?_eq_getElem hltk⟩
     have hcap:=iQ H6.out
     have htk:=kQ H6.out (k:=k) (by omega)
     obtain⟨b,o,rfl,_,Kg,hd0,hd1,hns,hf6⟩:=LB H6.out hx
     have hbw:b<w.heap.size:=Nat.lt_of_lt_of_le Kg hhi
     have hc0':=(Ky.out.kp.cell (p:=⟨b,o+k*2,none⟩) hbw (Zy.out b Kg)).trans hd0
     have hc1':=(Ky.out.kp.cell (p:=⟨b,o+k*2+1,none⟩) hbw (Zy.out b Kg)).trans hd1
     have HTK:=AA htk
     have Hx:=AA hx
     have hk0:(0:Int)≤k:=by omega
     have hkc:k≤c6:=by omega
     have Xh:Hid ((L2++(enc m.AO.length++(m.AO.take k).flatMap Ni)).length≤590194315000):=AA (by
      have h1:=bS OJ.out.num OJ.out.sz m.AO.length k hle
      have:=OJ.out.sz
      have:=AEZ.out
      rw [List.length_append];omega)
     have hz3:=Ky.out.box.q 7 rfl
     have hzl:w.heap.size<wr.heap.size:=Ky.out.box.lt
     clear hx hd0 hd1 htk hcap
     go_upto_region 32 with fail
     generalize hw3:wr.alloc _=w3
     have hb3:Below wr.heap.size wr w3:=by rw [←hw3];exact(Below.refl _ _).alloc (Nat.le_refl _) _
     have HB3:=AA (Ky.out.ACJ hb3 (by rw [←hw3];simp))
     have Rp:Hid (AV w3 wr.heap.size 61 [.string x.n,.int .i64 x.f]):=by rw [←hw3];exact AA (AV.new wr 61 [.string x.n,.int .i64 x.f])
     generalize hK2:(fun j=>K1 j∨j=wr.heap.size)=K2 at HB3
     have Hw:Hid ((∀j,K1 j→K2 j)∧K2 wr.heap.size∧(∀j,K j→K2 j)∧K2 w.heap.size):=AA (by rw [←hK2];exact⟨fun j h=> .inl h,.inr rfl,fun j h=> .inl (HKK.out.1 j h),.inl HKK.out.2⟩)
     generalize fO:L2++(enc m.AO.length++(m.AO.take k).flatMap Ni)=LL at*
     have uZ:=AA fO
     clear hw3 hb3 hK2 hc0' hc1' fO hz3
     have HST:=AA (fun W (hb:Below w3.heap.size w3 W)=>ni x.n hns (some ⟨b,o,none⟩) k c6 0 hi (m.AO.take k) W (Rd.Iz HTK.out (HB3.out.kp.trans (Keep.Am hb)) hhi (fun j _ h=>Zy.out j h)) (by have:=EY (by decide) HX0.out;have:=of_decide_eq_true this;omega))
     have hm0:=Rp.out.q 0 rfl
     have OU:=HB3.out.box.q 7 rfl
     go_still_tail 6,(by kernel_rfl)
     repeat still_step
     try refine wpStill_nil ?_
     change wpList _ _ _ _ _ w3.drew
     have hbd:Below w3.heap.size w3 w3.drew:=⟨rfl,rfl,rfl,Nat.le_refl _,fun _ _=>rfl⟩
     have Ke:=AA (HB3.out.K7 hbd)
     have Va:Hid (AV w3.drew wr.heap.size 61 [.string x.n,.int .i64 x.f]):=AA Rp.out
     have hst:=HST.out w3.drew hbd
     clear HST HB3 Rp hm0 OU hbd
     generalize w3.drew=w4 at*
     go_wp2_with fail
     refine hst.mono ?_
     clear hst
     rintro e w5 ⟨hb5,hcase⟩
     have I8:=AA (Ke.out.K7 hb5);have VK:=AA (Va.out.below hb5 Va.out.lt)
     clear hb5 Ke Va
     rcases hcase with⟨h0,rfl⟩ | ⟨h0,rfl⟩
     case inr=>
      have hX:Hid (EE=EO (Qo x.n) (Ws (m.AO.take k) k x.n)):=AA (by rw [←HE.out];exact ZB qF.out HDE.out HX0.out RN.out Hx.out h0 (by rw [WT Hx.out,Dk h0]))
      have HS:=AA h0;clear h0
      go_wp2_with fail
      exact⟨rfl,I8.out.kp,.inr ⟨by rw [hX.out];exact HS.out,by rw [hX.out]⟩⟩
     have HS:=AA h0
     have hn32:x.n.size≤32:=of_decide_eq_true (EY (by decide) (AL (AL h0).1).1)
     clear h0
     have hm0:=VK.out.q 0 rfl
     have hct:=TP x.n (by omega) I8.out.hd (by have:=Xh.out;omega) I8.out.hb
     go_wp2_with fail
     refine hct.mono ?_
     clear hct
     rintro e w6 ⟨rfl,fP,hd6⟩
     have MU:=AA (I8.out.to fP hd6 Hw.out.2.2.1 Hw.out.2.2.2);have oC:=AA (VK.out.keep fP Hw.out.2.1)
     have hm1:=oC.out.q 1 rfl
     have hz5:=MU.out.box.q 5 rfl
     have hci:=Xd x.f m.fns.length hf6.2 MU.out.hd (by have:=Xh.out;have:=Kw (s:=x.n) (by omega);rw [List.length_append];omega) MU.out.hb
     clear fP hd6 I8 VK hm0 hn32
     generalize um:Ae (decide (0≤x.f∧x.f<m.fns.length)) 30=v30 at hci
     have HV:=AA um
     clear um
     go_wp2_with fail
     refine hci.mono ?_
     clear hci
     rintro e w7 ⟨dW,hcase⟩
     rcases hcase with⟨kR,rfl,hd7⟩ | ⟨kR,rfl⟩
     case inr=>
      have zT:=AA kR
      have xM:=AA (MU.out.kp.trans (dW.mono Hw.out.2.2.1))
      have hX:Hid (EE=v30):=AA (by rw [←HE.out];exact ZB qF.out HDE.out HX0.out RN.out Hx.out kR (by rw [WT Hx.out,AY HS.out,HV.out]))
      clear kR dW
      go_wp2_with fail
      exact⟨rfl,xM.out,.inr ⟨by rw [hX.out];exact zT.out,by rw [hX.out]⟩⟩
     have HN:Hid (Aq (k+1) (Rx m)=0):=AA (Ib RN.out (by rw [WT Hx.out,AY HS.out,HV.out,kR]))
     have NC:Hid (FZ w w7 base g gs w.heap.size K K1 m (Pj A1 A2 A3 A4 A5 (some ⟨b,o,none⟩) c1 c2 c3 c4 c5 c6 m) dh (L2++(enc m.AO.length++(m.AO.take (k+1)).flatMap Ni))):=AA (by
      have h:=(MU.out.to dW hd7 Hw.out.2.2.1 Hw.out.2.2.2).less Hw.out.1
      have he:LL++JH x.n++enc x.f.toNat=L2++(enc m.AO.length++(m.AO.take (k+1)).flatMap Ni):=by
       rw [FK Hx.out,←uZ.out]
       unfold Ni
       simp only [List.append_assoc]
      rw [he] at h
      exact h)
     clear dW hd7 MU oC hm1 hz5 kR
     go_wp2_with fail
     exact⟨⟨k+1,by omega,by go_num,NC.out,HN.out⟩,by simp [intOf];omega⟩
    ·obtain rfl:k=m.AO.length:=by omega
     go_wp2_with fail
     go_end0
     have hX:EE=0:=by
      rw [←HE.out]
      unfold Mt NZ
      rw [AY qF.out,AY HDE.out,AY HX0.out,RN.out]
     have h:=Ky.out
     rw [List.take_length] at h
     refine⟨h.kp,.inl ⟨hX,rfl,dh,?_⟩⟩
     have hfin:L++U9 m=L2++(enc m.AO.length++m.AO.flatMap Ni):=by
      unfold U9
      rw [←HL2.out,←KZ.out]
      simp only [List.append_assoc]
     rw [hfin]
     exact h.hd.less HKK.out.1
end
end Go.Proofs.YtebgikflpgcnlaaGreatDoor
