/- Part 18 of the proof: ModI ModJ -/
import Derived.Laws.IdiomStrings
import Derived.Test.YtebgikflpgcnlaaGreatDoorT16
import Derived.Test.YtebgikflpgcnlaaGreatDoorT17
namespace Go.Proofs.YtebgikflpgcnlaaGreatDoor
set_option linter.unusedVariables false
set_option linter.unusedSimpArgs false
set_option maxRecDepth 100000
set_option maxHeartbeats 4000000
open Go.RowKit Tryz
section
attribute [local irreducible] opRow
theorem fnE_at {m:ModV} {k:Nat} {f:FnV} (hx:m.fns[k]?=some f):fnE m k=orE (askE (decide (0≤f.t∧f.t<m.types.length)) 30) (orE (letErr f.loc (64-parLen m f.t)) (orE (askE (decide (f.code.length≤2048)) 20) (orE (askE (decide (allTo m (k+1)≤16384)) 20) (firstE f.code.length (codeE f))))):=by
 unfold fnE;rw [hx]
theorem body_fns {m:ModV} {k:Nat} {f:FnV} (h0:askE (decide (m.fns.length≤128)) 20=0) (he:firstE k (fnE m)=0) (hx:m.fns[k]?=some f) {v:Int} (hv:v≠0) (hf:fnE m k=v):bodyE m=v:=by
 have h1:fnsE m=v:=by
  unfold fnsE
  rw [orE_r h0,firstE_hit he (by rw [hf];exact hv) _ (List.getElem?_eq_some_iff.1 hx).1,hf]
 unfold bodyE
 rw [orE_l (by rw [h1];exact hv),h1]
theorem body_dats0 {m:ModV} (hf:fnsE m=0) {v:Int} (hv:v≠0) (h:v=askE (decide (m.dat.length≤64)) 20:=by rfl):bodyE m=v:=by
 subst h
 have h1:datsE m=askE (decide (m.dat.length≤64)) 20:=by unfold datsE;rw [orE_l hv]
 unfold bodyE
 rw [orE_r hf,orE_l (by rw [h1];exact hv),h1]
theorem body_dats {m:ModV} (hf:fnsE m=0) (h0:askE (decide (m.dat.length≤64)) 20=0) {k:Nat} {d:DatV} (he:firstE k (datE m)=0) (hx:m.dat[k]?=some d) {v:Int} (hv:v≠0) (hd:datE m k=v):bodyE m=v:=by
 have h1:datsE m=v:=by
  unfold datsE
  rw [orE_r h0,firstE_hit he (by rw [hd];exact hv) _ (List.getElem?_eq_some_iff.1 hx).1,hd]
 unfold bodyE
 rw [orE_r hf,orE_l (by rw [h1];exact hv),h1]
theorem body_exps0 {m:ModV} (hf:fnsE m=0) (hd:datsE m=0) {v:Int} (hv:v≠0) (h:v=askE (decide (m.exps.length≤64)) 20:=by rfl):bodyE m=v:=by
 subst h
 have h1:expsE m=askE (decide (m.exps.length≤64)) 20:=by unfold expsE;rw [orE_l hv]
 unfold bodyE
 rw [orE_r hf,orE_r hd,h1]
theorem body_exps {m:ModV} (hf:fnsE m=0) (hd:datsE m=0) (h0:askE (decide (m.exps.length≤64)) 20=0) {k:Nat} {x:ExpV} (he:firstE k (expE m)=0) (hx:m.exps[k]?=some x) {v:Int} (hv:v≠0) (hE:expE m k=v):bodyE m=v:=by
 have h1:expsE m=v:=by
  unfold expsE
  rw [orE_r h0,firstE_hit he (by rw [hE];exact hv) _ (List.getElem?_eq_some_iff.1 hx).1,hE]
 unfold bodyE
 rw [orE_r hf,orE_r hd,h1]
def stE (m:ModV) (k:Nat) (d:DatV):Int:=orE (askE (decide (0≤d.at_∧d.at_≤m.first*4096)) 17) (if k=0 then 0 else match (m.dat.take k)[k-1]? with | none=>0 | some y=>askE (decide (y.at_+y.b.length<d.at_)) 18)
theorem datE_at {m:ModV} {k:Nat} {d:DatV} (hx:m.dat[k]?=some d):datE m k=orE (stE m k d) (orE (askE (decide ((d.b.length:Int)≤m.first*4096-d.at_)) 13) (askE (decide (0<d.b.length)) 17)):=by
 unfold datE stE
 rw [hx,orE_assoc]
 by_cases hk:k=0
 ·subst hk;rfl
 ·dsimp only;rw [if_neg hk,if_neg hk,List.getElem?_take,if_pos (by omega)];rfl
theorem dat_ok {m:ModV} (hf0:0≤m.first) (hf1:m.first≤64) {k:Nat} (h:firstE k (datE m)=0) (hk:k≤m.dat.length): ∀y∈m.dat.take k,0≤y.at_∧y.at_≤262144∧y.b.length≤262144:=by
 intro y hy
 obtain⟨j,hj⟩:=List.getElem?_of_mem hy
 rw [List.getElem?_take] at hj
 split at hj
 ·rename_i hlt
  have h1:=firstE_zero h j hlt
  rw [datE_at hj] at h1
  obtain⟨a,b⟩:=orE_zero h1
  obtain⟨b,_⟩:=orE_zero b
  have a:=of_decide_eq_true (askE_zero (by decide) (orE_zero a).1)
  have b:=of_decide_eq_true (askE_zero (by decide) b)
  omega
 ·cases hj
theorem expE_at {m:ModV} {k:Nat} {x:ExpV} (hx:m.exps[k]?=some x):expE m k=orE (orE (nameE x.n) (ordE (m.exps.take k) k x.n)) (askE (decide (0≤x.f∧x.f<m.fns.length)) 30):=by
 unfold expE ordE
 rw [hx,orE_assoc]
 by_cases hk:k=0
 ·subst hk;rfl
 ·dsimp only;rw [if_neg hk,if_neg hk,List.getElem?_take,if_pos (by omega)]
theorem codeE_at {f:FnV} {j:Nat} {x:InsV} (hx:f.code[j]?=some x):codeE f j=insChk x:=by unfold codeE;rw [hx]
theorem insB_pos {x:InsV} (h:insChk x=0):0<(insB x).length:=by
 unfold insChk at h
 unfold insB
 cases hr:opRow x.op.toNat with
 | none=>rw [hr] at h;cases h
 | some r=>simp
theorem allTo_next {m:ModV} {k:Nat} {f:FnV} (hx:m.fns[k]?=some f):allTo m (k+1)=allTo m k+f.code.length:=sumBy_succ (fun f:FnV=>f.code.length) hx
theorem allTo_le {m:ModV} (h:szMod m≤2147483647) (k:Nat):allTo m k≤2147483647:=by
 have h1:=sumBy_take (fun f:FnV=>f.code.length) m.fns k
 have h2:sumBy (fun f:FnV=>f.code.length) m.fns≤sumBy szFn m.fns:=by
  unfold sumBy
  induction m.fns with
  | nil=>simp
  | cons a l ih=>simp only [List.map_cons,List.sum_cons];unfold szFn szCode at*;omega
 unfold szMod at h
 unfold allTo
 omega
theorem Keep.cell {K:Nat→Prop} {w w':World} (h:Keep K w w') {p:Addr} (hp:p.block<w.heap.size) (hK:K p.block):w'.cell? p=w.cell? p:=by
 have hb:=h.block p.block hp hK
 simp [World.cell?,hb]
def fnC (A:Option Addr) (c:Nat) (f:FnV):List Value:= [.int .i64 f.t,.string f.loc,.slice A f.code.length c]
structure BodyAt (w wr:World) (base g gs gm:Nat) (K K1:Nat→Prop) (m:ModV) (cs:List Value) (all:Nat) (L:List UInt8):Prop where
 kp:Keep K w wr
 box:Blk wr gm 29 cs
 hd:Hd wr base g gs K1 m.first all m.types L
 hb:base≤wr.heap.size
structure BodyIn (m:ModV):Prop where
 sz:szMod m≤2147483647
 num:ModNum m
 par: ∀t∈m.types,t.p.size≤8
 f0:0≤m.first
 f1:m.first≤64
theorem BodyAt.all_ {w wr wr':World} {base g gs gm:Nat} {K K1:Nat→Prop} {m:ModV} {cs:List Value} {all:Nat} {L:List UInt8} (h:BodyAt w wr base g gs gm K K1 m cs all L) (hb:Below wr.heap.size wr wr'):BodyAt w wr' base g gs gm K K1 m cs all L:=
 ⟨h.kp.all hb,h.box.below hb h.box.lt,h.hd.all_ hb,Nat.le_trans h.hb hb.size⟩
theorem BodyAt.to {w wr wr':World} {base g gs gm:Nat} {K K1:Nat→Prop} {m:ModV} {cs:List Value} {all all':Nat} {L L':List UInt8} (h:BodyAt w wr base g gs gm K K1 m cs all L) (hk:Keep K1 wr wr') (hd:Hd wr' base g gs K1 m.first all' m.types L') (hm: ∀k,K k→K1 k) (hg:K1 gm):BodyAt w wr' base g gs gm K K1 m cs all' L':=
 ⟨h.kp.trans (hk.mono hm),h.box.keep hk hg,hd,Nat.le_trans h.hb hk.size⟩
theorem BodyAt.box_ {w wr wr':World} {base g gs gm:Nat} {K K1:Nat→Prop} {m:ModV} {cs:List Value} {all:Nat} {L:List UInt8} (h:BodyAt w wr base g gs gm K K1 m cs all L) (hb:Below wr.heap.size wr wr') (hl:wr.heap.size<wr'.heap.size):BodyAt w wr' base g gs gm K (fun j=>K1 j∨j=wr.heap.size) m cs all L:=
 ⟨h.kp.all hb,h.box.below hb h.box.lt,h.hd.box hb hl,Nat.le_trans h.hb hb.size⟩
theorem BodyAt.less {w wr:World} {base g gs gm:Nat} {K K1 K2:Nat→Prop} {m:ModV} {cs:List Value} {all:Nat} {L:List UInt8} (h:BodyAt w wr base g gs gm K K2 m cs all L) (hk: ∀k,K1 k→K2 k):BodyAt w wr base g gs gm K K1 m cs all L:=
 ⟨h.kp,h.box,h.hd.less hk,h.hb⟩
end
section
attribute [local irreducible] opRow
theorem wr_body (cs:List Value) (hi base g gs:Nat) (K:Nat→Prop) (m:ModV) (L:List UInt8) (w:World) (h:rMod.R w 0 hi cs m) (hhi:hi≤w.heap.size) (hK: ∀k,k<hi→K k) (hd:Hd w base g gs K m.first 0 m.types L) (hbase:base≤w.heap.size) (hin:BodyIn m) (hL:L.length≤300000000000)
 (htab: ∀w',Below hi w w'→Lib.TabIs prog w' "strings.asciiSpace" .u8 Lib.asciiSpaceTab):
 Calls prog 67 #[.pointer (some ⟨g,0,none⟩),.agg cs.toArray] w fun e w'=>Keep K w w'∧WEnds (bodyE m) e (∃all:Nat,Hd w' base g gs K m.first all m.types (L++bodyB m)):=by
 generalize hEE:bodyE m=EE
 have HE:=hideIt hEE
 clear hEE
 obtain⟨v1,v2,v3,v4,v5,v6,rfl,h1,h2,h3,hf63,hm63,h4,h5,h6⟩:=rMod_iff.1 h
 obtain⟨A1,c1,rfl⟩:=sl_form h1
 obtain⟨A2,c2,rfl⟩:=sl_form h2
 obtain⟨A3,c3,rfl⟩:=sl_form h3
 obtain⟨A4,c4,rfl⟩:=sl_form h4
 obtain⟨A5,c5,rfl⟩:=sl_form h5
 obtain⟨A6,c6,rfl⟩:=sl_form h6
 have H4:=hideIt h4;have H5:=hideIt h5;have H6:=hideIt h6;have HK0:=hideIt hK;have HIN:=hideIt hin;have HTAB:=hideIt htab;have HD0:=hideIt hd
 clear h h1 h2 h3 h4 h5 h6 hK hin htab hd hm63
 go_enter func67,ntmps67
 go_wp2_with fail
 generalize hw1:w.alloc _=w1
 have hb1:Below w.heap.size w w1:=by rw [←hw1];exact(Below.refl _ _).alloc (Nat.le_refl _) _
 have hbx:Blk w1 w.heap.size 29 (modC A1 A2 A3 A4 A5 A6 c1 c2 c3 c4 c5 c6 m):=by rw [←hw1];exact Blk.new w 29 (modC A1 A2 A3 A4 A5 A6 c1 c2 c3 c4 c5 c6 m)
 have hdd:=HD0.out.box hb1 (by rw [←hw1];simp)
 generalize hK1:(fun k=>K k∨k=w.heap.size)=K1 at*
 have HKK:Hid ((∀k,K k→K1 k)∧K1 w.heap.size):=hideIt (by rw [←hK1];exact⟨fun k h=> .inl h,.inr rfl⟩)
 have HB1:Hid (BodyAt w w1 base g gs w.heap.size K K1 m (modC A1 A2 A3 A4 A5 A6 c1 c2 c3 c4 c5 c6 m) 0 L):=hideIt ⟨Keep.of_all hb1,hbx,hdd,Nat.le_trans hbase hb1.size⟩
 have hlf:m.fns.length≤2147483647:=by have:=HIN.out.sz;unfold szMod at this;omega
 clear hw1 hb1 hbx hdd hK1 HD0
 have hcount:=hd_count m.fns.length 128 (by omega) HB1.out.hd (by omega) HB1.out.hb
 refine hcount.mono ?_
 clear hcount
 rintro e w2 ⟨hk,hcase⟩
 rcases hcase with⟨h0,rfl,hd⟩ | ⟨h0,rfl⟩
 case inr=>
  have H0:=hideIt h0;clear h0
  have HK2:=hideIt (HB1.out.kp.trans (hk.mono HKK.out.1))
  go_wp2_with fail
  have hX:EE=askE (decide (m.fns.length≤128)) 20:=by
   rw [←HE.out]
   have:fnsE m=askE (decide (m.fns.length≤128)) 20:=by unfold fnsE;rw [orE_l H0.out]
   unfold bodyE
   rw [orE_l (by rw [this];exact H0.out),this]
  exact⟨rfl,HK2.out,.inr ⟨by rw [hX];exact H0.out,by rw [hX]⟩⟩
 have H00:=hideIt h0
 have HB2:=hideIt (HB1.out.to (all':=0) hk hd HKK.out.1 HKK.out.2)
 clear h0 hk hd HB1
 have hx5:=HB2.out.box.q 5 rfl
 go_upto_block 0 with fail
 go_cut [] (fun wx=>BodyAt w wx base g gs w.heap.size K K1 m (modC A1 A2 A3 A4 A5 A6 c1 c2 c3 c4 c5 c6 m) (allTo m m.fns.length) (L++(enc m.fns.length++m.fns.flatMap fnB))∧firstE m.fns.length (fnE m)=0)
 case first=>
  clear hx5
  go_wp2_with fail
  go_loopw [22] (fun i wr=> ∃k:Nat,k≤m.fns.length∧i= .int .i64 k∧BodyAt w wr base g gs w.heap.size K K1 m (modC A1 A2 A3 A4 A5 A6 c1 c2 c3 c4 c5 c6 m) (allTo m k) (L++(enc m.fns.length++(m.fns.take k).flatMap fnB))∧firstE k (fnE m)=0)
   (fun i _=>m.fns.length-(intOf i).toNat)
  case atStart=>exact⟨0,Nat.zero_le _,rfl,by simpa [allTo,sumBy] using HB2.out,rfl⟩
  case round=>
   obtain⟨k,hk,rfl,hbr,her⟩:=hrel
   have HBr:=hideIt hbr;have HEr:=hideIt her
   clear hbr her
   by_cases hltk:k<m.fns.length
   ·obtain⟨f,hx⟩: ∃f,m.fns[k]?=some f:=⟨_,List.getElem?_eq_getElem hltk⟩
    obtain⟨b,o,A_c,c_c,rfl,_,hbh,hd0,hd1,hd2,ht63,hloc,hcode⟩:=rFn_at H4.out hx
    have hbw:b<w.heap.size:=Nat.lt_of_lt_of_le hbh hhi
    have hc0':=(HBr.out.kp.cell (p:=⟨b,o+k*3,none⟩) hbw (HK0.out b hbh)).trans hd0
    have hc1':=(HBr.out.kp.cell (p:=⟨b,o+k*3+1,none⟩) hbw (HK0.out b hbh)).trans hd1
    have hc2':=(HBr.out.kp.cell (p:=⟨b,o+k*3+2,none⟩) hbw (HK0.out b hbh)).trans hd2
    have HCODE:=hideIt hcode
    have Hx:=hideIt hx
    have hk0:(0:Int)≤k:=by omega
    have HLk:Hid ((L++(enc m.fns.length++(m.fns.take k).flatMap fnB)).length≤390194315000):=hideIt (by
     have h1:=fns_len HIN.out.num HIN.out.sz m.fns.length k hlf
     have:=HIN.out.sz
     rw [List.length_append];omega)
    have hz0:=HBr.out.box.q 0 rfl
    have hzl:w.heap.size<wr.heap.size:=HBr.out.box.lt
    clear hx hcode hd0 hd1 hd2
    go_wp2_with fail
    generalize hw3:wr.alloc _=w3
    have hb3:Below wr.heap.size wr w3:=by rw [←hw3];exact(Below.refl _ _).alloc (Nat.le_refl _) _
    have HB3:=hideIt (HBr.out.box_ hb3 (by rw [←hw3];simp))
    have Hn3:Hid (Blk w3 wr.heap.size 56 (fnC A_c c_c f)):=by rw [←hw3];exact hideIt (Blk.new wr 56 (fnC A_c c_c f))
    generalize hK2:(fun j=>K1 j∨j=wr.heap.size)=K2 at HB3
    have HKK2:Hid ((∀j,K1 j→K2 j)∧K2 wr.heap.size∧(∀j,K j→K2 j)∧K2 w.heap.size):=hideIt (by rw [←hK2];exact⟨fun j h=> .inl h,.inr rfl,fun j h=> .inl (HKK.out.1 j h),.inl HKK.out.2⟩)
    generalize hLL:L++(enc m.fns.length++(m.fns.take k).flatMap fnB)=LL at*
    have HLL:=hideIt hLL
    clear hw3 hb3 hK2 hc0' hc1' hc2' hLL hz0
    have hci:=hd_index f.t m.types.length ht63.2 HB3.out.hd (by have:=HLk.out;omega) HB3.out.hb
    generalize hv30:askE (decide (0≤f.t∧f.t<m.types.length)) 30=v30 at hci
    have HV:=hideIt hv30
    clear hv30
    refine hci.mono ?_
    clear hci
    rintro e w4 ⟨hk4,hcase⟩
    rcases hcase with⟨h30,rfl,hd4⟩ | ⟨h30,rfl⟩
    case inr=>
     have H30:=hideIt h30
     have HK4:=hideIt (HB3.out.kp.trans (hk4.mono HKK2.out.2.2.1))
     have hX:Hid (EE=v30):=hideIt (by rw [←HE.out];exact body_fns H00.out HEr.out Hx.out h30 (by rw [fnE_at Hx.out,HV.out,orE_l h30]))
     clear h30 hk4
     go_wp2_with fail
     exact⟨rfl,HK4.out,.inr ⟨by rw [hX.out];exact H30.out,by rw [hX.out]⟩⟩
    have H30:Hid (askE (decide (0≤f.t∧f.t<m.types.length)) 30=0):=hideIt (by rw [HV.out];exact h30)
    have HB4:=hideIt (HB3.out.to hk4 hd4 HKK2.out.2.2.1 HKK2.out.2.2.2)
    have Hn4:=hideIt (Hn3.out.keep hk4 HKK2.out.2.1)
    have hft:=of_decide_eq_true (askE_zero (by decide) H30.out)
    obtain⟨t,ht⟩:=Int.eq_ofNat_of_zero_le hft.1
    obtain⟨x,hxt⟩: ∃x,m.types[t]?=some x:=⟨_,List.getElem?_eq_getElem (by omega)⟩
    have Hxt:Hid (m.types[t]?=some x∧parLen m f.t=x.p.size):=hideIt ⟨hxt,by unfold parLen;rw [ht];simp [hxt]⟩
    have hp8:=HIN.out.par x (List.mem_of_getElem? hxt)
    have hroom:=hd_room t x (HB4.out.all_ (show Below w4.heap.size w4 w4.drew from⟨rfl,rfl,rfl,Nat.le_refl _,fun _ _=>rfl⟩)).hd hxt (by omega)
    rw [←ht] at hroom
    have HRM:=hideIt (hroom.mono fun e w' h=>(⟨h.2,h.1⟩:e=_∧w'=w4.drew))
    have HF1:Hid ((enc f.t.toNat).length≤10):=hideIt (enc_int ht63.2)
    have hm0:=Hn4.out.q 0 rfl
    have hm1:=Hn4.out.q 1 rfl
    clear h30 hk4 hd4 hft ht hxt hroom HB3 Hn3
    go_wp2_with fail
    go_still_tail 11,(by kernel_rfl)
    repeat still_step
    still_call HRM.out
    repeat still_step
    try refine wpStill_nil ?_
    change wpList _ _ _ _ _ w4.drew
    have HB4d:=hideIt (HB4.out.all_ (show Below w4.heap.size w4 w4.drew from⟨rfl,rfl,rfl,Nat.le_refl _,fun _ _=>rfl⟩))
    have Hn4d:Hid (Blk w4.drew wr.heap.size 56 (fnC A_c c_c f)):=hideIt Hn4.out
    clear HRM HB4 Hn4 hm0 hm1
    generalize w4.drew=w5 at*
    go_wp2_with fail
    refine(wr_letters _ f.loc (64-x.p.size) hloc _).mono ?_
    rintro e w6 ⟨hb6,hcase⟩
    have HB6:=hideIt (HB4d.out.all_ hb6);have Hn6:=hideIt (Hn4d.out.below hb6 Hn4d.out.lt)
    clear hb6 HB4d Hn4d
    rw [←Hxt.out.2] at hcase
    rcases hcase with⟨h8,rfl⟩ | ⟨h8,rfl⟩
    case inr=>
     have H8:=hideIt h8
     have hX:Hid (EE=letErr f.loc (64-parLen m f.t)):=hideIt (by rw [←HE.out];exact body_fns H00.out HEr.out Hx.out h8 (by rw [fnE_at Hx.out,orE_r H30.out,orE_l h8]))
     clear h8
     go_wp2_with fail
     exact⟨rfl,HB6.out.kp,.inr ⟨by rw [hX.out];exact H8.out,by rw [hX.out]⟩⟩
    have H8:=hideIt h8;clear h8
    have hm1:=Hn6.out.q 1 rfl
    have hlocsz:f.loc.size≤64:=by have:=(letErr_zero H8.out).1;omega
    have HF2:=hideIt (textB_len (s:=f.loc) (by omega))
    go_wp2_with fail
    have hct:=hd_text f.loc (by omega) HB6.out.hd (by have:=HLk.out;have:=HF1.out;rw [List.length_append];omega) HB6.out.hb
    refine hct.mono ?_
    clear hct
    rintro e w7 ⟨rfl,hk7,hd7⟩
    have HB7:=hideIt (HB6.out.to hk7 hd7 HKK2.out.2.2.1 HKK2.out.2.2.2);have Hn7:=hideIt (Hn6.out.keep hk7 HKK2.out.2.1)
    have hm2:=Hn7.out.q 2 rfl
    clear hk7 hd7 HB6 Hn6 hm1
    go_wp2_with fail
    go_still_tail 6,(by kernel_rfl)
    repeat still_step
    try refine wpStill_nil ?_
    change wpList _ _ _ _ _ w7.drew
    have HB7d:=hideIt (HB7.out.all_ (show Below w7.heap.size w7 w7.drew from⟨rfl,rfl,rfl,Nat.le_refl _,fun _ _=>rfl⟩))
    have Hn7d:Hid (Blk w7.drew wr.heap.size 56 (fnC A_c c_c f)):=hideIt Hn7.out
    clear HB7 Hn7 hm2
    generalize w7.drew=w8 at*
    have hcl:f.code.length≤2147483647:=by have h1:=sumBy_mem szFn m.fns f (List.mem_of_getElem? Hx.out);have h2:=HIN.out.sz;have h3:f.code.length≤szFn f:=(by unfold szFn szCode;omega);unfold szMod at h2;omega
    have hcc:=hd_code f.code.length hcl (allTo_le HIN.out.sz k) HB7d.out.hd
    go_wp2_with fail
    refine hcc.mono ?_
    clear hcc
    rintro e w9 ⟨hk9,hcase⟩
    rcases hcase with⟨h20,rfl,hd9⟩ | ⟨h20,rfl⟩
    case inr=>
     have H20:=hideIt h20
     have HK9:=hideIt (HB7d.out.kp.trans (hk9.mono HKK2.out.2.2.1))
     have hX:Hid (EE=orE (askE (decide (f.code.length≤2048)) 20) (askE (decide (allTo m k+f.code.length≤16384)) 20)):=hideIt (by
      rw [←HE.out]
      refine body_fns H00.out HEr.out Hx.out h20 ?_
      rw [fnE_at Hx.out,orE_r H30.out,orE_r H8.out,allTo_next Hx.out,←orE_assoc,orE_l h20])
     clear h20 hk9
     go_wp2_with fail
     exact⟨rfl,HK9.out,.inr ⟨by rw [hX.out];exact H20.out,by rw [hX.out]⟩⟩
    have H20:=hideIt h20
    have HB9:=hideIt (HB7d.out.to hk9 hd9 HKK2.out.2.2.1 HKK2.out.2.2.2);have Hn9:=hideIt (Hn7d.out.keep hk9 HKK2.out.2.1)
    have hm2:=Hn9.out.q 2 rfl
    clear h20 hk9 hd9 HB7d Hn7d
    go_wp2_with fail
    have hcn:=hd_number f.code.length (by omega) HB9.out.hd (by have:=HLk.out;have:=HF1.out;have:=HF2.out;simp only [List.length_append] at*;omega) HB9.out.hb
    refine hcn.mono ?_
    clear hcn
    rintro e wa ⟨rfl,hka,hda⟩
    have HBa:=hideIt (HB9.out.to hka hda HKK2.out.2.2.1 HKK2.out.2.2.2);have Hna:=hideIt (Hn9.out.keep hka HKK2.out.2.1)
    have hm3:=Hna.out.q 2 rfl
    clear hka hda HB9 Hn9 hm2
    go_upto_block 2 with fail
    generalize hLF:LL++enc f.t.toNat++textB f.loc++enc f.code.length=LF at*
    have HLF:=hideIt hLF
    have HLFn:Hid (∀j,(LF++(f.code.take j).flatMap insB).length≤500000000000):=hideIt (fun j=>by
     have h1:=fnB_len HIN.out.num HIN.out.sz (List.mem_of_getElem? Hx.out) j
     have h2:=sumBy_mem szFn m.fns f (List.mem_of_getElem? Hx.out)
     have h3:=HIN.out.sz
     have h4:=HLk.out
     rw [←hLF]
     unfold szMod at h3
     simp only [List.length_append] at*
     omega)
    clear hLF
    go_wp2_with fail
    clear hm3 HBr
    generalize wr.heap.size=fb at*
    clear wr
    go_loopw [64] (fun i wi=> ∃j:Nat,j≤f.code.length∧i= .int .i64 j∧BodyAt w wi base g gs w.heap.size K K2 m (modC A1 A2 A3 (some ⟨b,o,none⟩) A5 A6 c1 c2 c3 c4 c5 c6 m) (allTo m k+f.code.length) (LF++(f.code.take j).flatMap insB)∧firstE j (codeE f)=0)
     (fun i _=>f.code.length-(intOf i).toNat)
    case atStart=>exact⟨0,Nat.zero_le _,rfl,by simpa using HBa.out,rfl⟩
    case round=>
     obtain⟨j,hj,rfl,hbi,hei⟩:=hrel
     have HBi:=hideIt hbi;have HEi:=hideIt hei
     clear hbi hei
     by_cases hltj:j<f.code.length
     ·obtain⟨y,hy⟩: ∃y,f.code[j]?=some y:=⟨_,List.getElem?_eq_getElem hltj⟩
      obtain⟨bi,oi,hAc,_,hbih,cs,hcs,hri⟩:=sl_at HCODE.out hy
      subst hAc
      have hri2:=hri
      obtain⟨v_l,rfl,ha63,hl⟩:=rIns_iff.1 hri2
      obtain⟨A_l,c_l,rfl⟩:=sl_form hl
      have hbw:bi<w.heap.size:=Nat.lt_of_lt_of_le hbih hhi
      have hi0:wr.cell? ⟨bi,oi+j*3,none⟩=some (.int .u8 (y.op.toNat:Int)):=(HBi.out.kp.cell (p:=⟨bi,oi+j*3,none⟩) hbw (HK0.out bi hbih)).trans (hcs 0 _ rfl)
      have hi1:wr.cell? ⟨bi,oi+j*3+1,none⟩=some (.int .i64 y.a):=(HBi.out.kp.cell (p:=⟨bi,oi+j*3+1,none⟩) hbw (HK0.out bi hbih)).trans (hcs 1 _ rfl)
      have hi2:wr.cell? ⟨bi,oi+j*3+2,none⟩=some (.slice A_l y.l.length c_l):=(HBi.out.kp.cell (p:=⟨bi,oi+j*3+2,none⟩) hbw (HK0.out bi hbih)).trans (hcs 2 _ rfl)
      have hj0:(0:Int)≤j:=by omega
      have Hri:=hideIt hri;have Hy:=hideIt hy
      clear hri hcs hl hy hbw ha63
      go_wp2_with fail
      generalize hwi:wr.alloc _=wi
      have hbi:Below wr.heap.size wr wi:=by rw [←hwi];exact(Below.refl _ _).alloc (Nat.le_refl _) _
      have HBj:=hideIt (HBi.out.all_ hbi)
      clear hwi hbi hi0 hi1 hi2 HBi
      have hen:=instr_encode _ hi y wi (Rd.keepK Hri.out HBj.out.kp hhi (fun j _ h=>HK0.out j h)) (Nat.le_trans hhi HBj.out.kp.size) (HTAB.out _ (HBj.out.kp.below hhi HK0.out))
      by_cases h0:insChk y=0
      case neg=>
       generalize hci:insChk y=ci at hen h0
       have HCI:=hideIt hci
       clear hci
       refine hen.mono ?_
       clear hen
       rintro e wj ⟨hbj,Aj,cj,rfl,hoj⟩
       have HBk:=hideIt (HBj.out.all_ hbj)
       have hX:Hid (EE=ci):=hideIt (by
        have h1:=orE_zero H20.out
        rw [←HE.out]
        refine body_fns H00.out HEr.out Hx.out h0 ?_
        rw [fnE_at Hx.out,orE_r H30.out,orE_r H8.out,orE_r h1.1,allTo_next Hx.out,orE_r h1.2,firstE_hit HEi.out (by rw [codeE_at Hy.out,HCI.out];exact h0) _ hltj,codeE_at Hy.out,HCI.out])
       have hb:(ci==0)=false:=by simpa using h0
       have Hc0:=hideIt h0
       clear hbj hoj HBj h0
       go_wp2_with fail
       refine(mod_ask_no ci 0 _).mono ?_
       rintro e wk ⟨rfl,rfl⟩
       go_wp2_with fail
       exact⟨rfl,HBk.out.kp,.inr ⟨by rw [hX.out];exact Hc0.out,by rw [hX.out]⟩⟩
      have Hc0:=hideIt h0
      have hio:insOut y=insB y:=by unfold insOut;rw [if_pos h0]
      rw [hio,h0] at hen
      refine hen.mono ?_
      clear hen h0 hio
      rintro e wj ⟨hbj,Aj,cj,rfl,hoj⟩
      have HBk:=hideIt (HBj.out.all_ hbj)
      have HRow:=hideIt (Row.own hoj)
      clear hbj hoj HBj
      go_wp2_with fail
      refine(mod_ask_yes 0 0 _).mono ?_
      rintro e wk ⟨rfl,rfl⟩
      have hd:=HBk.out.hd
      obtain⟨T,d,s1,⟨A,c,s2⟩,s3,s4,s5⟩:=hd
      generalize hLJ:LF++(f.code.take j).flatMap insB=LJ at*
      have HLJ:=hideIt hLJ
      have HLJn:Hid (LJ.length≤500000000000∧LJ.length+(insB y).length≤500000000000):=hideIt ⟨by rw [←hLJ];exact HLFn.out j,by have:=HLFn.out (j+1);rw [flat_next Hy.out,←List.append_assoc,hLJ,List.length_append] at this;exact this⟩
      have hg2:=s2.blk.q 2 rfl
      have hgf:=s2.blk.frozen 2
      have hgl:=s2.blk.lt
      have hbk:base≤wj.heap.size:=HBk.out.hb
      have Hs1:=hideIt s1;have Hs2:=hideIt s2;have Hs4:=hideIt s4;have Hs5:=hideIt s5
      obtain⟨i0,hi0,hz,hs',hby⟩:=info_parts info_u8
      clear hLJ s1 s2 s4 s5
      go_wp2_with (at_builtin;refine wpList_appB _ rfl (.tmp 81) (.tmp 82) 41 rfl base 5 i0 _ 1 underlying41 hi0 hz hs' hby rfl _ LJ.length (LJ.map bv) rfl (by exact Hs2.out.own) _ Aj (insB y).length cj ((insB y).map bv) (insB_pos Hc0.out) rfl (by rw [List.length_map,Nat.mul_one]) (by exact HRow.out) (bv_one _) (by have:=HLJn.out;unfold maxLen;omega) (by have:=HLJn.out;omega) hbk ?_;intro A8 c8 w8 h2 h3 h4;have HP:=hideIt (Hs2.out.put rfl h3 h2 h4);have hb8:=grown_blk h3 Hs2.out.blk (fun e=>(Hs2.out.apart g e).2 rfl);have hf8:=hb8.frozen 2;have hc8:=hb8.cell 2;have hl8:=hb8.lt;clear h2 h3 h4 hb8)
      all_goals
       have HH:=hideIt (Hd.of Hs1.out s3 Hs4.out Hs5.out HP.out.1 HP.out.2)
       have HN:Hid (firstE (j+1) (codeE f)=0):=hideIt (firstE_next HEi.out (by rw [codeE_at Hy.out];exact Hc0.out))
       have HF:Hid (LJ++insB y=LF++(f.code.take (j+1)).flatMap insB):=hideIt (by rw [flat_next Hy.out,←HLJ.out,List.append_assoc])
       refine⟨⟨j+1,by omega,by go_num,?_,HN.out⟩,by simp [intOf];omega⟩
       rw [←HF.out]
       exact HBk.out.to HH.out.1 HH.out.2 HKK2.out.2.2.1 HKK2.out.2.2.2
     ·obtain rfl:j=f.code.length:=by omega
      have HD:Hid (BodyAt w wr base g gs w.heap.size K K1 m (modC A1 A2 A3 (some ⟨b,o,none⟩) A5 A6 c1 c2 c3 c4 c5 c6 m) (allTo m (k+1)) (L++(enc m.fns.length++(m.fns.take (k+1)).flatMap fnB))):=hideIt (by
       have h:=HBi.out.less HKK2.out.1
       rw [List.take_length,←HLF.out,←HLL.out,←allTo_next Hx.out] at h
       rw [flat_next Hx.out]
       rw [show fnB f=enc f.t.toNat++textB f.loc++enc f.code.length++f.code.flatMap insB from rfl]
       simpa only [List.append_assoc] using h)
      have HN:Hid (firstE (k+1) (fnE m)=0):=hideIt (firstE_next HEr.out (by
       have:=orE_zero H20.out
       rw [fnE_at Hx.out,orE_r H30.out,orE_r H8.out,orE_r this.1,allTo_next Hx.out,orE_r this.2,HEi.out]))
      go_wp2_with fail
      exact⟨⟨k+1,by omega,by go_num,HD.out,HN.out⟩,by simp [intOf];omega⟩
   ·obtain rfl:k=m.fns.length:=by omega
    go_wp2_with fail
    go_meet
    refine⟨?_,HEr.out⟩
    have:=HBr.out
    rw [List.take_length] at this
    exact this
 case rest=>
  obtain⟨hbc,hec⟩:=hcut
  have HFE:Hid (fnsE m=0):=hideIt (by unfold fnsE;rw [orE_r H00.out];exact hec)
  have HL1n:Hid ((L++(enc m.fns.length++m.fns.flatMap fnB)).length≤390194315000):=hideIt (by
   have h1:=fns_len HIN.out.num HIN.out.sz m.fns.length m.fns.length hlf
   rw [List.take_length] at h1
   have:=HIN.out.sz
   rw [List.length_append];omega)
  generalize hL1:L++(enc m.fns.length++m.fns.flatMap fnB)=L1 at*
  have HL1:=hideIt hL1
  have HBc:=hideIt hbc
  have hx6:=hbc.box.q 6 rfl
  have hld:m.dat.length≤2147483647:=by have:=HIN.out.sz;unfold szMod at this;omega
  generalize allTo m m.fns.length=all0 at*
  clear hbc hec hL1 HB2 hx5
  go_wp2_with fail
  have hcount:=hd_count m.dat.length 64 (by omega) HBc.out.hd (by have:=HL1n.out;omega) HBc.out.hb
  refine hcount.mono ?_
  clear hcount
  rintro e wd ⟨hk,hcase⟩
  rcases hcase with⟨h0,rfl,hd⟩ | ⟨h0,rfl⟩
  case inr=>
   have H0:=hideIt h0;clear h0
   have HK2:=hideIt (HBc.out.kp.trans (hk.mono HKK.out.1))
   go_wp2_with fail
   have hX:EE=askE (decide (m.dat.length≤64)) 20:=by rw [←HE.out];exact body_dats0 HFE.out H0.out
   exact⟨rfl,HK2.out,.inr ⟨by rw [hX];exact H0.out,by rw [hX]⟩⟩
  have HD0:=hideIt h0
  have HBd:=hideIt (HBc.out.to (all':=all0) hk hd HKK.out.1 HKK.out.2)
  have hx6:=HBd.out.box.q 6 rfl
  clear h0 hk hd HBc
  go_upto_block 4 with fail
  go_cut [] (fun wx=>BodyAt w wx base g gs w.heap.size K K1 m (modC A1 A2 A3 A4 A5 A6 c1 c2 c3 c4 c5 c6 m) all0 (L1++(enc m.dat.length++m.dat.flatMap datB))∧firstE m.dat.length (datE m)=0)
  case first=>
   clear hx6
   go_wp2_with fail
   go_loopw [96] (fun i wr=> ∃k:Nat,k≤m.dat.length∧i= .int .i64 k∧BodyAt w wr base g gs w.heap.size K K1 m (modC A1 A2 A3 A4 A5 A6 c1 c2 c3 c4 c5 c6 m) all0 (L1++(enc m.dat.length++(m.dat.take k).flatMap datB))∧firstE k (datE m)=0)
    (fun i _=>m.dat.length-(intOf i).toNat)
   case atStart=>exact⟨0,Nat.zero_le _,rfl,by simpa using HBd.out,rfl⟩
   case round=>
    obtain⟨k,hk,rfl,hbr,her⟩:=hrel
    have HBr:=hideIt hbr;have HEr:=hideIt her
    clear hbr her
    by_cases hltk:k<m.dat.length
    ·obtain⟨d,hx⟩: ∃d,m.dat[k]?=some d:=⟨_,List.getElem?_eq_getElem hltk⟩
     have hcap:=sl_cap H5.out
     have htk:=sl_take H5.out (k:=k) (by omega)
     obtain⟨b,o,A_b,c_b,rfl,_,hbh,hd0,hd1,hat,hbb⟩:=rDat_at H5.out hx
     have hbw:b<w.heap.size:=Nat.lt_of_lt_of_le hbh hhi
     have hc0':=(HBr.out.kp.cell (p:=⟨b,o+k*2,none⟩) hbw (HK0.out b hbh)).trans hd0
     have hc1':=(HBr.out.kp.cell (p:=⟨b,o+k*2+1,none⟩) hbw (HK0.out b hbh)).trans hd1
     have HBB:=hideIt hbb;have HTK:=hideIt htk
     have Hx:=hideIt hx
     have hk0:(0:Int)≤k:=by omega
     have hkc:k≤c5:=by omega
     have HLk:Hid ((L1++(enc m.dat.length++(m.dat.take k).flatMap datB)).length≤490194315000):=hideIt (by
      have h1:=dat_len HIN.out.num HIN.out.sz m.dat.length k hld
      have:=HIN.out.sz
      have:=HL1n.out
      rw [List.length_append];omega)
     have Hbl:Hid (d.b.length≤2147483647):=hideIt (by
      have h1:=sumBy_mem (fun d:DatV=>d.b.length) m.dat d (List.mem_of_getElem? hx)
      have h2:=HIN.out.sz
      unfold szMod at h2;omega)
     have hz3:=HBr.out.box.q 6 rfl
     have hzl:w.heap.size<wr.heap.size:=HBr.out.box.lt
     clear hx hd0 hd1 hbb htk hcap
     go_upto_region 22 with fail
     generalize hw3:wr.alloc _=w3
     have hb3:Below wr.heap.size wr w3:=by rw [←hw3];exact(Below.refl _ _).alloc (Nat.le_refl _) _
     have HB3:=hideIt (HBr.out.box_ hb3 (by rw [←hw3];simp))
     have Hn3:Hid (Blk w3 wr.heap.size 59 [.int .i64 d.at_,.slice A_b d.b.length c_b]):=by rw [←hw3];exact hideIt (Blk.new wr 59 [.int .i64 d.at_,.slice A_b d.b.length c_b])
     generalize hK2:(fun j=>K1 j∨j=wr.heap.size)=K2 at HB3
     have HKK2:Hid ((∀j,K1 j→K2 j)∧K2 wr.heap.size∧(∀j,K j→K2 j)∧K2 w.heap.size):=hideIt (by rw [←hK2];exact⟨fun j h=> .inl h,.inr rfl,fun j h=> .inl (HKK.out.1 j h),.inl HKK.out.2⟩)
     generalize hLL:L1++(enc m.dat.length++(m.dat.take k).flatMap datB)=LL at*
     have HLL:=hideIt hLL
     clear hw3 hb3 hK2 hc0' hc1' hLL hz3
     have HST:=hideIt (fun W (hb:Below w3.heap.size w3 W)=>hd_starts d.at_ (some ⟨b,o,none⟩) k c5 0 hi (m.dat.take k) (HB3.out.all_ hb).hd (Rd.keepK HTK.out (HB3.out.kp.trans (Keep.of_all hb)) hhi (fun j _ h=>HK0.out j h)) HIN.out.f0 HIN.out.f1 hat (dat_ok HIN.out.f0 HIN.out.f1 HEr.out hk) (by have:=askE_zero (by decide) HD0.out;have:=of_decide_eq_true this;omega))
     have hm0:=Hn3.out.q 0 rfl
     have hm6:=HB3.out.box.q 6 rfl
     go_still_tail 9,(by kernel_rfl)
     repeat still_step
     try refine wpStill_nil ?_
     change wpList _ _ _ _ _ w3.drew
     have hbd:Below w3.heap.size w3 w3.drew:=⟨rfl,rfl,rfl,Nat.le_refl _,fun _ _=>rfl⟩
     have HB4:=hideIt (HB3.out.all_ hbd)
     have Hn4:Hid (Blk w3.drew wr.heap.size 59 [.int .i64 d.at_,.slice A_b d.b.length c_b]):=hideIt Hn3.out
     have hst:=HST.out w3.drew hbd
     clear HST HB3 Hn3 hm0 hm6 hbd
     generalize w3.drew=w4 at*
     go_wp2_with fail
     refine hst.mono ?_
     clear hst
     rintro e w5 ⟨hb5,hcase⟩
     change Ends (stE m k d) 0 e at hcase
     have HB5:=hideIt (HB4.out.all_ hb5);have Hn5:=hideIt (Hn4.out.below hb5 Hn4.out.lt)
     clear hb5 HB4 Hn4
     rcases hcase with⟨h0,rfl⟩ | ⟨h0,rfl⟩
     case inr=>
      have hX:Hid (EE=stE m k d):=hideIt (by rw [←HE.out];exact body_dats HFE.out HD0.out HEr.out Hx.out h0 (by rw [datE_at Hx.out,orE_l h0]))
      have HS:=hideIt h0;clear h0
      go_wp2_with fail
      exact⟨rfl,HB5.out.kp,.inr ⟨by rw [hX.out];exact HS.out,by rw [hX.out]⟩⟩
     have HS:=hideIt h0;clear h0
     have hat2:=of_decide_eq_true (askE_zero (by decide) (orE_zero HS.out).1)
     obtain⟨n,hn⟩:=Int.eq_ofNat_of_zero_le hat2.1
     have hm0:=Hn5.out.q 0 rfl
     have Hnn:Hid (d.at_=(n:Int)∧n≤262144):=hideIt ⟨hn,by have:=HIN.out.f1;omega⟩
     have hcn:=hd_number n (by have:=Hnn.out.2;omega) HB5.out.hd (by have:=HLk.out;omega) HB5.out.hb
     rw [←hn] at hcn
     have hfa: -9223372036854775808≤m.first*4096∧m.first*4096≤262144∧0≤d.at_∧d.at_≤m.first*4096:=by have:=HIN.out.f0;have:=HIN.out.f1;omega
     have Hfa:=hideIt hfa
     clear hn hat2 hfa
     go_wp2_with fail
     refine hcn.mono ?_
     clear hcn
     rintro e w6 ⟨rfl,hk6,hd6⟩
     have HB6:=hideIt (HB5.out.to hk6 hd6 HKK2.out.2.2.1 HKK2.out.2.2.2);have Hn6:=hideIt (Hn5.out.keep hk6 HKK2.out.2.1)
     have hm1:=Hn6.out.q 1 rfl
     have hm0:=Hn6.out.q 0 rfl
     have hz3:=HB6.out.box.q 3 rfl
     have hfa:=Hfa.out
     have hwm:IntKind.i64.wrap (m.first*4096)=m.first*4096:=by rw [IntKind.wrap_i64];omega
     have hws:IntKind.i64.wrap (m.first*4096-d.at_)=m.first*4096-d.at_:=by rw [IntKind.wrap_i64];omega
     clear hk6 hd6 HB5 Hn5 hfa
     go_wp2_with fail
     refine(mod_ask _ 13 0 (by decide) _).mono ?_
     rintro e w7 ⟨rfl,hcase⟩
     rcases hcase with⟨h0,rfl⟩ | ⟨h0,rfl⟩
     case inr=>
      have H13:=hideIt h0
      have hX:Hid (EE=askE (decide ((d.b.length:Int)≤m.first*4096-d.at_)) 13):=hideIt (by rw [←HE.out];exact body_dats HFE.out HD0.out HEr.out Hx.out h0 (by rw [datE_at Hx.out,orE_r HS.out,orE_l h0]))
      clear h0
      go_wp2_with fail
      exact⟨rfl,HB6.out.kp,.inr ⟨by rw [hX.out];exact H13.out,by rw [hX.out]⟩⟩
     have H13:=hideIt h0;clear h0
     go_wp2_with fail
     refine(mod_ask _ 17 0 (by decide) _).mono ?_
     rintro e w7 ⟨rfl,hcase⟩
     rcases hcase with⟨h0,rfl⟩ | ⟨h0,rfl⟩
     case inr=>
      have H17:=hideIt h0
      have hX:Hid (EE=askE (decide (0<d.b.length)) 17):=hideIt (by rw [←HE.out];exact body_dats HFE.out HD0.out HEr.out Hx.out h0 (by rw [datE_at Hx.out,orE_r HS.out,orE_r H13.out]))
      clear h0
      go_wp2_with fail
      exact⟨rfl,HB6.out.kp,.inr ⟨by rw [hX.out];exact H17.out,by rw [hX.out]⟩⟩
     have H17:=hideIt h0
     have hpos:=of_decide_eq_true (askE_zero (by decide) h0)
     clear h0
     obtain⟨bb,ob,rfl,hbbl,hbc⟩:=(Rd.sl_row HBB.out).2 (by rw [List.length_map];exact hpos)
     have hconv:=run_convert_bytes_back (P:=prog) w6 41 9 5 ⟨bb,ob,none⟩ c_b d.b underlying41 underlying5 underlying9 (fun j hj=>by
      rw [Addr.add_lit,(HB6.out.kp.cell (p:=⟨bb,ob+j,none⟩) (Nat.lt_of_lt_of_le hbbl hhi) (HK0.out bb hbbl))]
      exact hbc j _ (by rw [List.getElem?_map,List.getElem?_eq_getElem hj];rfl))
     clear hpos hbc hbbl hws hwm
     go_wp2_with fail
     have hct:=hd_text ⟨d.b.toArray⟩ (by have:=Hbl.out;show d.b.toArray.size≤_;simp;omega) HB6.out.hd (by have:=HLk.out;have:=enc_len10 n (by have:=Hnn.out.2;omega);rw [List.length_append];omega) HB6.out.hb
     refine hct.mono ?_
     clear hct hconv
     rintro e w8 ⟨rfl,hk8,hd8⟩
     have HN:Hid (firstE (k+1) (datE m)=0):=hideIt (firstE_next HEr.out (by rw [datE_at Hx.out,orE_r HS.out,orE_r H13.out];exact H17.out))
     have HB8:Hid (BodyAt w w8 base g gs w.heap.size K K1 m (modC A1 A2 A3 A4 (some ⟨b,o,none⟩) A6 c1 c2 c3 c4 c5 c6 m) all0 (L1++(enc m.dat.length++(m.dat.take (k+1)).flatMap datB))):=hideIt (by
      have h:=(HB6.out.to hk8 hd8 HKK2.out.2.2.1 HKK2.out.2.2.2).less HKK2.out.1
      have he:LL++enc n++textB ⟨d.b.toArray⟩=L1++(enc m.dat.length++(m.dat.take (k+1)).flatMap datB):=by
       rw [flat_next Hx.out,←HLL.out]
       unfold datB textB
       rw [Hnn.out.1]
       show _=_
       simp only [List.append_assoc,Int.toNat_natCast]
       rfl
      rw [he] at h
      exact h)
     clear hk8 hd8 HB6 Hn6 hm0 hm1 hz3
     go_wp2_with fail
     exact⟨⟨k+1,by omega,by go_num,HB8.out,HN.out⟩,by simp [intOf];omega⟩
    ·obtain rfl:k=m.dat.length:=by omega
     go_wp2_with fail
     go_meet
     refine⟨?_,HEr.out⟩
     have:=HBr.out
     rw [List.take_length] at this
     exact this
  case rest=>
   obtain⟨hbc,hec⟩:=hcut
   have HDE:Hid (datsE m=0):=hideIt (by unfold datsE;rw [orE_r HD0.out];exact hec)
   have HL2n:Hid ((L1++(enc m.dat.length++m.dat.flatMap datB)).length≤490194315000):=hideIt (by
    have h1:=dat_len HIN.out.num HIN.out.sz m.dat.length m.dat.length hld
    rw [List.take_length] at h1
    have:=HIN.out.sz
    have:=HL1n.out
    rw [List.length_append];omega)
   generalize hL2:L1++(enc m.dat.length++m.dat.flatMap datB)=L2 at*
   have HL2:=hideIt hL2
   have HBc:=hideIt hbc
   have hx7:=hbc.box.q 7 rfl
   have hle:m.exps.length≤2147483647:=by have:=HIN.out.sz;unfold szMod at this;omega
   clear hbc hec hL2 HBd hx6
   go_wp2_with fail
   have hcount:=hd_count m.exps.length 64 (by omega) HBc.out.hd (by have:=HL2n.out;omega) HBc.out.hb
   refine hcount.mono ?_
   clear hcount
   rintro e wd ⟨hk,hcase⟩
   rcases hcase with⟨h0,rfl,hd⟩ | ⟨h0,rfl⟩
   case inr=>
    have H0:=hideIt h0;clear h0
    have HK2:=hideIt (HBc.out.kp.trans (hk.mono HKK.out.1))
    go_wp2_with fail
    have hX:EE=askE (decide (m.exps.length≤64)) 20:=by rw [←HE.out];exact body_exps0 HFE.out HDE.out H0.out
    exact⟨rfl,HK2.out,.inr ⟨by rw [hX];exact H0.out,by rw [hX]⟩⟩
   have HX0:=hideIt h0
   have HBd:=hideIt (HBc.out.to (all':=all0) hk hd HKK.out.1 HKK.out.2)
   have hx7:=HBd.out.box.q 7 rfl
   clear h0 hk hd HBc
   go_wp2_with fail
   go_loopw [145] (fun i wr=> ∃k:Nat,k≤m.exps.length∧i= .int .i64 k∧BodyAt w wr base g gs w.heap.size K K1 m (modC A1 A2 A3 A4 A5 A6 c1 c2 c3 c4 c5 c6 m) all0 (L2++(enc m.exps.length++(m.exps.take k).flatMap expB))∧firstE k (expE m)=0)
    (fun i _=>m.exps.length-(intOf i).toNat)
   case atStart=>exact⟨0,Nat.zero_le _,rfl,by simpa using HBd.out,rfl⟩
   case round=>
    obtain⟨k,hk,rfl,hbr,her⟩:=hrel
    have HBr:=hideIt hbr;have HEr:=hideIt her
    clear hbr her
    by_cases hltk:k<m.exps.length
    ·obtain⟨x,hx⟩: ∃x,m.exps[k]?=some x:=⟨_,List.getElem?_eq_getElem hltk⟩
     have hcap:=sl_cap H6.out
     have htk:=sl_take H6.out (k:=k) (by omega)
     obtain⟨b,o,rfl,_,hbh,hd0,hd1,hns,hf6⟩:=rExp_at H6.out hx
     have hbw:b<w.heap.size:=Nat.lt_of_lt_of_le hbh hhi
     have hc0':=(HBr.out.kp.cell (p:=⟨b,o+k*2,none⟩) hbw (HK0.out b hbh)).trans hd0
     have hc1':=(HBr.out.kp.cell (p:=⟨b,o+k*2+1,none⟩) hbw (HK0.out b hbh)).trans hd1
     have HTK:=hideIt htk
     have Hx:=hideIt hx
     have hk0:(0:Int)≤k:=by omega
     have hkc:k≤c6:=by omega
     have HLk:Hid ((L2++(enc m.exps.length++(m.exps.take k).flatMap expB)).length≤590194315000):=hideIt (by
      have h1:=exps_len HIN.out.num HIN.out.sz m.exps.length k hle
      have:=HIN.out.sz
      have:=HL2n.out
      rw [List.length_append];omega)
     have hz3:=HBr.out.box.q 7 rfl
     have hzl:w.heap.size<wr.heap.size:=HBr.out.box.lt
     clear hx hd0 hd1 htk hcap
     go_upto_region 32 with fail
     generalize hw3:wr.alloc _=w3
     have hb3:Below wr.heap.size wr w3:=by rw [←hw3];exact(Below.refl _ _).alloc (Nat.le_refl _) _
     have HB3:=hideIt (HBr.out.box_ hb3 (by rw [←hw3];simp))
     have Hn3:Hid (Blk w3 wr.heap.size 61 [.string x.n,.int .i64 x.f]):=by rw [←hw3];exact hideIt (Blk.new wr 61 [.string x.n,.int .i64 x.f])
     generalize hK2:(fun j=>K1 j∨j=wr.heap.size)=K2 at HB3
     have HKK2:Hid ((∀j,K1 j→K2 j)∧K2 wr.heap.size∧(∀j,K j→K2 j)∧K2 w.heap.size):=hideIt (by rw [←hK2];exact⟨fun j h=> .inl h,.inr rfl,fun j h=> .inl (HKK.out.1 j h),.inl HKK.out.2⟩)
     generalize hLL:L2++(enc m.exps.length++(m.exps.take k).flatMap expB)=LL at*
     have HLL:=hideIt hLL
     clear hw3 hb3 hK2 hc0' hc1' hLL hz3
     have HST:=hideIt (fun W (hb:Below w3.heap.size w3 W)=>mod_named x.n hns (some ⟨b,o,none⟩) k c6 0 hi (m.exps.take k) W (Rd.keepK HTK.out (HB3.out.kp.trans (Keep.of_all hb)) hhi (fun j _ h=>HK0.out j h)) (by have:=askE_zero (by decide) HX0.out;have:=of_decide_eq_true this;omega))
     have hm0:=Hn3.out.q 0 rfl
     have hm6:=HB3.out.box.q 7 rfl
     go_still_tail 6,(by kernel_rfl)
     repeat still_step
     try refine wpStill_nil ?_
     change wpList _ _ _ _ _ w3.drew
     have hbd:Below w3.heap.size w3 w3.drew:=⟨rfl,rfl,rfl,Nat.le_refl _,fun _ _=>rfl⟩
     have HB4:=hideIt (HB3.out.all_ hbd)
     have Hn4:Hid (Blk w3.drew wr.heap.size 61 [.string x.n,.int .i64 x.f]):=hideIt Hn3.out
     have hst:=HST.out w3.drew hbd
     clear HST HB3 Hn3 hm0 hm6 hbd
     generalize w3.drew=w4 at*
     go_wp2_with fail
     refine hst.mono ?_
     clear hst
     rintro e w5 ⟨hb5,hcase⟩
     have HB5:=hideIt (HB4.out.all_ hb5);have Hn5:=hideIt (Hn4.out.below hb5 Hn4.out.lt)
     clear hb5 HB4 Hn4
     rcases hcase with⟨h0,rfl⟩ | ⟨h0,rfl⟩
     case inr=>
      have hX:Hid (EE=orE (nameE x.n) (ordE (m.exps.take k) k x.n)):=hideIt (by rw [←HE.out];exact body_exps HFE.out HDE.out HX0.out HEr.out Hx.out h0 (by rw [expE_at Hx.out,orE_l h0]))
      have HS:=hideIt h0;clear h0
      go_wp2_with fail
      exact⟨rfl,HB5.out.kp,.inr ⟨by rw [hX.out];exact HS.out,by rw [hX.out]⟩⟩
     have HS:=hideIt h0
     have hn32:x.n.size≤32:=of_decide_eq_true (askE_zero (by decide) (orE_zero (orE_zero h0).1).1)
     clear h0
     have hm0:=Hn5.out.q 0 rfl
     have hct:=hd_text x.n (by omega) HB5.out.hd (by have:=HLk.out;omega) HB5.out.hb
     go_wp2_with fail
     refine hct.mono ?_
     clear hct
     rintro e w6 ⟨rfl,hk6,hd6⟩
     have HB6:=hideIt (HB5.out.to hk6 hd6 HKK2.out.2.2.1 HKK2.out.2.2.2);have Hn6:=hideIt (Hn5.out.keep hk6 HKK2.out.2.1)
     have hm1:=Hn6.out.q 1 rfl
     have hz5:=HB6.out.box.q 5 rfl
     have hci:=hd_index x.f m.fns.length hf6.2 HB6.out.hd (by have:=HLk.out;have:=textB_len (s:=x.n) (by omega);rw [List.length_append];omega) HB6.out.hb
     clear hk6 hd6 HB5 Hn5 hm0 hn32
     generalize hv30:askE (decide (0≤x.f∧x.f<m.fns.length)) 30=v30 at hci
     have HV:=hideIt hv30
     clear hv30
     go_wp2_with fail
     refine hci.mono ?_
     clear hci
     rintro e w7 ⟨hk7,hcase⟩
     rcases hcase with⟨h30,rfl,hd7⟩ | ⟨h30,rfl⟩
     case inr=>
      have H30:=hideIt h30
      have HK7:=hideIt (HB6.out.kp.trans (hk7.mono HKK2.out.2.2.1))
      have hX:Hid (EE=v30):=hideIt (by rw [←HE.out];exact body_exps HFE.out HDE.out HX0.out HEr.out Hx.out h30 (by rw [expE_at Hx.out,orE_r HS.out,HV.out]))
      clear h30 hk7
      go_wp2_with fail
      exact⟨rfl,HK7.out,.inr ⟨by rw [hX.out];exact H30.out,by rw [hX.out]⟩⟩
     have HN:Hid (firstE (k+1) (expE m)=0):=hideIt (firstE_next HEr.out (by rw [expE_at Hx.out,orE_r HS.out,HV.out,h30]))
     have HB8:Hid (BodyAt w w7 base g gs w.heap.size K K1 m (modC A1 A2 A3 A4 A5 (some ⟨b,o,none⟩) c1 c2 c3 c4 c5 c6 m) all0 (L2++(enc m.exps.length++(m.exps.take (k+1)).flatMap expB))):=hideIt (by
      have h:=(HB6.out.to hk7 hd7 HKK2.out.2.2.1 HKK2.out.2.2.2).less HKK2.out.1
      have he:LL++textB x.n++enc x.f.toNat=L2++(enc m.exps.length++(m.exps.take (k+1)).flatMap expB):=by
       rw [flat_next Hx.out,←HLL.out]
       unfold expB
       simp only [List.append_assoc]
      rw [he] at h
      exact h)
     clear hk7 hd7 HB6 Hn6 hm1 hz5 h30
     go_wp2_with fail
     exact⟨⟨k+1,by omega,by go_num,HB8.out,HN.out⟩,by simp [intOf];omega⟩
    ·obtain rfl:k=m.exps.length:=by omega
     go_wp2_with fail
     go_end0
     have hX:EE=0:=by
      rw [←HE.out]
      unfold bodyE expsE
      rw [orE_r HFE.out,orE_r HDE.out,orE_r HX0.out,HEr.out]
     have h:=HBr.out
     rw [List.take_length] at h
     refine⟨h.kp,.inl ⟨hX,rfl,all0,?_⟩⟩
     have hfin:L++bodyB m=L2++(enc m.exps.length++m.exps.flatMap expB):=by
      unfold bodyB
      rw [←HL2.out,←HL1.out]
      simp only [List.append_assoc]
     rw [hfin]
     exact h.hd.less HKK.out.1
end
end Go.Proofs.YtebgikflpgcnlaaGreatDoor
