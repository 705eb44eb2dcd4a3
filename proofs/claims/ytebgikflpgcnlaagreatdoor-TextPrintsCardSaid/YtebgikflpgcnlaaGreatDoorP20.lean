/- Part 20 of the proof: TypesN InsD InsF -/
import Derived.Deep.Cut
import Derived.Test.YtebgikflpgcnlaaGreatDoorP10
import Derived.Test.YtebgikflpgcnlaaGreatDoorP14
import Derived.Test.YtebgikflpgcnlaaGreatDoorP19
namespace Go.Proofs.YtebgikflpgcnlaaGreatDoor
set_option linter.unusedVariables false
set_option linter.unusedSimpArgs false
set_option maxRecDepth 100000
set_option maxHeartbeats 4000000
open Go.RowKit Tryz
theorem ZJ (v c:Nat) (hc:c<256) (w:World):Calls prog 206 #[.int .u64 v,.int .u8 c] w fun e w'=>w=w'∧e= .returned (.bool (JL v c)):=by
 by_cases h1:c=119
 ·subst h1
  have HF:=AA (show JL v 119=decide ((v:Int)<4294967296)by unfold JL;simp;omega)
  go_enter func206,ntmps206
  go_wp2
  go_ret
  exact⟨rfl,by rw [HF.out];rfl⟩
 ·have h1':((c:Int)==119)=false:=by simp;omega
  have HF:=AA (show JL v c=((c:Int)==108)by
   have h2:(c==119)=false:=by simp [h1]
   unfold JL
   rw [h2,Bool.false_and,Bool.or_false]
   by_cases h3:c=108
   ·subst h3;rfl
   ·have h4:(c==108)=false:=by simp [h3]
    have h5:((c:Int)==108)=false:=by simp;omega
    rw [h4,h5])
  clear h1
  go_enter func206,ntmps206
  go_wp2
  go_ret
  exact⟨rfl,by rw [HF.out];rfl⟩
section
attribute [local irreducible] CG
def AE4:Prop:= ∀(op:Nat) (W:World),op<256→Calls prog 136 #[.int .u8 op] W fun e w'=>Below W.heap.size W w'∧e= .returned (Eh op)
def aC:ByteArray:=⟨#[108,46,99,111,110,115,116]⟩
theorem AAN: ∀r∈Dj,r.takes=8→(r.word=wconst∨r.word=aC):=by
 have h:Dj.all (fun r=>decide (r.takes=8→(r.word.data.toList=wconst.data.toList∨r.word.data.toList=aC.data.toList)))=true:=by kernel_rfl
 intro r hr ht
 rcases of_decide_eq_true (List.all_eq_true.1 h r hr) ht with e | e
 ·exact .inl (ByteArray.ext (Array.toList_inj.1 e))
 ·exact .inr (ByteArray.ext (Array.toList_inj.1 e))
theorem X5 (cs:List Value) (hi:Nat) (x:Av) (w:World) (h:I_.R w 0 hi cs x) (hhi:hi≤w.heap.size) (hof:AE4):
 Calls prog 207 #[.agg cs.toArray] w fun e w'=>Below w.heap.size w w'∧e= .returned (.int .i64 (Aa x)):=by
 have Ht:=AA hof
 obtain⟨fu,rfl,WI,Ql⟩:=D9.1 h
 obtain⟨OT,Nt,rfl⟩:=AU Ql
 have zR:=AA Ql;have H_a:=AA WI
 clear h Ql WI hof
 unfold bv
 go_enter func207,ntmps207
 go_wp2_with fail
 generalize hw:w.alloc _=w1
 have H1:Hid (Below w.heap.size w w1):=by rw [←hw];exact AA ((Below.refl _ _).alloc (Nat.le_refl _) _)
 have Hb1:Hid (AV w1 w.heap.size 53 [.int .u8 (x.op.toNat:Int),.int .i64 x.a,.slice OT x.l.length Nt]):=by rw [←hw];exact AA (AV.new w 53 [.int .u8 (x.op.toNat:Int),.int .i64 x.a,.slice OT x.l.length Nt])
 clear hw
 refine(Ht.out x.op.toNat w1 (UInt8.toNat_lt x.op)).mono ?_
 rintro e w2 ⟨hbe,rfl⟩
 have Hb2:=AA (Hb1.out.below hbe Hb1.out.lt)
 have H2:=AA (H1.out.trans (hbe.mono H1.out.size))
 clear hbe Hb1 H1
 have hsz:w.heap.size<w2.heap.size:=Hb2.out.lt
 cases hr:CG x.op.toNat with
 | none=>
  have ha:Eh x.op.toNat= .tuple #[.agg mX,.bool false]:=by unfold Eh;rw [hr]
  have HX:Hid (Aa x=21):=AA (by unfold Aa;rw [hr])
  rw [ha]
  unfold mX
  clear ha hr
  go_wp2_with fail
  go_ret
  exact⟨H2.out.alloc (by omega) _,by rw [HX.out];rfl⟩
 | some r=>
  have ha:Eh x.op.toNat= .tuple #[.agg (opC r),.bool true]:=by unfold Eh;rw [hr]
  have Hr:=AA hr
  rw [ha]
  unfold opC
  clear ha hr
  go_upto_block 0 with fail
  generalize hw3:w2.alloc _=w3
  have H3:Hid (Below w.heap.size w w3):=by rw [←hw3];exact AA (H2.out.alloc (by omega) _)
  have Hb3:Hid (AV w3 w.heap.size 53 [.int .u8 (x.op.toNat:Int),.int .i64 x.a,.slice OT x.l.length Nt]):=by rw [←hw3];exact AA (Hb2.out.alloc _)
  have Hc3:Hid (AV w3 w2.heap.size 183 (opC r).toList):=by rw [←hw3];exact AA (AV.new w2 183 (opC r).toList)
  clear hw3 hsz Hb2 H2
  go_cut [5,6] (fun a b wx=>a= .int .i64 (Ah r).1∧b= .int .i64 (Ah r).2∧wx=w3)
  case first=>
   have hc2:=Hc3.out.q 2 rfl
   have hc1:=Hc3.out.q 1 rfl
   have hm:=(Jh Hr.out).1
   have HT:=AA (AAN r hm)
   have ht:=WS r hm
   clear hm
   rcases ht with h | h | h | h | h | h | h | h | h | h
   case inr.inr.inr.inr.inr.inr.inr.inr.inl=>
    have e0:(r.takes==0)=false:=by rw [h];rfl
    have e3:(r.takes==3)=false:=by rw [h];rfl
    have e9:(r.takes==9)=false:=by rw [h];rfl
    have e8:(r.takes==8)=true:=by rw [h];rfl
    rcases HT.out h with hw | hw
    ·have HX:Hid (Ah r=(-2147483648,2147483647)):=AA (by unfold Ah;simp [h,hw])
     rw [hw] at hc1
     unfold wconst at hc1
     clear h hw HT
     go_wp2_with fail
     go_meet
     rw [HX.out]
     exact⟨rfl,rfl,rfl⟩
    ·have HX:Hid (Ah r=(-9223372036854775808,9223372036854775807)):=AA (by unfold Ah;simp [h,hw,show ¬(aC=wconst)by decide])
     rw [hw] at hc1
     unfold aC at hc1
     clear h hw HT
     go_wp2_with fail
     go_meet
     rw [HX.out]
     exact⟨rfl,rfl,rfl⟩
   all_goals
    have E:=AA h
    obtain⟨e0,h0⟩: ∃b,(r.takes==0)=b:=⟨_,rfl⟩
    obtain⟨e3,h3⟩: ∃b,(r.takes==3)=b:=⟨_,rfl⟩
    obtain⟨e9,h9⟩: ∃b,(r.takes==9)=b:=⟨_,rfl⟩
    obtain⟨e8,h8⟩: ∃b,(r.takes==8)=b:=⟨_,rfl⟩
    have H0:=h0;have H3:=h3;have H9:=h9;have H8:=h8
    rw [h] at H0 H3 H9 H8
    subst H0 H3 H9 H8
    simp at h0 h3 h9 h8
    have HX:Hid (Ah r=Ah ⟨0,wconst,r.takes,wconst,wconst,true⟩):=AA (by unfold Ah;simp [h])
    rw [h] at HX
    clear h HT hc1
    go_wp2_with fail
    go_meet
    rw [HX.out]
    exact⟨rfl,rfl,rfl⟩
  case rest=>
   obtain⟨rfl,rfl,rfl⟩:=hcut
   have hc1:=Hb3.out.q 1 rfl
   have hb2:=Hb3.out.q 2 rfl
   have hc2:=Hc3.out.q 2 rfl
   by_cases ha1:x.a<(Ah r).1
   ·have HX:Hid (Aa x=17):=AA (by unfold Aa;rw [Hr.out];dsimp only;rw [if_pos (by omega)])
    have d:=decide_eq_true ha1
    go_wp2_with fail
    go_ret
    exact⟨H3.out,by rw [HX.out];rfl⟩
   have d1:=decide_eq_false ha1
   by_cases ha2:x.a>(Ah r).2
   ·have HX:Hid (Aa x=17):=AA (by unfold Aa;rw [Hr.out];dsimp only;rw [if_pos (by omega)])
    have d:=decide_eq_true ha2
    go_wp2_with fail
    go_ret
    exact⟨H3.out,by rw [HX.out];rfl⟩
   have d2:=decide_eq_false ha2
   have hin:(Ah r).1≤x.a∧x.a≤(Ah r).2:=⟨by omega,by omega⟩
   clear ha1 ha2
   by_cases h3:r.takes=3
   case neg=>
    have hne:(r.takes==3)=false:=by simpa using h3
    by_cases hl:0<x.l.length
    ·have HX:Hid (Aa x=17):=AA (by unfold Aa;rw [Hr.out];simp [hin,h3,hl])
     have d:((x.l.length:Int) !=0)=true:=bne_iff_ne.2 (by omega)
     clear hin h3
     go_wp2_with fail
     go_ret
     exact⟨H3.out,by rw [HX.out];rfl⟩
    ·have HX:Hid (Aa x=0):=AA (by unfold Aa;rw [Hr.out];simp [hin,h3,hl])
     have d:((x.l.length:Int) !=0)=false:=by rw [bne_eq_false_iff_eq];omega
     clear hin h3
     go_wp2_with fail
     go_ret
     exact⟨H3.out,by rw [HX.out];rfl⟩
   have hne:(r.takes==3)=true:=by simpa using h3
   by_cases hl1:x.l.length<1
   ·have HX:Hid (Aa x=17):=AA (by unfold Aa;rw [Hr.out];simp only [hin,h3,and_self,not_true_eq_false,if_false,ne_eq];rw [if_pos (.inl hl1)])
    have d:decide ((x.l.length:Int)<1)=true:=decide_eq_true (by omega)
    clear hin h3
    go_wp2_with fail
    go_ret
    exact⟨H3.out,by rw [HX.out];rfl⟩
   have d:decide ((x.l.length:Int)<1)=false:=decide_eq_false (by omega)
   by_cases hl2:16<x.l.length
   ·have HX:Hid (Aa x=17):=AA (by unfold Aa;rw [Hr.out];simp only [hin,h3,and_self,not_true_eq_false,if_false,ne_eq];rw [if_pos (.inr hl2)])
    have d2:decide ((x.l.length:Int)>16)=true:=decide_eq_true (by omega)
    clear hin h3
    go_wp2_with fail
    go_ret
    exact⟨H3.out,by rw [HX.out];rfl⟩
   have d2:decide ((x.l.length:Int)>16)=false:=decide_eq_false (by omega)
   have HA:Hid (Aa x=if x.l.all (fun n=>decide (0≤n∧n≤2147483647)) then 0 else 17):=AA (by
    unfold Aa
    rw [Hr.out]
    simp only [hin,h3,and_self,not_true_eq_false,if_false,ne_eq]
    rw [if_neg (by omega)])
   have H_l5:=AA (Rd.below zR.out H3.out hhi)
   clear hin h3
   go_wp2_with fail
   clear d d2 hne hc2
   go_loopw [7] (fun i wr=> ∃k:Nat,k≤x.l.length∧i= .int .i64 k∧wr=wc∧ ∀j y,j<k→x.l[j]?=some y→0≤y∧y≤2147483647) (fun i _=>x.l.length-(intOf i).toNat)
   case atStart=>exact⟨0,Nat.zero_le _,rfl,rfl,fun j y hj=>absurd hj (by omega)⟩
   case round=>
    obtain⟨k,hk,rfl,rfl,hall⟩:=hrel
    have Zx:=AA hall;clear hall
    by_cases hlt:k<x.l.length
    ·obtain⟨y,hy⟩: ∃y,x.l[k]?=some y:=⟨_,List.getElem?_eq_getElem hlt⟩
     obtain⟨b,o,rfl,_,_,cs,hcs,hrd⟩:=NW H_l5.out hy
     obtain⟨rfl,ACF⟩:=hrd
     have hc0:wr.cell? ⟨b,o+k,none⟩=some (.int .i64 y):=by
      have:=hcs 0 _ rfl
      rwa [show Rd.i64.z=1 from rfl,Nat.mul_one,Nat.add_zero] at this
     have hi0:(0:Int)≤k:=by omega
     have Hy:=AA hy
     clear hcs hy
     by_cases hy0:y<0
     ·have HX:Hid (Aa x=17):=AA (by
       rw [HA.out,if_neg]
       intro hal
       have:=of_decide_eq_true (List.all_eq_true.1 hal y (List.mem_of_getElem? Hy.out))
       omega)
      have e1:decide (y<0)=true:=decide_eq_true hy0
      go_wp2_with fail
      go_ret
      exact⟨H3.out,by rw [HX.out];rfl⟩
     have e1:decide (y<0)=false:=decide_eq_false hy0
     by_cases hy1:y>2147483647
     ·have HX:Hid (Aa x=17):=AA (by
       rw [HA.out,if_neg]
       intro hal
       have:=of_decide_eq_true (List.all_eq_true.1 hal y (List.mem_of_getElem? Hy.out))
       omega)
      have e2:decide (y>2147483647)=true:=decide_eq_true hy1
      go_wp2_with fail
      go_ret
      exact⟨H3.out,by rw [HX.out];rfl⟩
     have e2:decide (y>2147483647)=false:=decide_eq_false hy1
     have HN:Hid (∀j z,j<k+1→x.l[j]?=some z→0≤z∧z≤2147483647):=AA (fun j z hj hz=>by
      by_cases hjk:j<k
      ·exact Zx.out j z hjk hz
      ·obtain rfl:j=k:=by omega
       rw [Hy.out] at hz
       injection hz with hz
       omega)
     go_wp2_with fail
     refine⟨⟨k+1,by omega,by go_num,?_,HN.out⟩,by simp [intOf];omega⟩
     first | exact trivial | rfl
    ·have HX:Hid (Aa x=0):=AA (by
      rw [HA.out,if_pos]
      refine List.all_eq_true.2 fun y hy=> ?_
      obtain⟨j,hj⟩:=List.getElem?_of_mem hy
      have hj2:=(List.getElem?_eq_some_iff.1 hj).1
      exact decide_eq_true (Zx.out j y (by omega) hj))
     obtain rfl:k=x.l.length:=by omega
     go_wp2_with fail
     go_ret
     exact⟨H3.out,by rw [HX.out];rfl⟩
end
section
attribute [local irreducible] CG
def OM (op:Nat):Int:=match CG op with
 | none=> -1
 | some r=>r.takes
theorem o8 (op:Nat) (hop:op<256) (w:World):Calls prog 83 #[.int .u8 op] w fun e w'=>Below w.heap.size w w'∧e= .returned (.int .i8 (OM op)):=by
 go_enter func83,ntmps83
 go_wp2_with fail
 refine(Xz op _ hop).mono ?_
 rintro e w1 ⟨hb,rfl⟩
 have H1:=AA hb;clear hb
 cases hr:CG op with
 | none=>
  have ha:Eh op= .tuple #[.agg mX,.bool false]:=by unfold Eh;rw [hr]
  have HX:Hid (OM op= -1):=AA (by unfold OM;rw [hr])
  rw [ha]
  unfold mX
  clear ha hr
  go_wp2_with fail
  go_ret
  exact⟨H1.out.alloc H1.out.size _,by rw [HX.out];rfl⟩
 | some r=>
  have ha:Eh op= .tuple #[.agg (opC r),.bool true]:=by unfold Eh;rw [hr]
  have HX:Hid (OM op=r.takes):=AA (by unfold OM;rw [hr])
  rw [ha]
  unfold opC
  clear ha hr
  go_wp2_with fail
  go_ret
  exact⟨H1.out.alloc H1.out.size _,by rw [HX.out];rfl⟩
theorem eU (cs:List Value) (hi:Nat) (x:Av) (w:World) (h:I_.R w 0 hi cs x) (hhi:hi≤w.heap.size):
 Calls prog 180 #[.agg cs.toArray] w fun e w'=>Below w.heap.size w w'∧ ∃A c,e= .returned (.tuple #[.slice A (Dm x).length c,.int .i64 (Aa x)])∧w'.ownsRow w.heap.size 5 1 (.slice A (Dm x).length c) (Dm x).length ((Dm x).map bv):=by
 have Hh:=AA h
 obtain⟨fu,rfl,WI,Ql⟩:=D9.1 h
 obtain⟨OT,Nt,rfl⟩:=AU Ql
 have zR:=AA Ql;have H_a:=AA WI
 clear h Ql WI
 unfold bv at Hh⊢
 go_enter func180,ntmps180
 go_wp2_with fail
 generalize hw:w.alloc _=w1
 have H1:Hid (Below w.heap.size w w1):=by rw [←hw];exact AA ((Below.refl _ _).alloc (Nat.le_refl _) _)
 have Hb1:Hid (AV w1 w.heap.size 53 [.int .u8 (x.op.toNat:Int),.int .i64 x.a,.slice OT x.l.length Nt]):=by rw [←hw];exact AA (AV.new w 53 [.int .u8 (x.op.toNat:Int),.int .i64 x.a,.slice OT x.l.length Nt])
 clear hw
 refine(X5 [.int .u8 (x.op.toNat:Int),.int .i64 x.a,.slice OT x.l.length Nt] hi x w1 (Rd.below Hh.out H1.out hhi) (Nat.le_trans hhi H1.out.size) (fun op W h=>Xz op W h)).mono ?_
 rintro e w2 ⟨hbe,rfl⟩
 have Hb2:=AA (Hb1.out.below hbe Hb1.out.lt)
 have H2:=AA (H1.out.trans (hbe.mono H1.out.size))
 clear hbe Hb1 H1
 by_cases h0:Aa x=0
 case neg=>
  have HO:Hid (Dm x= []):=AA (by unfold Dm;rw [if_neg h0])
  have hne:(Aa x !=0)=true:=by simpa using h0
  clear h0
  go_wp2_with fail
  go_ret2
  refine⟨H2.out,none,0,?_,?_⟩
  ·rw [HO.out];rfl
  ·rw [HO.out];exact World.ownsRow_nil _ _ _ _
 obtain⟨r,hr⟩:=VO h0
 have HZ:=AA (VN h0 hr)
 have HO:Hid (Dm x=x.op::(if r.takes=0 then [] else if r.takes=8 then enc (folded x.a) else if r.takes=3 then enc x.l.length++x.l.flatMap (fun n=>enc n.toNat) else enc x.a.toNat)):=AA (by unfold Dm;rw [if_pos h0,kN hr])
 have Hr:=AA hr
 have H0:=AA h0
 rw [h0]
 have hc0:=Hb2.out.q 0 rfl
 have hsz:w.heap.size<w2.heap.size:=Hb2.out.lt
 clear hr h0
 go_wp2_with fail
 generalize hw:w2.alloc _=w3
 have H3:Hid (Below w.heap.size w w3):=by rw [←hw];exact AA (H2.out.alloc (by omega) _)
 have Hb3:Hid (AV w3 w.heap.size 53 [.int .u8 (x.op.toNat:Int),.int .i64 x.a,.slice OT x.l.length Nt]):=by rw [←hw];exact AA (Hb2.out.alloc _)
 have Rp:Hid (AV w3 w2.heap.size 5 [bv x.op]):=by rw [←hw];exact AA (AV.new w2 5 [bv x.op])
 clear hw hc0 H2 Hb2
 have hc0:=Hb3.out.q 0 rfl
 refine(o8 x.op.toNat (UInt8.toNat_lt x.op) w3).mono ?_
 rintro e w5 ⟨hbe,rfl⟩
 have H5:=AA (H3.out.trans (hbe.mono H3.out.size));have Hb5:=AA (Hb3.out.below hbe Hb3.out.lt);have VK:=AA (Rp.out.below hbe Rp.out.lt)
 clear hbe H3 Hb3 Rp hc0
 have ha:OM x.op.toNat=r.takes:=by unfold OM;rw [Hr.out]
 rw [ha]
 clear ha
 go_upto_block 0 with fail
 have fK:=AA (dY (base:=w.heap.size+1) VK.out (by omega))
 have hsz5:w.heap.size≤w5.heap.size:=H5.out.size
 have vo:w.heap.size+1≤w5.heap.size:=Hb5.out.lt
 clear VK
 go_cut [5] (fun b wx=> ∃A c,b= .slice A (Dm x).length c∧wx.ownsRow w.heap.size 5 1 (.slice A (Dm x).length c) (Dm x).length ((Dm x).map bv)∧Below w.heap.size w wx)
 case first=>
  have hy1:=Hb5.out.q 1 rfl
  have hy2:=Hb5.out.q 2 rfl
  rcases WS r (Jh Hr.out).1 with h | h | h | h | h | h | h | h | h | h
  case inl=>
   have HQ:Hid (Dm x= [x.op]):=AA (by rw [HO.out,if_pos h])
   have d0:(r.takes==0)=_:=congrArg (· ==(0:Int)) h;have d1:(r.takes==1)=_:=congrArg (· ==(1:Int)) h;have d2:(r.takes==2)=_:=congrArg (· ==(2:Int)) h;have d3:(r.takes==3)=_:=congrArg (· ==(3:Int)) h;have d4:(r.takes==4)=_:=congrArg (· ==(4:Int)) h;have d5:(r.takes==5)=_:=congrArg (· ==(5:Int)) h;have d6:(r.takes==6)=_:=congrArg (· ==(6:Int)) h;have d7:(r.takes==7)=_:=congrArg (· ==(7:Int)) h;have d8:(r.takes==8)=_:=congrArg (· ==(8:Int)) h;have d9:(r.takes==9)=_:=congrArg (· ==(9:Int)) h;have Hh:=AA h;clear h
   go_wp2_with fail
   go_meet
   rw [HQ.out]
   exact⟨_,_,rfl,World.ownsRow.mono fK.out (Nat.le_succ _),H5.out⟩
  case inr.inr.inr.inr.inr.inr.inr.inr.inl=>
   have HQ:Hid (Dm x= [x.op]++enc (folded x.a)):=AA (by rw [HO.out,if_neg (by omega),if_pos h];rfl)
   have d0:(r.takes==0)=_:=congrArg (· ==(0:Int)) h;have d1:(r.takes==1)=_:=congrArg (· ==(1:Int)) h;have d2:(r.takes==2)=_:=congrArg (· ==(2:Int)) h;have d3:(r.takes==3)=_:=congrArg (· ==(3:Int)) h;have d4:(r.takes==4)=_:=congrArg (· ==(4:Int)) h;have d5:(r.takes==5)=_:=congrArg (· ==(5:Int)) h;have d6:(r.takes==6)=_:=congrArg (· ==(6:Int)) h;have d7:(r.takes==7)=_:=congrArg (· ==(7:Int)) h;have d8:(r.takes==8)=_:=congrArg (· ==(8:Int)) h;have d9:(r.takes==9)=_:=congrArg (· ==(9:Int)) h;have Hh:=AA h;clear h
   have hA:=H_a.out
   have VL:=AA (Ag (folded x.a) (MZ _ hA.1 hA.2))
   go_wp2_with (first
    | (go_at_call 179;refine(dS x.a hA.1 hA.2 _).mono ?_;rintro e w6 ⟨A6,c6,rfl,h2,h3⟩;have iN:=AA (Row.own h2);have oH:=AA (Du fK.out h3);have H6:=AA (H5.out.trans (h3.mono hsz5));have YS:w.heap.size+1≤w6.heap.size:=Nat.le_trans vo h3.size;clear h2 h3)
    | (at_builtin;refine I7 _ rfl (.tmp 28) (.tmp 31) rfl (w.heap.size+1) (some ⟨w2.heap.size,0,none⟩) 1 1 [bv x.op] rfl oH.out _ A6 (enc (folded x.a)).length c6 ((enc (folded x.a)).map bv) rfl (by rw [List.length_map]) iN.out (LC _) (by have:=VL.out;omega) YS ?_;intro A7 c7 w7 h2 _ h3;have ug:=AA h2;have H7:=AA (H6.out.trans (h3.mono (Nat.le_succ _)));clear h2 h3))
   go_meet
   rw [HQ.out]
   refine⟨A7,c7,by rw [List.length_append];rfl,?_,H7.out⟩
   rw [List.length_append,List.map_append]
   exact World.ownsRow.mono ug.out (Nat.le_succ _)
  case inr.inr.inr.inl=>
   have d0:(r.takes==0)=_:=congrArg (· ==(0:Int)) h;have d1:(r.takes==1)=_:=congrArg (· ==(1:Int)) h;have d2:(r.takes==2)=_:=congrArg (· ==(2:Int)) h;have d3:(r.takes==3)=_:=congrArg (· ==(3:Int)) h;have d4:(r.takes==4)=_:=congrArg (· ==(4:Int)) h;have d5:(r.takes==5)=_:=congrArg (· ==(5:Int)) h;have d6:(r.takes==6)=_:=congrArg (· ==(6:Int)) h;have d7:(r.takes==7)=_:=congrArg (· ==(7:Int)) h;have d8:(r.takes==8)=_:=congrArg (· ==(8:Int)) h;have d9:(r.takes==9)=_:=congrArg (· ==(9:Int)) h;have Hh:=AA h;clear h
   have HQ:Hid (Dm x= [x.op]++(enc x.l.length++x.l.flatMap (fun n=>enc n.toNat))):=AA (by rw [HO.out,if_neg (by have:=Hh.out;omega),if_neg (by have:=Hh.out;omega),if_pos Hh.out];rfl)
   have hz:=HZ.out.2.2 Hh.out
   have HL:=AA hz
   have hl16:=hz.1
   have VL:=AA (Ag x.l.length (by omega))
   have hwr:IntKind.u64.wrap (x.l.length:Int)=(x.l.length:Int):=by rw [IntKind.wrap_u64];omega
   clear hz
   go_wp2_with (first
    | (go_at_call 209;refine(Pg x.l.length (by omega) _).mono ?_;rintro e w6 ⟨A6,c6,rfl,h2,h3⟩;have iN:=AA (Row.own h2);have oH:=AA (Du fK.out h3);have H6:=AA (H5.out.trans (h3.mono hsz5));have YS:w.heap.size+1≤w6.heap.size:=Nat.le_trans vo h3.size;have hz2:=(Hb5.out.below h3 Hb5.out.lt);have Hb6:=AA hz2;have hy6:=Hb6.out.cell 2;clear h2 h3 hz2)
    | (at_builtin;refine I7 _ rfl (.tmp 35) (.tmp 40) rfl (w.heap.size+1) (some ⟨w2.heap.size,0,none⟩) 1 1 [bv x.op] rfl oH.out _ A6 (enc x.l.length).length c6 ((enc x.l.length).map bv) rfl (by rw [List.length_map]) iN.out (LC _) (by have:=VL.out;omega) YS ?_;intro A7 c7 w7 h2 hg7 h3;have ug:=AA h2;have H7:=AA (H6.out.trans (h3.mono (Nat.le_succ _)));have Hb7:=AA (AV.below Hb6.out h3 (Nat.lt_succ_self _));have cB:w.heap.size+1≤w7.heap.size:=Nat.le_trans YS h3.size;clear h2 h3 hg7;have hy7:w7.cell? ⟨w.heap.size,2,none⟩=some (.slice OT x.l.length Nt):=Hb7.out.cell 2))
   clear Hb5 Hb6 fK oH hy1 hy2 hy6 H5 H6 iN
   have HS:Hid (w7.ownsRow (w.heap.size+1) 5 1 (.slice A7 ([x.op]++(enc x.l.length++(x.l.take 0).flatMap (fun n=>enc n.toNat))).length c7) ([x.op]++(enc x.l.length++(x.l.take 0).flatMap (fun n=>enc n.toNat))).length (([x.op]++(enc x.l.length++(x.l.take 0).flatMap (fun n=>enc n.toNat))).map bv)):=AA (by
    have h:=ug.out
    rw [List.take_zero,List.flatMap_nil,List.append_nil,List.length_append,List.map_append]
    exact h)
   have kP:Hid (1+(enc x.l.length).length=([x.op]++(enc x.l.length++(x.l.take 0).flatMap (fun n=>enc n.toNat))).length):=AA (by rw [List.take_zero,List.flatMap_nil,List.append_nil,List.length_append];rfl)
   go_loopw [5,6] (fun b i wr=> ∃(k:Nat) (A:Option Addr) (c:Nat),k≤x.l.length∧i= .int .i64 k∧b= .slice A ([x.op]++(enc x.l.length++(x.l.take k).flatMap (fun n=>enc n.toNat))).length c∧Below w.heap.size w wr∧AV wr w.heap.size 53 [.int .u8 (x.op.toNat:Int),.int .i64 x.a,.slice OT x.l.length Nt]∧
    wr.ownsRow (w.heap.size+1) 5 1 (.slice A ([x.op]++(enc x.l.length++(x.l.take k).flatMap (fun n=>enc n.toNat))).length c) ([x.op]++(enc x.l.length++(x.l.take k).flatMap (fun n=>enc n.toNat))).length (([x.op]++(enc x.l.length++(x.l.take k).flatMap (fun n=>enc n.toNat))).map bv))
    (fun _ i _=>x.l.length-(intOf i).toNat)
   case atStart=>exact⟨0,A7,c7,Nat.zero_le _,rfl,by rw [←kP.out],H7.out,Hb7.out,HS.out⟩
   case round=>
    obtain⟨k,A,c,hk,rfl,rfl,hb,hbx,ho⟩:=hrel
    have zl:=AA hbx;have hx2:=hbx.q 2 rfl;have nC:w.heap.size+1≤wr.heap.size:=hbx.lt;clear hbx
    have HB:=AA hb;have HOk:=AA ho
    clear hb ho
    by_cases hlt:k<x.l.length
    ·obtain⟨y,hy⟩: ∃y,x.l[k]?=some y:=⟨_,List.getElem?_eq_getElem hlt⟩
     have hlk:=Rd.below zR.out HB.out hhi
     obtain⟨b,o,rfl,_,_,cs,hcs,hrd⟩:=NW hlk hy
     obtain⟨rfl,ACF⟩:=hrd
     have hc0:wr.cell? ⟨b,o+k,none⟩=some (.int .i64 y):=by
      have:=hcs 0 _ rfl
      rwa [show Rd.i64.z=1 from rfl,Nat.mul_one,Nat.add_zero] at this
     have hi0:(0:Int)≤k:=by omega
     have hyb:=HL.out.2 y (List.mem_of_getElem? hy)
     obtain⟨n,hn⟩:=Int.eq_ofNat_of_zero_le hyb.1
     have Hn:Hid (y.toNat=n∧n<18446744073709551616):=AA ⟨by omega,by omega⟩
     have hwy:IntKind.u64.wrap y=y:=by rw [IntKind.wrap_u64];omega
     have hcl:=Pg n (by omega)
     rw [←hn] at hcl
     have Hcl:=AA hcl
     have HFn:=AA (Ag n (by omega))
     have Ul:Hid ([x.op]++(enc x.l.length++(x.l.take k).flatMap (fun n=>enc n.toNat))++enc n= [x.op]++(enc x.l.length++(x.l.take (k+1)).flatMap (fun n=>enc n.toNat))):=AA (by
      rw [FK (f:=fun n:Int=>enc n.toNat) hy,show y.toNat=n from by omega];simp only [List.append_assoc])
     have Xh:Hid (([x.op]++(enc x.l.length++(x.l.take k).flatMap (fun n=>enc n.toNat))).length≤1000):=AA (by
      have h1:=Sm (f:=fun n:Int=>enc n.toNat) (c:=10) (l:=x.l.take k) (fun n hn=>by
       have:=HL.out.2 n (List.mem_of_mem_take hn)
       exact Ag _ (by omega))
      have h2:(x.l.take k).length≤16:=by rw [List.length_take];omega
      have:=VL.out
      rw [List.length_append,List.length_append]
      simp only [List.length_cons,List.length_nil]
      omega)
     clear hn hyb hcl hcs hlk hy
     generalize ([x.op]++(enc x.l.length++(x.l.take k).flatMap (fun n=>enc n.toNat)))=LK at*
     go_wp2_with (first
      | (go_at_call 209;refine(Hcl.out _).mono ?_;rintro e w8 ⟨A8,c8,rfl,h2,h3⟩;have HR8:=AA (Row.own h2);have XO:=AA (Du HOk.out h3);have H8:=AA (HB.out.trans (h3.mono HB.out.size));have HBX8:=AA (zl.out.below h3 zl.out.lt);have hsz8:w.heap.size+1≤w8.heap.size:=Nat.le_trans nC h3.size;clear h2 h3)
      | (at_builtin;refine I7 _ rfl (.tmp 49) (.tmp 56) rfl (w.heap.size+1) A LK.length c (LK.map bv) rfl XO.out _ A8 (enc n).length c8 ((enc n).map bv) rfl (by rw [List.length_map]) HR8.out (LC _) (by have:=HFn.out;have:=Xh.out;omega) hsz8 ?_;intro A9 c9 w9 h2 _ h3;have HO9:=AA h2;have H9:=AA (H8.out.trans (h3.mono (Nat.le_succ _)));have HBX9:=AA (AV.below HBX8.out h3 (Nat.lt_succ_self _));clear h2 h3))
     refine⟨⟨k+1,A9,c9,by omega,by go_num,by rw [←Ul.out,List.length_append],H9.out,HBX9.out,?_⟩,by simp [intOf];omega⟩
     rw [←Ul.out,List.length_append,List.map_append]
     exact HO9.out
    ·obtain rfl:k=x.l.length:=by omega
     go_wp2_with fail
     go_meet
     have hq:=HQ.out
     rw [←List.take_length (l:=x.l)] at hq
     rw [List.length_take,Nat.min_self] at hq
     rw [hq]
     exact⟨A,c,rfl,World.ownsRow.mono HOk.out (Nat.le_succ _),HB.out⟩
  all_goals
   have HQ:Hid (Dm x= [x.op]++enc x.a.toNat):=AA (by rw [HO.out,if_neg (by omega),if_neg (by omega),if_neg (by omega)];rfl)
   have hb0:0≤x.a∧x.a≤4294967295:=by
    have hz:=HZ.out
    unfold Ah at hz
    simp [h] at hz
    omega
   obtain⟨n,hn⟩:=Int.eq_ofNat_of_zero_le hb0.1
   have Hn:Hid (x.a=(n:Int)∧x.a.toNat=n∧n<18446744073709551616):=AA ⟨hn,by omega,by omega⟩
   have VL:=AA (Ag n (by omega))
   have hwr:IntKind.u64.wrap x.a=x.a:=by rw [IntKind.wrap_u64];omega
   have hcl:=Pg n (by omega)
   rw [←hn] at hcl
   have Hcl:=AA hcl
   clear hn hb0 hcl
   have d0:(r.takes==0)=_:=congrArg (· ==(0:Int)) h;have d1:(r.takes==1)=_:=congrArg (· ==(1:Int)) h;have d2:(r.takes==2)=_:=congrArg (· ==(2:Int)) h;have d3:(r.takes==3)=_:=congrArg (· ==(3:Int)) h;have d4:(r.takes==4)=_:=congrArg (· ==(4:Int)) h;have d5:(r.takes==5)=_:=congrArg (· ==(5:Int)) h;have d6:(r.takes==6)=_:=congrArg (· ==(6:Int)) h;have d7:(r.takes==7)=_:=congrArg (· ==(7:Int)) h;have d8:(r.takes==8)=_:=congrArg (· ==(8:Int)) h;have d9:(r.takes==9)=_:=congrArg (· ==(9:Int)) h;have Hh:=AA h;clear h
   go_wp2_with (first
    | (go_at_call 209;refine(Hcl.out _).mono ?_;rintro e w6 ⟨A6,c6,rfl,h2,h3⟩;have iN:=AA (Row.own h2);have oH:=AA (Du fK.out h3);have H6:=AA (H5.out.trans (h3.mono hsz5));have YS:w.heap.size+1≤w6.heap.size:=Nat.le_trans vo h3.size;clear h2 h3)
    | (at_builtin;refine I7 _ rfl (.tmp 18) (.tmp 22) rfl (w.heap.size+1) (some ⟨w2.heap.size,0,none⟩) 1 1 [bv x.op] rfl oH.out _ A6 (enc n).length c6 ((enc n).map bv) rfl (by rw [List.length_map]) iN.out (LC _) (by have:=VL.out;omega) YS ?_;intro A7 c7 w7 h2 _ h3;have ug:=AA h2;have H7:=AA (H6.out.trans (h3.mono (Nat.le_succ _)));clear h2 h3))
   go_meet
   rw [HQ.out,Hn.out.2.1]
   refine⟨A7,c7,by rw [List.length_append];rfl,?_,H7.out⟩
   rw [List.length_append,List.map_append]
   exact World.ownsRow.mono ug.out (Nat.le_succ _)
 case rest=>
  obtain⟨A,c,rfl,ho,hb⟩:=hcut
  have HOx:=AA ho;have Hbx:=AA hb
  clear ho hb
  go_wp2_with fail
  go_ret2
  exact⟨Hbx.out,A,c,by rw [H0.out];rfl,HOx.out⟩
end
end Go.Proofs.YtebgikflpgcnlaaGreatDoor
