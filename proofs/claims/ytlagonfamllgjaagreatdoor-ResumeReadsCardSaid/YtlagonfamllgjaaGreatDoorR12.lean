/- Part 12 of the proof: Rof2 InsC InsD -/
import Derived.Deep.Cut
import Derived.Test.YtlagonfamllgjaaGreatDoorR11
namespace Go.Proofs.YtlagonfamllgjaaGreatDoor
set_option linter.unusedVariables false
set_option linter.unusedSimpArgs false
set_option maxRecDepth 100000
set_option maxHeartbeats 4000000
open Go.RowKit Tryz
section
attribute [local irreducible] Au
set_option maxHeartbeats 40000000
theorem ACE (w:World): ∀r∈Dk.drop 60,Calls prog 145 #[.int .u8 (r.op:Nat)] w fun e w'=>Below w.heap.size w w'∧e= .returned (.tuple #[.agg (opC r),.bool true]):=by
 simp only [Dk,List.drop_succ_cons,List.drop_zero,List.take_succ_cons,List.take_zero]
 iterate 30
  refine List.forall_mem_cons.2 ⟨?_,?_⟩
  ·simp only [Int.cast_ofNat_Int]
   go_enter func145,ntmps145
   go_wp2_with fail
   exact bodyPost_ret (Eb rfl rfl rfl (Mf (AQ.new w 217 [_,_,_,_,_,_]))) rfl ⟨(Below.refl _ _).alloc (Nat.le_refl _) _,rfl⟩
 exact fun _ h=>by cases h
end
section
attribute [local irreducible] Au
theorem Xn (cs:List Value) (hi:Nat) (x:Ad) (w:World) (h:Ga.R w 0 hi cs x) (hhi:hi≤w.heap.size) (htab:Lib.TabIs prog w "strings.asciiSpace" .u8 Lib.asciiSpaceTab):
 Calls prog 185 #[.agg cs.toArray] w fun e w'=>Below w.heap.size w w'∧e= .returned (.int .i64 (Aq x)):=by
 have Ht:=AA (Lib.tabBelow_of_tabIs htab)
 obtain⟨Yx,rfl,Ql,La⟩:=Dz.1 h
 obtain⟨Gb,GH,rfl⟩:=AJ La
 have qM:=AA La;have yC:=AA Ql
 clear h La Ql htab
 unfold bv
 go_enter func185,ntmps185
 go_wp2_with fail
 generalize hw:w.alloc _=w1
 have H1:Hid (Below w.heap.size w w1):=by rw [←hw];exact AA ((Below.refl _ _).alloc (Nat.le_refl _) _)
 have Hb1:Hid (AQ w1 w.heap.size 122 [.int .u8 (x.op.toNat:Int),.int .i64 x.a,.slice Gb x.l.length GH]):=by rw [←hw];exact AA (AQ.new w 122 [.int .u8 (x.op.toNat:Int),.int .i64 x.a,.slice Gb x.l.length GH])
 clear hw
 refine(ZR x.op.toNat w1 (UInt8.toNat_lt x.op) (Ht.out _ H1.out)).mono ?_
 rintro e w2 ⟨hbe,rfl⟩
 have Hb2:=AA (Hb1.out.below hbe Hb1.out.lt)
 have H2:=AA (H1.out.trans (hbe.mono H1.out.size))
 clear hbe Hb1 H1
 have hsz:w.heap.size<w2.heap.size:=Hb2.out.lt
 cases hr:Au x.op.toNat with
 | none=>
  have ha:EZ x.op.toNat= .tuple #[.agg fK,.bool false]:=by unfold EZ;rw [hr]
  have HX:Hid (Aq x=21):=AA (by unfold Aq;rw [hr])
  rw [ha]
  unfold fK
  clear ha hr
  go_wp2_with fail
  go_ret
  exact⟨H2.out.alloc (by omega) _,by rw [HX.out];rfl⟩
 | some r=>
  have ha:EZ x.op.toNat= .tuple #[.agg (opC r),.bool true]:=by unfold EZ;rw [hr]
  have Hr:=AA hr
  rw [ha]
  unfold opC
  clear ha hr
  have hc1:=Hb2.out.q 1 rfl
  go_wp2_with fail
  generalize hw3:w2.alloc _=w3
  have H3:Hid (Below w.heap.size w w3):=by rw [←hw3];exact AA (H2.out.alloc (by omega) _)
  have Hb3:Hid (AQ w3 w.heap.size 122 [.int .u8 (x.op.toNat:Int),.int .i64 x.a,.slice Gb x.l.length GH]):=by rw [←hw3];exact AA (Hb2.out.alloc _)
  have yN:Hid (AQ w3 w2.heap.size 236 (opC r).toList):=by rw [←hw3];exact AA (AQ.new w2 236 (opC r).toList)
  clear hw3 hc1 hsz Hb2 H2
  refine(Vt r (Iq Hr.out).1 x.a w3).mono ?_
  rintro e w4 ⟨hbe,rfl⟩
  have Hb4:=AA (Hb3.out.below hbe Hb3.out.lt)
  have Hc4:=AA (yN.out.below hbe yN.out.lt)
  have H4:=AA (H3.out.trans (hbe.mono H3.out.size))
  clear hbe H3 Hb3 yN
  by_cases hin:(BO r).1≤x.a∧x.a≤(BO r).2
  case neg=>
   have HX:Hid (Aq x=17):=AA (by unfold Aq;rw [Hr.out];simp only [if_pos hin])
   rw [decide_eq_false hin]
   clear hin
   go_wp2_with fail
   go_ret
   exact⟨H4.out,by rw [HX.out];rfl⟩
  rw [decide_eq_true hin]
  have hc2:=Hc4.out.q 2 rfl
  have hb2:=Hb4.out.q 2 rfl
  by_cases h3:r.takes=3
  case neg=>
   have hne:(r.takes !=3)=true:=by simpa using h3
   by_cases hl:0<x.l.length
   ·have HX:Hid (Aq x=17):=AA (by unfold Aq;rw [Hr.out];simp [hin,h3,hl])
    have d:decide ((x.l.length:Int)>0)=true:=decide_eq_true (by omega)
    clear hin h3
    go_wp2_with fail
    go_ret
    exact⟨H4.out,by rw [HX.out];rfl⟩
   ·have HX:Hid (Aq x=0):=AA (by unfold Aq;rw [Hr.out];simp [hin,h3,hl])
    have d:decide ((x.l.length:Int)>0)=false:=decide_eq_false (by omega)
    clear hin h3
    go_wp2_with fail
    go_ret
    exact⟨H4.out,by rw [HX.out];rfl⟩
  have hne:(r.takes !=3)=false:=by simpa using h3
  by_cases hl1:x.l.length<1
  ·have HX:Hid (Aq x=17):=AA (by unfold Aq;rw [Hr.out];simp only [hin,h3,and_self,not_true_eq_false,if_false,ne_eq];rw [if_pos (.inl hl1)])
   have d:decide ((x.l.length:Int)<1)=true:=decide_eq_true (by omega)
   clear hin h3
   go_wp2_with fail
   go_ret
   exact⟨H4.out,by rw [HX.out];rfl⟩
  have d:decide ((x.l.length:Int)<1)=false:=decide_eq_false (by omega)
  by_cases hl2:16<x.l.length
  ·have HX:Hid (Aq x=17):=AA (by unfold Aq;rw [Hr.out];simp only [hin,h3,and_self,not_true_eq_false,if_false,ne_eq];rw [if_pos (.inr hl2)])
   have d2:decide ((x.l.length:Int)>16)=true:=decide_eq_true (by omega)
   clear hin h3
   go_wp2_with fail
   go_ret
   exact⟨H4.out,by rw [HX.out];rfl⟩
  have d2:decide ((x.l.length:Int)>16)=false:=decide_eq_false (by omega)
  have HA:Hid (Aq x=if x.l.all (fun n=>decide (0≤n∧n≤2147483647)) then 0 else 17):=AA (by
   unfold Aq
   rw [Hr.out]
   simp only [hin,h3,and_self,not_true_eq_false,if_false,ne_eq]
   rw [if_neg (by omega)])
  have H_l4:=AA (Rd.below qM.out H4.out hhi)
  clear hin h3
  go_wp2_with fail
  clear d d2 hne hc2 hb2
  go_loopw [6,40] (fun _ i wr=> ∃k:Nat,k≤x.l.length∧i= .int .i64 k∧wr=w4∧ ∀j y,j<k→x.l[j]?=some y→0≤y∧y≤2147483647) (fun _ i _=>x.l.length-(intOf i).toNat)
  case atStart=>exact⟨0,Nat.zero_le _,rfl,rfl,fun j y hj=>absurd hj (by omega)⟩
  case round=>
   obtain⟨k,hk,rfl,rfl,hall⟩:=hrel
   have Va:=AA hall;clear hall
   by_cases hlt:k<x.l.length
   ·obtain⟨y,hy⟩: ∃y,x.l[k]?=some y:=⟨_,List.getElem?_eq_getElem hlt⟩
    obtain⟨b,o,rfl,_,_,cs,hcs,hrd⟩:=Dj H_l4.out hy
    obtain⟨rfl,yO⟩:=hrd
    have hc0:wr.cell? ⟨b,o+k,none⟩=some (.int .i64 y):=by
     have:=hcs 0 _ rfl
     rwa [show Rd.i64.z=1 from rfl,Nat.mul_one,Nat.add_zero] at this
    have hi0:(0:Int)≤k:=by omega
    have Hy:=AA hy
    clear hcs hy
    by_cases hy0:y<0
    ·have HX:Hid (Aq x=17):=AA (by
      rw [HA.out,if_neg]
      intro hal
      have:=of_decide_eq_true (List.all_eq_true.1 hal y (List.mem_of_getElem? Hy.out))
      omega)
     have e1:decide (y<0)=true:=decide_eq_true hy0
     go_wp2_with fail
     go_ret
     exact⟨H4.out,by rw [HX.out];rfl⟩
    have e1:decide (y<0)=false:=decide_eq_false hy0
    by_cases hy1:y>2147483647
    ·have HX:Hid (Aq x=17):=AA (by
      rw [HA.out,if_neg]
      intro hal
      have:=of_decide_eq_true (List.all_eq_true.1 hal y (List.mem_of_getElem? Hy.out))
      omega)
     have e2:decide (y>2147483647)=true:=decide_eq_true hy1
     go_wp2_with fail
     go_ret
     exact⟨H4.out,by rw [HX.out];rfl⟩
    have e2:decide (y>2147483647)=false:=decide_eq_false hy1
    have HN:Hid (∀j z,j<k+1→x.l[j]?=some z→0≤z∧z≤2147483647):=AA (fun j z hj hz=>by
     by_cases hjk:j<k
     ·exact Va.out j z hjk hz
     ·obtain rfl:j=k:=by omega
      rw [Hy.out] at hz
      injection hz with hz
      omega)
    go_wp2_with fail
    refine⟨⟨k+1,by omega,by go_num,?_,HN.out⟩,by simp [intOf];omega⟩
    first | exact trivial | rfl
   ·have HX:Hid (Aq x=0):=AA (by
     rw [HA.out,if_pos]
     refine List.all_eq_true.2 fun y hy=> ?_
     obtain⟨j,hj⟩:=List.getElem?_of_mem hy
     have hj2:=(List.getElem?_eq_some_iff.1 hj).1
     exact decide_eq_true (Va.out j y (by omega) hj))
    obtain rfl:k=x.l.length:=by omega
    go_wp2_with fail
    go_ret
    exact⟨H4.out,by rw [HX.out];rfl⟩
end
section
attribute [local irreducible] Au
def ACB:Prop:= ∀(op:Nat) (W:World),op<256→Calls prog 145 #[.int .u8 op] W fun e w'=>Below W.heap.size W w'∧e= .returned (EZ op)
def Vv:ByteArray:=⟨#[108,46,99,111,110,115,116]⟩
theorem qh: ∀r∈Dk,r.takes=8→(r.word=wconst∨r.word=Vv):=by
 have h:Dk.all (fun r=>decide (r.takes=8→(r.word.data.toList=wconst.data.toList∨r.word.data.toList=Vv.data.toList)))=true:=by kernel_rfl
 intro r hr ht
 rcases of_decide_eq_true (List.all_eq_true.1 h r hr) ht with e | e
 ·exact .inl (ByteArray.ext (Array.toList_inj.1 e))
 ·exact .inr (ByteArray.ext (Array.toList_inj.1 e))
theorem R_ (cs:List Value) (hi:Nat) (x:Ad) (w:World) (h:Ga.R w 0 hi cs x) (hhi:hi≤w.heap.size) (hof:ACB):
 Calls prog 176 #[.agg cs.toArray] w fun e w'=>Below w.heap.size w w'∧e= .returned (.int .i64 (Aq x)):=by
 have Ht:=AA hof
 obtain⟨Yx,rfl,Ql,La⟩:=Dz.1 h
 obtain⟨Gb,GH,rfl⟩:=AJ La
 have qM:=AA La;have yC:=AA Ql
 clear h La Ql hof
 unfold bv
 go_enter func176,ntmps176
 go_wp2_with fail
 generalize hw:w.alloc _=w1
 have H1:Hid (Below w.heap.size w w1):=by rw [←hw];exact AA ((Below.refl _ _).alloc (Nat.le_refl _) _)
 have Hb1:Hid (AQ w1 w.heap.size 122 [.int .u8 (x.op.toNat:Int),.int .i64 x.a,.slice Gb x.l.length GH]):=by rw [←hw];exact AA (AQ.new w 122 [.int .u8 (x.op.toNat:Int),.int .i64 x.a,.slice Gb x.l.length GH])
 clear hw
 refine(Ht.out x.op.toNat w1 (UInt8.toNat_lt x.op)).mono ?_
 rintro e w2 ⟨hbe,rfl⟩
 have Hb2:=AA (Hb1.out.below hbe Hb1.out.lt)
 have H2:=AA (H1.out.trans (hbe.mono H1.out.size))
 clear hbe Hb1 H1
 have hsz:w.heap.size<w2.heap.size:=Hb2.out.lt
 cases hr:Au x.op.toNat with
 | none=>
  have ha:EZ x.op.toNat= .tuple #[.agg fK,.bool false]:=by unfold EZ;rw [hr]
  have HX:Hid (Aq x=21):=AA (by unfold Aq;rw [hr])
  rw [ha]
  unfold fK
  clear ha hr
  go_wp2_with fail
  go_ret
  exact⟨H2.out.alloc (by omega) _,by rw [HX.out];rfl⟩
 | some r=>
  have ha:EZ x.op.toNat= .tuple #[.agg (opC r),.bool true]:=by unfold EZ;rw [hr]
  have Hr:=AA hr
  rw [ha]
  unfold opC
  clear ha hr
  go_upto_block 0 with fail
  generalize hw3:w2.alloc _=w3
  have H3:Hid (Below w.heap.size w w3):=by rw [←hw3];exact AA (H2.out.alloc (by omega) _)
  have Hb3:Hid (AQ w3 w.heap.size 122 [.int .u8 (x.op.toNat:Int),.int .i64 x.a,.slice Gb x.l.length GH]):=by rw [←hw3];exact AA (Hb2.out.alloc _)
  have yN:Hid (AQ w3 w2.heap.size 217 (opC r).toList):=by rw [←hw3];exact AA (AQ.new w2 217 (opC r).toList)
  clear hw3 hsz Hb2 H2
  go_cut [5,6] (fun a b wx=>a= .int .i64 (BO r).1∧b= .int .i64 (BO r).2∧wx=w3)
  case first=>
   have hc2:=yN.out.q 2 rfl
   have hc1:=yN.out.q 1 rfl
   have hm:=(Iq Hr.out).1
   have HT:=AA (qh r hm)
   have ht:=Q_ r hm
   clear hm
   rcases ht with h | h | h | h | h | h | h | h | h | h
   case inr.inr.inr.inr.inr.inr.inr.inr.inl=>
    have e0:(r.takes==0)=false:=by rw [h];rfl
    have e3:(r.takes==3)=false:=by rw [h];rfl
    have e9:(r.takes==9)=false:=by rw [h];rfl
    have e8:(r.takes==8)=true:=by rw [h];rfl
    rcases HT.out h with hw | hw
    ·have HX:Hid (BO r=(-2147483648,2147483647)):=AA (by unfold BO;simp [h,hw])
     rw [hw] at hc1
     unfold wconst at hc1
     clear h hw HT
     go_wp2_with fail
     go_meet
     rw [HX.out]
     exact⟨rfl,rfl,rfl⟩
    ·have HX:Hid (BO r=(-9223372036854775808,9223372036854775807)):=AA (by unfold BO;simp [h,hw,show ¬(Vv=wconst)by decide])
     rw [hw] at hc1
     unfold Vv at hc1
     clear h hw HT
     go_wp2_with fail
     go_meet
     rw [HX.out]
     exact⟨rfl,rfl,rfl⟩
   all_goals
    have E:=AA h
    obtain⟨e0,h0⟩: ∃b,(r.takes==0)=b:=⟨_,rfl⟩
    obtain⟨e3,h3⟩: ∃b,(r.takes==3)=b:=⟨_,rfl⟩
    obtain⟨e9,h9⟩: ∃b,(r.takes==9)=b:=⟨_,rfl⟩
    obtain⟨e8,h8⟩: ∃b,(r.takes==8)=b:=⟨_,rfl⟩
    have H0:=h0;have H3:=h3;have H9:=h9;have H8:=h8
    rw [h] at H0 H3 H9 H8
    subst H0 H3 H9 H8
    simp at h0 h3 h9 h8
    have HX:Hid (BO r=BO ⟨0,wconst,r.takes,wconst,wconst,true⟩):=AA (by unfold BO;simp [h])
    rw [h] at HX
    clear h HT hc1
    go_wp2_with fail
    go_meet
    rw [HX.out]
    exact⟨rfl,rfl,rfl⟩
  case rest=>
   obtain⟨rfl,rfl,rfl⟩:=hcut
   have hc1:=Hb3.out.q 1 rfl
   have hb2:=Hb3.out.q 2 rfl
   have hc2:=yN.out.q 2 rfl
   by_cases ha1:x.a<(BO r).1
   ·have HX:Hid (Aq x=17):=AA (by unfold Aq;rw [Hr.out];dsimp only;rw [if_pos (by omega)])
    have d:=decide_eq_true ha1
    go_wp2_with fail
    go_ret
    exact⟨H3.out,by rw [HX.out];rfl⟩
   have d1:=decide_eq_false ha1
   by_cases ha2:x.a>(BO r).2
   ·have HX:Hid (Aq x=17):=AA (by unfold Aq;rw [Hr.out];dsimp only;rw [if_pos (by omega)])
    have d:=decide_eq_true ha2
    go_wp2_with fail
    go_ret
    exact⟨H3.out,by rw [HX.out];rfl⟩
   have d2:=decide_eq_false ha2
   have hin:(BO r).1≤x.a∧x.a≤(BO r).2:=⟨by omega,by omega⟩
   clear ha1 ha2
   by_cases h3:r.takes=3
   case neg=>
    have hne:(r.takes==3)=false:=by simpa using h3
    by_cases hl:0<x.l.length
    ·have HX:Hid (Aq x=17):=AA (by unfold Aq;rw [Hr.out];simp [hin,h3,hl])
     have d:((x.l.length:Int) !=0)=true:=bne_iff_ne.2 (by omega)
     clear hin h3
     go_wp2_with fail
     go_ret
     exact⟨H3.out,by rw [HX.out];rfl⟩
    ·have HX:Hid (Aq x=0):=AA (by unfold Aq;rw [Hr.out];simp [hin,h3,hl])
     have d:((x.l.length:Int) !=0)=false:=by rw [bne_eq_false_iff_eq];omega
     clear hin h3
     go_wp2_with fail
     go_ret
     exact⟨H3.out,by rw [HX.out];rfl⟩
   have hne:(r.takes==3)=true:=by simpa using h3
   by_cases hl1:x.l.length<1
   ·have HX:Hid (Aq x=17):=AA (by unfold Aq;rw [Hr.out];simp only [hin,h3,and_self,not_true_eq_false,if_false,ne_eq];rw [if_pos (.inl hl1)])
    have d:decide ((x.l.length:Int)<1)=true:=decide_eq_true (by omega)
    clear hin h3
    go_wp2_with fail
    go_ret
    exact⟨H3.out,by rw [HX.out];rfl⟩
   have d:decide ((x.l.length:Int)<1)=false:=decide_eq_false (by omega)
   by_cases hl2:16<x.l.length
   ·have HX:Hid (Aq x=17):=AA (by unfold Aq;rw [Hr.out];simp only [hin,h3,and_self,not_true_eq_false,if_false,ne_eq];rw [if_pos (.inr hl2)])
    have d2:decide ((x.l.length:Int)>16)=true:=decide_eq_true (by omega)
    clear hin h3
    go_wp2_with fail
    go_ret
    exact⟨H3.out,by rw [HX.out];rfl⟩
   have d2:decide ((x.l.length:Int)>16)=false:=decide_eq_false (by omega)
   have HA:Hid (Aq x=if x.l.all (fun n=>decide (0≤n∧n≤2147483647)) then 0 else 17):=AA (by
    unfold Aq
    rw [Hr.out]
    simp only [hin,h3,and_self,not_true_eq_false,if_false,ne_eq]
    rw [if_neg (by omega)])
   have H_l5:=AA (Rd.below qM.out H3.out hhi)
   clear hin h3
   go_wp2_with fail
   clear d d2 hne hc2
   go_loopw [7] (fun i wr=> ∃k:Nat,k≤x.l.length∧i= .int .i64 k∧wr=wc∧ ∀j y,j<k→x.l[j]?=some y→0≤y∧y≤2147483647) (fun i _=>x.l.length-(intOf i).toNat)
   case atStart=>exact⟨0,Nat.zero_le _,rfl,rfl,fun j y hj=>absurd hj (by omega)⟩
   case round=>
    obtain⟨k,hk,rfl,rfl,hall⟩:=hrel
    have Va:=AA hall;clear hall
    by_cases hlt:k<x.l.length
    ·obtain⟨y,hy⟩: ∃y,x.l[k]?=some y:=⟨_,List.getElem?_eq_getElem hlt⟩
     obtain⟨b,o,rfl,_,_,cs,hcs,hrd⟩:=Dj H_l5.out hy
     obtain⟨rfl,yO⟩:=hrd
     have hc0:wr.cell? ⟨b,o+k,none⟩=some (.int .i64 y):=by
      have:=hcs 0 _ rfl
      rwa [show Rd.i64.z=1 from rfl,Nat.mul_one,Nat.add_zero] at this
     have hi0:(0:Int)≤k:=by omega
     have Hy:=AA hy
     clear hcs hy
     by_cases hy0:y<0
     ·have HX:Hid (Aq x=17):=AA (by
       rw [HA.out,if_neg]
       intro hal
       have:=of_decide_eq_true (List.all_eq_true.1 hal y (List.mem_of_getElem? Hy.out))
       omega)
      have e1:decide (y<0)=true:=decide_eq_true hy0
      go_wp2_with fail
      go_ret
      exact⟨H3.out,by rw [HX.out];rfl⟩
     have e1:decide (y<0)=false:=decide_eq_false hy0
     by_cases hy1:y>2147483647
     ·have HX:Hid (Aq x=17):=AA (by
       rw [HA.out,if_neg]
       intro hal
       have:=of_decide_eq_true (List.all_eq_true.1 hal y (List.mem_of_getElem? Hy.out))
       omega)
      have e2:decide (y>2147483647)=true:=decide_eq_true hy1
      go_wp2_with fail
      go_ret
      exact⟨H3.out,by rw [HX.out];rfl⟩
     have e2:decide (y>2147483647)=false:=decide_eq_false hy1
     have HN:Hid (∀j z,j<k+1→x.l[j]?=some z→0≤z∧z≤2147483647):=AA (fun j z hj hz=>by
      by_cases hjk:j<k
      ·exact Va.out j z hjk hz
      ·obtain rfl:j=k:=by omega
       rw [Hy.out] at hz
       injection hz with hz
       omega)
     go_wp2_with fail
     refine⟨⟨k+1,by omega,by go_num,?_,HN.out⟩,by simp [intOf];omega⟩
     first | exact trivial | rfl
    ·have HX:Hid (Aq x=0):=AA (by
      rw [HA.out,if_pos]
      refine List.all_eq_true.2 fun y hy=> ?_
      obtain⟨j,hj⟩:=List.getElem?_of_mem hy
      have hj2:=(List.getElem?_eq_some_iff.1 hj).1
      exact decide_eq_true (Va.out j y (by omega) hj))
     obtain rfl:k=x.l.length:=by omega
     go_wp2_with fail
     go_ret
     exact⟨H3.out,by rw [HX.out];rfl⟩
end
end Go.Proofs.YtlagonfamllgjaaGreatDoor
