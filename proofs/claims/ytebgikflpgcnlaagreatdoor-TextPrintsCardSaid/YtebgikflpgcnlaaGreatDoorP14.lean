/- Part 14 of the proof: InsB InsC InsE -/
import Derived.Test.YtebgikflpgcnlaaGreatDoorP09
import Derived.Test.YtebgikflpgcnlaaGreatDoorP11
namespace Go.Proofs.YtebgikflpgcnlaaGreatDoor
set_option linter.unusedVariables false
set_option linter.unusedSimpArgs false
set_option maxRecDepth 100000
set_option maxHeartbeats 4000000
open Go.RowKit Tryz
theorem WS: ∀r∈Dj,r.takes=0∨r.takes=1∨r.takes=2∨r.takes=3∨r.takes=4∨r.takes=5∨r.takes=6∨r.takes=7∨r.takes=8∨r.takes=9:=by
 have h:Dj.all (fun r=>decide (r.takes=0∨r.takes=1∨r.takes=2∨r.takes=3∨r.takes=4∨r.takes=5∨r.takes=6∨r.takes=7∨r.takes=8∨r.takes=9))=true:=by kernel_rfl
 exact fun r hr=>of_decide_eq_true (List.all_eq_true.1 h r hr)
theorem Z0 (r:ZR) (hm:r∈Dj) (w:World):Calls prog 195 #[.agg (opC r)] w fun e w'=>Below w.heap.size w w'∧e= .returned (.tuple #[.int .i64 (Ah r).1,.int .i64 (Ah r).2]):=by
 have ht:=WS r hm
 clear hm
 obtain⟨op,word,takes,pops,pushes,plain⟩:=r
 unfold opC
 dsimp only at ht⊢
 rcases ht with rfl | rfl | rfl | rfl | rfl | rfl | rfl | rfl | rfl | rfl
 case inr.inr.inr.inr.inr.inr.inr.inr.inl=>
  by_cases hw:word=wconst
  ·subst hw
   unfold wconst
   go_enter func195,ntmps195
   go_wp2_with fail
   go_ret2
   exact⟨(Below.refl _ _).alloc (Nat.le_refl _) _,rfl⟩
  ·have hb:Ah ⟨op,word,8,pops,pushes,plain⟩=(-9223372036854775808,9223372036854775807):=by simp [Ah,hw]
   rw [hb]
   have hne:(word.toList==wconst.toList)=false:=by
    rw [beq_eq_false_iff_ne]
    intro he
    rw [ByteArray.toList_eq,ByteArray.toList_eq] at he
    exact hw (ByteArray.ext (Array.toList_inj.1 he))
   rw [show wconst.toList= [119,46,99,111,110,115,116] by rw [ByteArray.toList_eq];rfl] at hne
   clear hb hw
   go_enter func195,ntmps195
   go_wp2_with fail
   go_ret2
   exact⟨(Below.refl _ _).alloc (Nat.le_refl _) _,rfl⟩
 all_goals
  go_enter func195,ntmps195
  go_wp2_with fail
  go_ret2
  exact⟨(Below.refl _ _).alloc (Nat.le_refl _) _,rfl⟩
theorem Z4 (r:ZR) (hm:r∈Dj) (n:Int) (w:World):Calls prog 198 #[.agg (opC r),.int .i64 n] w fun e w'=>Below w.heap.size w w'∧e= .returned (.bool (decide ((Ah r).1≤n∧n≤(Ah r).2))):=by
 have HB:=AA (fun W=>Z0 r hm W)
 clear hm
 unfold opC at*
 go_enter func198,ntmps198
 go_wp2_with fail
 have H1:Hid (Below w.heap.size w (w.alloc (.cells #[.int .u8 (r.op:Nat),.string r.word,.int .i8 r.takes,.string r.pops,.string r.pushes,.bool r.plain] 136))):=AA ((Below.refl _ _).alloc (Nat.le_refl _) _)
 refine(HB.out _).mono ?_
 rintro e w2 ⟨hbe,rfl⟩
 have H2:=AA (H1.out.trans (hbe.mono H1.out.size))
 clear hbe H1 HB
 obtain⟨a,ha⟩: ∃a,a=(Ah r).1:=⟨_,rfl⟩
 obtain⟨b,hb⟩: ∃b,b=(Ah r).2:=⟨_,rfl⟩
 have Ha:=AA ha;have Hb:=AA hb
 rw [←ha,←hb]
 clear ha hb
 by_cases h1:a≤n
 ·have d1:decide (n≥a)=true:=decide_eq_true h1
  by_cases h2:n≤b
  ·have d2:decide (n≤b)=true:=decide_eq_true h2
   have D3:Hid (decide (a≤n∧n≤b)=true):=AA (decide_eq_true ⟨h1,h2⟩)
   go_wp2_with fail
   go_ret
   exact⟨H2.out,by rw [←Ha.out,←Hb.out,D3.out];rfl⟩
  ·have d2:decide (n≤b)=false:=decide_eq_false h2
   have D3:Hid (decide (a≤n∧n≤b)=false):=AA (decide_eq_false (fun h=>h2 h.2))
   go_wp2_with fail
   go_ret
   exact⟨H2.out,by rw [←Ha.out,←Hb.out,D3.out];rfl⟩
 ·have d1:decide (n≥a)=false:=decide_eq_false h1
  have D3:Hid (decide (a≤n∧n≤b)=false):=AA (decide_eq_false (fun h=>h1 h.1))
  go_wp2_with fail
  go_ret
  exact⟨H2.out,by rw [←Ha.out,←Hb.out,D3.out];rfl⟩
section
attribute [local irreducible] CG
theorem dX (cs:List Value) (hi:Nat) (x:Av) (w:World) (h:I_.R w 0 hi cs x) (hhi:hi≤w.heap.size) (htab:Lib.TabIs prog w "strings.asciiSpace" .u8 Lib.asciiSpaceTab):
 Calls prog 160 #[.agg cs.toArray] w fun e w'=>Below w.heap.size w w'∧e= .returned (.int .i64 (Aa x)):=by
 have Ht:=AA (Lib.tabBelow_of_tabIs htab)
 obtain⟨fu,rfl,WI,Ql⟩:=D9.1 h
 obtain⟨OT,Nt,rfl⟩:=AU Ql
 have zR:=AA Ql;have H_a:=AA WI
 clear h Ql WI htab
 unfold bv
 go_enter func160,ntmps160
 go_wp2_with fail
 generalize hw:w.alloc _=w1
 have H1:Hid (Below w.heap.size w w1):=by rw [←hw];exact AA ((Below.refl _ _).alloc (Nat.le_refl _) _)
 have Hb1:Hid (AV w1 w.heap.size 53 [.int .u8 (x.op.toNat:Int),.int .i64 x.a,.slice OT x.l.length Nt]):=by rw [←hw];exact AA (AV.new w 53 [.int .u8 (x.op.toNat:Int),.int .i64 x.a,.slice OT x.l.length Nt])
 clear hw
 refine(XU x.op.toNat w1 (UInt8.toNat_lt x.op) (Ht.out _ H1.out)).mono ?_
 rintro e w2 ⟨hbe,rfl⟩
 have Hb2:=AA (Hb1.out.below hbe Hb1.out.lt)
 have H2:=AA (H1.out.trans (hbe.mono H1.out.size))
 clear hbe Hb1 H1
 have hsz:w.heap.size<w2.heap.size:=Hb2.out.lt
 cases hr:CG x.op.toNat with
 | none=>
  have ha:Eh x.op.toNat= .tuple #[.agg mX,.bool false]:=by unfold Eh;rw [hr]
  have HX:Hid (Aa x=21):=AA (by unfold Aa;rw [hr])
  rw [ha]
  unfold mX
  clear ha hr
  go_wp2_with fail
  go_ret
  exact⟨H2.out.alloc (by omega) _,by rw [HX.out];rfl⟩
 | some r=>
  have ha:Eh x.op.toNat= .tuple #[.agg (opC r),.bool true]:=by unfold Eh;rw [hr]
  have Hr:=AA hr
  rw [ha]
  unfold opC
  clear ha hr
  have hc1:=Hb2.out.q 1 rfl
  go_wp2_with fail
  generalize hw3:w2.alloc _=w3
  have H3:Hid (Below w.heap.size w w3):=by rw [←hw3];exact AA (H2.out.alloc (by omega) _)
  have Hb3:Hid (AV w3 w.heap.size 53 [.int .u8 (x.op.toNat:Int),.int .i64 x.a,.slice OT x.l.length Nt]):=by rw [←hw3];exact AA (Hb2.out.alloc _)
  have Hc3:Hid (AV w3 w2.heap.size 136 (opC r).toList):=by rw [←hw3];exact AA (AV.new w2 136 (opC r).toList)
  clear hw3 hc1 hsz Hb2 H2
  refine(Z4 r (Jh Hr.out).1 x.a w3).mono ?_
  rintro e w4 ⟨hbe,rfl⟩
  have Hb4:=AA (Hb3.out.below hbe Hb3.out.lt)
  have Hc4:=AA (Hc3.out.below hbe Hc3.out.lt)
  have H4:=AA (H3.out.trans (hbe.mono H3.out.size))
  clear hbe H3 Hb3 Hc3
  by_cases hin:(Ah r).1≤x.a∧x.a≤(Ah r).2
  case neg=>
   have HX:Hid (Aa x=17):=AA (by unfold Aa;rw [Hr.out];simp only [if_pos hin])
   rw [decide_eq_false hin]
   clear hin
   go_wp2_with fail
   go_ret
   exact⟨H4.out,by rw [HX.out];rfl⟩
  rw [decide_eq_true hin]
  have hc2:=Hc4.out.q 2 rfl
  have hb2:=Hb4.out.q 2 rfl
  by_cases h3:r.takes=3
  case neg=>
   have hne:(r.takes !=3)=true:=by simpa using h3
   by_cases hl:0<x.l.length
   ·have HX:Hid (Aa x=17):=AA (by unfold Aa;rw [Hr.out];simp [hin,h3,hl])
    have d:decide ((x.l.length:Int)>0)=true:=decide_eq_true (by omega)
    clear hin h3
    go_wp2_with fail
    go_ret
    exact⟨H4.out,by rw [HX.out];rfl⟩
   ·have HX:Hid (Aa x=0):=AA (by unfold Aa;rw [Hr.out];simp [hin,h3,hl])
    have d:decide ((x.l.length:Int)>0)=false:=decide_eq_false (by omega)
    clear hin h3
    go_wp2_with fail
    go_ret
    exact⟨H4.out,by rw [HX.out];rfl⟩
  have hne:(r.takes !=3)=false:=by simpa using h3
  by_cases hl1:x.l.length<1
  ·have HX:Hid (Aa x=17):=AA (by unfold Aa;rw [Hr.out];simp only [hin,h3,and_self,not_true_eq_false,if_false,ne_eq];rw [if_pos (.inl hl1)])
   have d:decide ((x.l.length:Int)<1)=true:=decide_eq_true (by omega)
   clear hin h3
   go_wp2_with fail
   go_ret
   exact⟨H4.out,by rw [HX.out];rfl⟩
  have d:decide ((x.l.length:Int)<1)=false:=decide_eq_false (by omega)
  by_cases hl2:16<x.l.length
  ·have HX:Hid (Aa x=17):=AA (by unfold Aa;rw [Hr.out];simp only [hin,h3,and_self,not_true_eq_false,if_false,ne_eq];rw [if_pos (.inr hl2)])
   have d2:decide ((x.l.length:Int)>16)=true:=decide_eq_true (by omega)
   clear hin h3
   go_wp2_with fail
   go_ret
   exact⟨H4.out,by rw [HX.out];rfl⟩
  have d2:decide ((x.l.length:Int)>16)=false:=decide_eq_false (by omega)
  have HA:Hid (Aa x=if x.l.all (fun n=>decide (0≤n∧n≤2147483647)) then 0 else 17):=AA (by
   unfold Aa
   rw [Hr.out]
   simp only [hin,h3,and_self,not_true_eq_false,if_false,ne_eq]
   rw [if_neg (by omega)])
  have H_l4:=AA (Rd.below zR.out H4.out hhi)
  clear hin h3
  go_wp2_with fail
  clear d d2 hne hc2 hb2
  go_loopw [6,40] (fun _ i wr=> ∃k:Nat,k≤x.l.length∧i= .int .i64 k∧wr=w4∧ ∀j y,j<k→x.l[j]?=some y→0≤y∧y≤2147483647) (fun _ i _=>x.l.length-(intOf i).toNat)
  case atStart=>exact⟨0,Nat.zero_le _,rfl,rfl,fun j y hj=>absurd hj (by omega)⟩
  case round=>
   obtain⟨k,hk,rfl,rfl,hall⟩:=hrel
   have Zx:=AA hall;clear hall
   by_cases hlt:k<x.l.length
   ·obtain⟨y,hy⟩: ∃y,x.l[k]?=some y:=⟨_,List.getElem?_eq_getElem hlt⟩
    obtain⟨b,o,rfl,_,_,cs,hcs,hrd⟩:=NW H_l4.out hy
    obtain⟨rfl,ACF⟩:=hrd
    have hc0:wr.cell? ⟨b,o+k,none⟩=some (.int .i64 y):=by
     have:=hcs 0 _ rfl
     rwa [show Rd.i64.z=1 from rfl,Nat.mul_one,Nat.add_zero] at this
    have hi0:(0:Int)≤k:=by omega
    have Hy:=AA hy
    clear hcs hy
    by_cases hy0:y<0
    ·have HX:Hid (Aa x=17):=AA (by
      rw [HA.out,if_neg]
      intro hal
      have:=of_decide_eq_true (List.all_eq_true.1 hal y (List.mem_of_getElem? Hy.out))
      omega)
     have e1:decide (y<0)=true:=decide_eq_true hy0
     go_wp2_with fail
     go_ret
     exact⟨H4.out,by rw [HX.out];rfl⟩
    have e1:decide (y<0)=false:=decide_eq_false hy0
    by_cases hy1:y>2147483647
    ·have HX:Hid (Aa x=17):=AA (by
      rw [HA.out,if_neg]
      intro hal
      have:=of_decide_eq_true (List.all_eq_true.1 hal y (List.mem_of_getElem? Hy.out))
      omega)
     have e2:decide (y>2147483647)=true:=decide_eq_true hy1
     go_wp2_with fail
     go_ret
     exact⟨H4.out,by rw [HX.out];rfl⟩
    have e2:decide (y>2147483647)=false:=decide_eq_false hy1
    have HN:Hid (∀j z,j<k+1→x.l[j]?=some z→0≤z∧z≤2147483647):=AA (fun j z hj hz=>by
     by_cases hjk:j<k
     ·exact Zx.out j z hjk hz
     ·obtain rfl:j=k:=by omega
      rw [Hy.out] at hz
      injection hz with hz
      omega)
    go_wp2_with fail
    refine⟨⟨k+1,by omega,by go_num,?_,HN.out⟩,by simp [intOf];omega⟩
    first | exact trivial | rfl
   ·have HX:Hid (Aa x=0):=AA (by
     rw [HA.out,if_pos]
     refine List.all_eq_true.2 fun y hy=> ?_
     obtain⟨j,hj⟩:=List.getElem?_of_mem hy
     have hj2:=(List.getElem?_eq_some_iff.1 hj).1
     exact decide_eq_true (Zx.out j y (by omega) hj))
    obtain rfl:k=x.l.length:=by omega
    go_wp2_with fail
    go_ret
    exact⟨H4.out,by rw [HX.out];rfl⟩
end
section
attribute [local irreducible] CG
def Dm (x:Av):List UInt8:=if Aa x=0 then Kl x else []
theorem VN {x:Av} {r:ZR} (h:Aa x=0) (hr:CG x.op.toNat=some r):(Ah r).1≤x.a∧x.a≤(Ah r).2∧(r.takes=3→x.l.length≤16∧ ∀n∈x.l,0≤n∧n≤2147483647):=by
 unfold Aa at h
 rw [hr] at h
 dsimp only at h
 split at h
 ·cases h
 ·rename_i hb
  have hb:=Decidable.not_not.1 hb
  refine⟨hb.1,hb.2,fun h3=> ?_⟩
  rw [if_neg (by simp [h3])] at h
  split at h
  ·cases h
  ·rename_i hl
   split at h
   ·rename_i ha
    exact⟨by omega,fun n hn=>of_decide_eq_true (List.all_eq_true.1 ha n hn)⟩
   ·cases h
theorem VO {x:Av} (h:Aa x=0): ∃r,CG x.op.toNat=some r:=by
 cases hr:CG x.op.toNat with
 | none=>unfold Aa at h;rw [hr] at h;cases h
 | some r=>exact⟨r,rfl⟩
theorem kN {x:Av} {r:ZR} (hr:CG x.op.toNat=some r):Kl x=x.op::(if r.takes=0 then [] else if r.takes=8 then enc (folded x.a) else if r.takes=3 then enc x.l.length++x.l.flatMap (fun n=>enc n.toNat) else enc x.a.toNat):=by
 unfold Kl;rw [hr]
theorem dY {W:World} {base g:Nat} {t:TypeId} {v:Value} (hb:AV W g t [v]) (hg:base≤g):W.ownsRow base t 1 (.slice (some ⟨g,0,none⟩) 1 1) 1 [v]:=
 ⟨rfl,.inr ⟨g,1,#[v],rfl,hg,hb,Nat.le_refl _,by unfold maxLen;omega,rfl,rfl⟩⟩
theorem Z5 (cs:List Value) (hi:Nat) (x:Av) (w:World) (h:I_.R w 0 hi cs x) (hhi:hi≤w.heap.size) (htab:Lib.TabIs prog w "strings.asciiSpace" .u8 Lib.asciiSpaceTab):
 Calls prog 122 #[.agg cs.toArray] w fun e w'=>Below w.heap.size w w'∧ ∃A c,e= .returned (.tuple #[.slice A (Dm x).length c,.int .i64 (Aa x)])∧w'.ownsRow w.heap.size 5 1 (.slice A (Dm x).length c) (Dm x).length ((Dm x).map bv):=by
 have Ht:=AA (Lib.tabBelow_of_tabIs htab)
 have Hh:=AA h
 obtain⟨fu,rfl,WI,Ql⟩:=D9.1 h
 obtain⟨OT,Nt,rfl⟩:=AU Ql
 have zR:=AA Ql;have H_a:=AA WI
 clear h Ql WI htab
 unfold bv at Hh⊢
 go_enter func122,ntmps122
 go_wp2_with fail
 generalize hw:w.alloc _=w1
 have H1:Hid (Below w.heap.size w w1):=by rw [←hw];exact AA ((Below.refl _ _).alloc (Nat.le_refl _) _)
 have Hb1:Hid (AV w1 w.heap.size 53 [.int .u8 (x.op.toNat:Int),.int .i64 x.a,.slice OT x.l.length Nt]):=by rw [←hw];exact AA (AV.new w 53 [.int .u8 (x.op.toNat:Int),.int .i64 x.a,.slice OT x.l.length Nt])
 clear hw
 refine(dX [.int .u8 (x.op.toNat:Int),.int .i64 x.a,.slice OT x.l.length Nt] hi x w1 (Rd.below Hh.out H1.out hhi) (Nat.le_trans hhi H1.out.size) (Ht.out _ H1.out)).mono ?_
 rintro e w2 ⟨hbe,rfl⟩
 have Hb2:=AA (Hb1.out.below hbe Hb1.out.lt)
 have H2:=AA (H1.out.trans (hbe.mono H1.out.size))
 clear hbe Hb1 H1
 by_cases h0:Aa x=0
 case neg=>
  have HO:Hid (Dm x= []):=AA (by unfold Dm;rw [if_neg h0])
  have hne:(Aa x !=0)=true:=by simpa using h0
  clear h0
  go_wp2_with fail
  go_ret2
  refine⟨H2.out,none,0,?_,?_⟩
  ·rw [HO.out];rfl
  ·rw [HO.out];exact World.ownsRow_nil _ _ _ _
 obtain⟨r,hr⟩:=VO h0
 have HZ:=AA (VN h0 hr)
 have HO:Hid (Dm x=x.op::(if r.takes=0 then [] else if r.takes=8 then enc (folded x.a) else if r.takes=3 then enc x.l.length++x.l.flatMap (fun n=>enc n.toNat) else enc x.a.toNat)):=AA (by unfold Dm;rw [if_pos h0,kN hr])
 have Hr:=AA hr
 have H0:=AA h0
 rw [h0]
 have hc0:=Hb2.out.q 0 rfl
 have hsz:w.heap.size<w2.heap.size:=Hb2.out.lt
 clear hr h0
 go_wp2_with fail
 generalize hw:w2.alloc _=w3
 have H3:Hid (Below w.heap.size w w3):=by rw [←hw];exact AA (H2.out.alloc (by omega) _)
 have Hb3:Hid (AV w3 w.heap.size 53 [.int .u8 (x.op.toNat:Int),.int .i64 x.a,.slice OT x.l.length Nt]):=by rw [←hw];exact AA (Hb2.out.alloc _)
 have Rp:Hid (AV w3 w2.heap.size 5 [bv x.op]):=by rw [←hw];exact AA (AV.new w2 5 [bv x.op])
 clear hw hc0 H2 Hb2
 refine(XU x.op.toNat w3 (UInt8.toNat_lt x.op) (Ht.out _ H3.out)).mono ?_
 rintro e w4 ⟨hbe,rfl⟩
 have H4:=AA (H3.out.trans (hbe.mono H3.out.size));have Hb4:=AA (Hb3.out.below hbe Hb3.out.lt);have Va:=AA (Rp.out.below hbe Rp.out.lt)
 clear hbe H3 Hb3 Rp
 have ha:Eh x.op.toNat= .tuple #[.agg (opC r),.bool true]:=by unfold Eh;rw [Hr.out]
 rw [ha]
 unfold opC
 clear ha
 go_upto_block 0 with fail
 generalize hw:w4.alloc _=w5
 have H5:Hid (Below w.heap.size w w5):=by rw [←hw];exact AA (H4.out.alloc H4.out.size _)
 have Hb5:Hid (AV w5 w.heap.size 53 [.int .u8 (x.op.toNat:Int),.int .i64 x.a,.slice OT x.l.length Nt]):=by rw [←hw];exact AA (Hb4.out.alloc _)
 have VK:Hid (AV w5 w2.heap.size 5 [bv x.op]):=by rw [←hw];exact AA (Va.out.alloc _)
 clear hw H4 Hb4 Va
 have fK:=AA (dY (base:=w.heap.size) VK.out (by omega))
 have hsz5:w.heap.size≤w5.heap.size:=H5.out.size
 clear VK
 go_cut [5] (fun b wx=> ∃A c,b= .slice A (Dm x).length c∧wx.ownsRow w.heap.size 5 1 (.slice A (Dm x).length c) (Dm x).length ((Dm x).map bv)∧Below w.heap.size w wx)
 case first=>
  have hy1:=Hb5.out.q 1 rfl
  have hy2:=Hb5.out.q 2 rfl
  rcases WS r (Jh Hr.out).1 with h | h | h | h | h | h | h | h | h | h
  case inl=>
   have HQ:Hid (Dm x= [x.op]):=AA (by rw [HO.out,if_pos h])
   have d1:(r.takes==1)=_:=congrArg (· ==(1:Int)) h;have d2:(r.takes==2)=_:=congrArg (· ==(2:Int)) h;have d3:(r.takes==3)=_:=congrArg (· ==(3:Int)) h;have d4:(r.takes==4)=_:=congrArg (· ==(4:Int)) h;have d5:(r.takes==5)=_:=congrArg (· ==(5:Int)) h;have d6:(r.takes==6)=_:=congrArg (· ==(6:Int)) h;have d7:(r.takes==7)=_:=congrArg (· ==(7:Int)) h;have d8:(r.takes==8)=_:=congrArg (· ==(8:Int)) h;have d9:(r.takes==9)=_:=congrArg (· ==(9:Int)) h;have Hh:=AA h;clear h
   go_wp2_with fail
   go_meet
   rw [HQ.out]
   exact⟨_,_,rfl,fK.out,H5.out⟩
  case inr.inr.inr.inr.inr.inr.inr.inr.inl=>
   have HQ:Hid (Dm x= [x.op]++enc (folded x.a)):=AA (by rw [HO.out,if_neg (by omega),if_pos h];rfl)
   have d1:(r.takes==1)=_:=congrArg (· ==(1:Int)) h;have d2:(r.takes==2)=_:=congrArg (· ==(2:Int)) h;have d3:(r.takes==3)=_:=congrArg (· ==(3:Int)) h;have d4:(r.takes==4)=_:=congrArg (· ==(4:Int)) h;have d5:(r.takes==5)=_:=congrArg (· ==(5:Int)) h;have d6:(r.takes==6)=_:=congrArg (· ==(6:Int)) h;have d7:(r.takes==7)=_:=congrArg (· ==(7:Int)) h;have d8:(r.takes==8)=_:=congrArg (· ==(8:Int)) h;have d9:(r.takes==9)=_:=congrArg (· ==(9:Int)) h;have Hh:=AA h;clear h
   have hA:=H_a.out
   have VL:=AA (Ag (folded x.a) (MZ _ hA.1 hA.2))
   go_wp2_with (first
    | (go_at_call 118;refine(Y8 x.a hA.1 hA.2 _).mono ?_;rintro e w6 ⟨A6,c6,rfl,h2,h3⟩;have iN:=AA (Row.own h2);have oH:=AA (Du fK.out h3);have H6:=AA (H5.out.trans (h3.mono hsz5));clear h2 h3)
    | (at_builtin;refine I7 _ rfl (.tmp 59) (.tmp 62) rfl w.heap.size (some ⟨w2.heap.size,0,none⟩) 1 1 [bv x.op] rfl oH.out _ A6 (enc (folded x.a)).length c6 ((enc (folded x.a)).map bv) rfl (by rw [List.length_map]) iN.out (LC _) (by have:=VL.out;omega) H6.out.size ?_;intro A7 c7 w7 h2 _ h3;have ug:=AA h2;have H7:=AA (H6.out.trans h3);clear h2 h3))
   go_meet
   rw [HQ.out]
   refine⟨A7,c7,by rw [List.length_append];rfl,?_,H7.out⟩
   rw [List.length_append,List.map_append]
   exact ug.out
  case inr.inr.inr.inl=>
   have d1:(r.takes==1)=_:=congrArg (· ==(1:Int)) h;have d2:(r.takes==2)=_:=congrArg (· ==(2:Int)) h;have d3:(r.takes==3)=_:=congrArg (· ==(3:Int)) h;have d4:(r.takes==4)=_:=congrArg (· ==(4:Int)) h;have d5:(r.takes==5)=_:=congrArg (· ==(5:Int)) h;have d6:(r.takes==6)=_:=congrArg (· ==(6:Int)) h;have d7:(r.takes==7)=_:=congrArg (· ==(7:Int)) h;have d8:(r.takes==8)=_:=congrArg (· ==(8:Int)) h;have d9:(r.takes==9)=_:=congrArg (· ==(9:Int)) h;have Hh:=AA h;clear h
   have HQ:Hid (Dm x= [x.op]++(enc x.l.length++x.l.flatMap (fun n=>enc n.toNat))):=AA (by rw [HO.out,if_neg (by have:=Hh.out;omega),if_neg (by have:=Hh.out;omega),if_pos Hh.out];rfl)
   have hz:=HZ.out.2.2 Hh.out
   have HL:=AA hz
   have hl16:=hz.1
   have VL:=AA (Ag x.l.length (by omega))
   have hwr:IntKind.u64.wrap (x.l.length:Int)=(x.l.length:Int):=by rw [IntKind.wrap_u64];omega
   clear hz
   go_wp2_with (first
    | (go_at_call 159;refine(Nv x.l.length (by omega) _).mono ?_;rintro e w6 ⟨A6,c6,rfl,h2,h3⟩;have iN:=AA (Row.own h2);have oH:=AA (Du fK.out h3);have H6:=AA (H5.out.trans (h3.mono hsz5));have hz2:=(Hb5.out.below h3 Hb5.out.lt);have Hb6:=AA hz2;have hy6:=Hb6.out.cell 2;clear h2 h3 hz2)
    | (at_builtin;refine I7 _ rfl (.tmp 39) (.tmp 44) rfl w.heap.size (some ⟨w2.heap.size,0,none⟩) 1 1 [bv x.op] rfl oH.out _ A6 (enc x.l.length).length c6 ((enc x.l.length).map bv) rfl (by rw [List.length_map]) iN.out (LC _) (by have:=VL.out;omega) H6.out.size ?_;intro A7 c7 w7 h2 hg7 h3;have ug:=AA h2;have H7:=AA (H6.out.trans h3);have Hb7:=AA (EB hg7 Hb6.out (fun e=>by have e2:w2.heap.size=w.heap.size:=Option.some.inj e;omega));clear h2 h3 hg7;have hy7:w7.cell? ⟨w.heap.size,2,none⟩=some (.slice OT x.l.length Nt):=Hb7.out.cell 2))
   clear Hb5 Hb6 fK oH hy1 hy2 hy6 H5 H6 iN
   have HS:Hid (w7.ownsRow w.heap.size 5 1 (.slice A7 ([x.op]++(enc x.l.length++(x.l.take 0).flatMap (fun n=>enc n.toNat))).length c7) ([x.op]++(enc x.l.length++(x.l.take 0).flatMap (fun n=>enc n.toNat))).length (([x.op]++(enc x.l.length++(x.l.take 0).flatMap (fun n=>enc n.toNat))).map bv)):=AA (by
    have h:=ug.out
    rw [List.take_zero,List.flatMap_nil,List.append_nil,List.length_append,List.map_append]
    exact h)
   have kP:Hid (1+(enc x.l.length).length=([x.op]++(enc x.l.length++(x.l.take 0).flatMap (fun n=>enc n.toNat))).length):=AA (by rw [List.take_zero,List.flatMap_nil,List.append_nil,List.length_append];rfl)
   go_loopw [5,9,49] (fun b _ i wr=> ∃(k:Nat) (A:Option Addr) (c:Nat),k≤x.l.length∧i= .int .i64 k∧b= .slice A ([x.op]++(enc x.l.length++(x.l.take k).flatMap (fun n=>enc n.toNat))).length c∧Below w.heap.size w wr∧
    wr.ownsRow w.heap.size 5 1 (.slice A ([x.op]++(enc x.l.length++(x.l.take k).flatMap (fun n=>enc n.toNat))).length c) ([x.op]++(enc x.l.length++(x.l.take k).flatMap (fun n=>enc n.toNat))).length (([x.op]++(enc x.l.length++(x.l.take k).flatMap (fun n=>enc n.toNat))).map bv))
    (fun _ _ i _=>x.l.length-(intOf i).toNat)
   case atStart=>exact⟨0,A7,c7,Nat.zero_le _,rfl,by rw [←kP.out],H7.out,HS.out⟩
   case round=>
    obtain⟨k,A,c,hk,rfl,rfl,hb,ho⟩:=hrel
    have HB:=AA hb;have HOk:=AA ho
    clear hb ho
    by_cases hlt:k<x.l.length
    ·obtain⟨y,hy⟩: ∃y,x.l[k]?=some y:=⟨_,List.getElem?_eq_getElem hlt⟩
     have hlk:=Rd.below zR.out HB.out hhi
     obtain⟨b,o,rfl,_,_,cs,hcs,hrd⟩:=NW hlk hy
     obtain⟨rfl,ACF⟩:=hrd
     have hc0:wr.cell? ⟨b,o+k,none⟩=some (.int .i64 y):=by
      have:=hcs 0 _ rfl
      rwa [show Rd.i64.z=1 from rfl,Nat.mul_one,Nat.add_zero] at this
     have hi0:(0:Int)≤k:=by omega
     have hyb:=HL.out.2 y (List.mem_of_getElem? hy)
     obtain⟨n,hn⟩:=Int.eq_ofNat_of_zero_le hyb.1
     have Hn:Hid (y.toNat=n∧n<18446744073709551616):=AA ⟨by omega,by omega⟩
     have hwy:IntKind.u64.wrap y=y:=by rw [IntKind.wrap_u64];omega
     have hcl:=Nv n (by omega)
     rw [←hn] at hcl
     have Hcl:=AA hcl
     have HFn:=AA (Ag n (by omega))
     have Ul:Hid ([x.op]++(enc x.l.length++(x.l.take k).flatMap (fun n=>enc n.toNat))++enc n= [x.op]++(enc x.l.length++(x.l.take (k+1)).flatMap (fun n=>enc n.toNat))):=AA (by
      rw [FK (f:=fun n:Int=>enc n.toNat) hy,show y.toNat=n from by omega];simp only [List.append_assoc])
     have Xh:Hid (([x.op]++(enc x.l.length++(x.l.take k).flatMap (fun n=>enc n.toNat))).length≤1000):=AA (by
      have h1:=Sm (f:=fun n:Int=>enc n.toNat) (c:=10) (l:=x.l.take k) (fun n hn=>by
       have:=HL.out.2 n (List.mem_of_mem_take hn)
       exact Ag _ (by omega))
      have h2:(x.l.take k).length≤16:=by rw [List.length_take];omega
      have:=VL.out
      rw [List.length_append,List.length_append]
      simp only [List.length_cons,List.length_nil]
      omega)
     clear hn hyb hcl hcs hlk hy
     generalize ([x.op]++(enc x.l.length++(x.l.take k).flatMap (fun n=>enc n.toNat)))=LK at*
     go_wp2_with (first
      | (go_at_call 159;refine(Hcl.out _).mono ?_;rintro e w8 ⟨A8,c8,rfl,h2,h3⟩;have HR8:=AA (Row.own h2);have XO:=AA (Du HOk.out h3);have H8:=AA (HB.out.trans (h3.mono HB.out.size));clear h2 h3)
      | (at_builtin;refine I7 _ rfl (.tmp 53) (.tmp 56) rfl w.heap.size A LK.length c (LK.map bv) rfl XO.out _ A8 (enc n).length c8 ((enc n).map bv) rfl (by rw [List.length_map]) HR8.out (LC _) (by have:=HFn.out;have:=Xh.out;omega) H8.out.size ?_;intro A9 c9 w9 h2 _ h3;have HO9:=AA h2;have H9:=AA (H8.out.trans h3);clear h2 h3))
     refine⟨⟨k+1,A9,c9,by omega,by go_num,by rw [←Ul.out,List.length_append],H9.out,?_⟩,by simp [intOf];omega⟩
     rw [←Ul.out,List.length_append,List.map_append]
     exact HO9.out
    ·obtain rfl:k=x.l.length:=by omega
     go_wp2_with fail
     go_meet
     have hq:=HQ.out
     rw [←List.take_length (l:=x.l)] at hq
     rw [List.length_take,Nat.min_self] at hq
     rw [hq]
     exact⟨A,c,rfl,HOk.out,HB.out⟩
  all_goals
   have HQ:Hid (Dm x= [x.op]++enc x.a.toNat):=AA (by rw [HO.out,if_neg (by omega),if_neg (by omega),if_neg (by omega)];rfl)
   have hb0:0≤x.a∧x.a≤4294967295:=by
    have hz:=HZ.out
    unfold Ah at hz
    simp [h] at hz
    omega
   obtain⟨n,hn⟩:=Int.eq_ofNat_of_zero_le hb0.1
   have Hn:Hid (x.a=(n:Int)∧x.a.toNat=n∧n<18446744073709551616):=AA ⟨hn,by omega,by omega⟩
   have VL:=AA (Ag n (by omega))
   have hwr:IntKind.u64.wrap x.a=x.a:=by rw [IntKind.wrap_u64];omega
   have hcl:=Nv n (by omega)
   rw [←hn] at hcl
   have Hcl:=AA hcl
   clear hn hb0 hcl
   have d1:(r.takes==1)=_:=congrArg (· ==(1:Int)) h;have d2:(r.takes==2)=_:=congrArg (· ==(2:Int)) h;have d3:(r.takes==3)=_:=congrArg (· ==(3:Int)) h;have d4:(r.takes==4)=_:=congrArg (· ==(4:Int)) h;have d5:(r.takes==5)=_:=congrArg (· ==(5:Int)) h;have d6:(r.takes==6)=_:=congrArg (· ==(6:Int)) h;have d7:(r.takes==7)=_:=congrArg (· ==(7:Int)) h;have d8:(r.takes==8)=_:=congrArg (· ==(8:Int)) h;have d9:(r.takes==9)=_:=congrArg (· ==(9:Int)) h;have Hh:=AA h;clear h
   go_wp2_with (first
    | (go_at_call 159;refine(Hcl.out _).mono ?_;rintro e w6 ⟨A6,c6,rfl,h2,h3⟩;have iN:=AA (Row.own h2);have oH:=AA (Du fK.out h3);have H6:=AA (H5.out.trans (h3.mono hsz5));clear h2 h3)
    | (at_builtin;refine I7 _ rfl (.tmp 64) (.tmp 68) rfl w.heap.size (some ⟨w2.heap.size,0,none⟩) 1 1 [bv x.op] rfl oH.out _ A6 (enc n).length c6 ((enc n).map bv) rfl (by rw [List.length_map]) iN.out (LC _) (by have:=VL.out;omega) H6.out.size ?_;intro A7 c7 w7 h2 _ h3;have ug:=AA h2;have H7:=AA (H6.out.trans h3);clear h2 h3))
   go_meet
   rw [HQ.out,Hn.out.2.1]
   refine⟨A7,c7,by rw [List.length_append];rfl,?_,H7.out⟩
   rw [List.length_append,List.map_append]
   exact ug.out
 case rest=>
  obtain⟨A,c,rfl,ho,hb⟩:=hcut
  have HOx:=AA ho;have Hbx:=AA hb
  clear ho hb
  go_wp2_with fail
  go_ret2
  exact⟨Hbx.out,A,c,by rw [H0.out];rfl,HOx.out⟩
end
end Go.Proofs.YtebgikflpgcnlaaGreatDoor
