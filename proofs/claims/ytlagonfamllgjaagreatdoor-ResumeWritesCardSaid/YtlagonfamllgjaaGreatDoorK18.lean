/- Part 18 of the proof: Rof0 Rof1 Rof2 RofD InsF RefE -/
import Derived.Test.YtlagonfamllgjaaGreatDoorK12
import Derived.Test.YtlagonfamllgjaaGreatDoorK13
import Derived.Test.YtlagonfamllgjaaGreatDoorK17
namespace Go.Proofs.YtlagonfamllgjaaGreatDoor
set_option linter.unusedVariables false
set_option linter.unusedSimpArgs false
set_option maxRecDepth 100000
set_option maxHeartbeats 4000000
open Go.RowKit Tryz
section
attribute [local irreducible] Aq
set_option maxHeartbeats 40000000
theorem NQ {W:World} {g:Nat} {y0 y1 y2 y3 y4 y5:Value} (h:AQ W g 217 [y0,y1,y2,y3,y4,y5]):(loadVar 217 ⟨g,0,none⟩).run prog W= .ok (.agg #[y0,y1,y2,y3,y4,y5]) W:=
 run_loadVar_row W g 217 217 #[y0,y1,y2,y3,y4,y5] (0,0) _ h underlying217 rfl (by kernel_rfl)
theorem ADG (w:World): ∀r∈Dn.take 30,Calls prog 145 #[.int .u8 (r.op:Nat)] w fun e w'=>Below w.heap.size w w'∧e= .returned (.tuple #[.agg (opC r),.bool true]):=by
 simp only [Dn,List.drop_succ_cons,List.drop_zero,List.take_succ_cons,List.take_zero]
 iterate 30
  refine List.forall_mem_cons.2 ⟨?_,?_⟩
  ·simp only [Int.cast_ofNat_Int]
   go_enter func145,ntmps145
   go_wp2_with fail
   exact bodyPost_ret (Er rfl rfl rfl (NQ (AQ.new w 217 [_,_,_,_,_,_]))) rfl ⟨(Below.refl _ _).alloc (Nat.le_refl _) _,rfl⟩
 exact fun _ h=>by cases h
end
section
attribute [local irreducible] Aq
set_option maxHeartbeats 40000000
theorem ADH (w:World): ∀r∈(Dn.drop 30).take 30,Calls prog 145 #[.int .u8 (r.op:Nat)] w fun e w'=>Below w.heap.size w w'∧e= .returned (.tuple #[.agg (opC r),.bool true]):=by
 simp only [Dn,List.drop_succ_cons,List.drop_zero,List.take_succ_cons,List.take_zero]
 iterate 30
  refine List.forall_mem_cons.2 ⟨?_,?_⟩
  ·simp only [Int.cast_ofNat_Int]
   go_enter func145,ntmps145
   go_wp2_with fail
   exact bodyPost_ret (Er rfl rfl rfl (NQ (AQ.new w 217 [_,_,_,_,_,_]))) rfl ⟨(Below.refl _ _).alloc (Nat.le_refl _) _,rfl⟩
 exact fun _ h=>by cases h
end
section
attribute [local irreducible] Aq
set_option maxHeartbeats 40000000
theorem ADI (w:World): ∀r∈Dn.drop 60,Calls prog 145 #[.int .u8 (r.op:Nat)] w fun e w'=>Below w.heap.size w w'∧e= .returned (.tuple #[.agg (opC r),.bool true]):=by
 simp only [Dn,List.drop_succ_cons,List.drop_zero,List.take_succ_cons,List.take_zero]
 iterate 30
  refine List.forall_mem_cons.2 ⟨?_,?_⟩
  ·simp only [Int.cast_ofNat_Int]
   go_enter func145,ntmps145
   go_wp2_with fail
   exact bodyPost_ret (Er rfl rfl rfl (NQ (AQ.new w 217 [_,_,_,_,_,_]))) rfl ⟨(Below.refl _ _).alloc (Nat.le_refl _) _,rfl⟩
 exact fun _ h=>by cases h
end
section
attribute [local irreducible] Aq
set_option maxHeartbeats 4000000
theorem tV (w:World): ∀r∈Dn,Calls prog 145 #[.int .u8 (r.op:Nat)] w fun e w'=>Below w.heap.size w w'∧e= .returned (.tuple #[.agg (opC r),.bool true]):=by
 intro r hr
 rw [←List.take_append_drop 30 Dn,←List.take_append_drop 30 (Dn.drop 30),List.drop_drop] at hr
 rcases List.mem_append.1 hr with h | h
 ·exact ADG w r h
 rcases List.mem_append.1 h with h | h
 ·exact ADH w r h
 ·exact ADI w r h
theorem mM: ∀ {n:Nat},Aq n=none→ ∀r∈Dn,((n:Int)==(r.op:Int))=false:=by
 intro n h r hr
 have:=List.find?_eq_none.1 (by unfold Aq at h;exact h) r hr
 rw [beq_eq_false_iff_ne]
 simp at this
 omega
theorem mO (op:Nat) (w:World) (hn:Aq op=none):Calls prog 145 #[.int .u8 op] w fun e w'=>Below w.heap.size w w'∧e= .returned (.tuple #[.agg gQ,.bool false]):=by
 have hno:=mM hn
 clear hn
 simp only [Dn,List.forall_mem_cons] at hno
 obtain⟨d0,d1,d2,d3,d4,d5,d6,d7,d8,d9,d10,d11,d12,d13,d14,d15,d16,d17,d18,d19,d20,d21,d22,d23,d24,d25,d26,d27,d28,d29,d30,d31,d32,d33,d34,d35,d36,d37,d38,d39,d40,d41,d42,d43,d44,d45,d46,d47,d48,d49,d50,d51,d52,d53,d54,d55,d56,d57,d58,d59,d60,d61,d62,d63,d64,d65,d66,d67,d68,d69,d70,d71,d72,d73,d74,d75,d76,d77,d78,d79,d80,d81,d82,d83,d84,d85,d86,d87,d88,d89,_⟩:=hno
 go_enter func145,ntmps145
 go_wp2_with fail
 exact bodyPost_ret (Er rfl rfl rfl (NQ (AQ.new w 217 gQ.toList))) rfl ⟨(Below.refl _ _).alloc (Nat.le_refl _) _,rfl⟩
theorem WC (op:Nat) (w:World) (hop:op<256):Calls prog 145 #[.int .u8 op] w fun e w'=>Below w.heap.size w w'∧e= .returned (En op):=by
 cases hr:Aq op with
 | none=>
  have ha:En op= .tuple #[.agg gQ,.bool false]:=by unfold En;rw [hr]
  rw [ha]
  exact mO op w hr
 | some r=>
  have ha:En op= .tuple #[.agg (opC r),.bool true]:=by unfold En;rw [hr]
  obtain⟨hm,rfl⟩:=JI hr
  rw [ha]
  exact tV w r hm
end
section
attribute [local irreducible] Aq
def Ij (op:Nat):Int:=match Aq op with
 | none=> -1
 | some r=>r.takes
theorem U8 (op:Nat) (hop:op<256) (w:World):Calls prog 179 #[.int .u8 op] w fun e w'=>Below w.heap.size w w'∧e= .returned (.int .i8 (Ij op)):=by
 go_enter func179,ntmps179
 go_wp2_with fail
 refine(WC op _ hop).mono ?_
 rintro e w1 ⟨hb,rfl⟩
 have H1:=AA hb;clear hb
 cases hr:Aq op with
 | none=>
  have ha:En op= .tuple #[.agg gQ,.bool false]:=by unfold En;rw [hr]
  have HX:Hid (Ij op= -1):=AA (by unfold Ij;rw [hr])
  rw [ha]
  unfold gQ
  clear ha hr
  go_wp2_with fail
  go_ret
  exact⟨H1.out.alloc H1.out.size _,by rw [HX.out];rfl⟩
 | some r=>
  have ha:En op= .tuple #[.agg (opC r),.bool true]:=by unfold En;rw [hr]
  have HX:Hid (Ij op=r.takes):=AA (by unfold Ij;rw [hr])
  rw [ha]
  unfold opC
  clear ha hr
  go_wp2_with fail
  go_ret
  exact⟨H1.out.alloc H1.out.size _,by rw [HX.out];rfl⟩
theorem YD (cs:List Value) (hi:Nat) (x:Ad) (w:World) (h:Ei.R w 0 hi cs x) (hhi:hi≤w.heap.size):
 Calls prog 144 #[.agg cs.toArray] w fun e w'=>Below w.heap.size w w'∧ ∃A c,e= .returned (.tuple #[.slice A (CQ x).length c,.int .i64 (Ar x)])∧w'.ownsRow w.heap.size 5 1 (.slice A (CQ x).length c) (CQ x).length ((CQ x).map bv):=by
 have Hh:=AA h
 obtain⟨Y_,rfl,Oc,KQ⟩:=DL.1 h
 obtain⟨Ga,GJ,rfl⟩:=AB KQ
 have lJ:=AA KQ;have zl:=AA Oc
 clear h KQ Oc
 unfold bv at Hh⊢
 go_enter func144,ntmps144
 go_wp2_with fail
 generalize hw:w.alloc _=w1
 have H1:Hid (Below w.heap.size w w1):=by rw [←hw];exact AA ((Below.refl _ _).alloc (Nat.le_refl _) _)
 have Hb1:Hid (AQ w1 w.heap.size 122 [.int .u8 (x.op.toNat:Int),.int .i64 x.a,.slice Ga x.l.length GJ]):=by rw [←hw];exact AA (AQ.new w 122 [.int .u8 (x.op.toNat:Int),.int .i64 x.a,.slice Ga x.l.length GJ])
 clear hw
 refine(Sl [.int .u8 (x.op.toNat:Int),.int .i64 x.a,.slice Ga x.l.length GJ] hi x w1 (Rd.below Hh.out H1.out hhi) (Nat.le_trans hhi H1.out.size) (fun op W h=>WC op W h)).mono ?_
 rintro e w2 ⟨hbe,rfl⟩
 have Hb2:=AA (Hb1.out.below hbe Hb1.out.lt)
 have H2:=AA (H1.out.trans (hbe.mono H1.out.size))
 clear hbe Hb1 H1
 by_cases h0:Ar x=0
 case neg=>
  have HO:Hid (CQ x= []):=AA (by unfold CQ;rw [if_neg h0])
  have hne:(Ar x !=0)=true:=by simpa using h0
  clear h0
  go_wp2_with fail
  go_ret2
  refine⟨H2.out,none,0,?_,?_⟩
  ·rw [HO.out];rfl
  ·rw [HO.out];exact World.ownsRow_nil _ _ _ _
 obtain⟨r,hr⟩:=Qw h0
 have HZ:=AA (Qv h0 hr)
 have HO:Hid (CQ x=x.op::(if r.takes=0 then [] else if r.takes=8 then enc (folded x.a) else if r.takes=3 then enc x.l.length++x.l.flatMap (fun n=>enc n.toNat) else enc x.a.toNat)):=AA (by unfold CQ;rw [if_pos h0,cK hr])
 have Hr:=AA hr
 have H0:=AA h0
 rw [h0]
 have hc0:=Hb2.out.q 0 rfl
 have hsz:w.heap.size<w2.heap.size:=Hb2.out.lt
 clear hr h0
 go_wp2_with fail
 generalize hw:w2.alloc _=w3
 have H3:Hid (Below w.heap.size w w3):=by rw [←hw];exact AA (H2.out.alloc (by omega) _)
 have Hb3:Hid (AQ w3 w.heap.size 122 [.int .u8 (x.op.toNat:Int),.int .i64 x.a,.slice Ga x.l.length GJ]):=by rw [←hw];exact AA (Hb2.out.alloc _)
 have Nt:Hid (AQ w3 w2.heap.size 5 [bv x.op]):=by rw [←hw];exact AA (AQ.new w2 5 [bv x.op])
 clear hw hc0 H2 Hb2
 have hc0:=Hb3.out.q 0 rfl
 refine(U8 x.op.toNat (UInt8.toNat_lt x.op) w3).mono ?_
 rintro e w5 ⟨hbe,rfl⟩
 have H5:=AA (H3.out.trans (hbe.mono H3.out.size));have Hb5:=AA (Hb3.out.below hbe Hb3.out.lt);have Qr:=AA (Nt.out.below hbe Nt.out.lt)
 clear hbe H3 Hb3 Nt hc0
 have ha:Ij x.op.toNat=r.takes:=by unfold Ij;rw [Hr.out]
 rw [ha]
 clear ha
 go_upto_block 0 with fail
 have mK:=AA (YB (base:=w.heap.size+1) Qr.out (by omega))
 have hsz5:w.heap.size≤w5.heap.size:=H5.out.size
 have mP:w.heap.size+1≤w5.heap.size:=Hb5.out.lt
 clear Qr
 go_cut [5] (fun b wx=> ∃A c,b= .slice A (CQ x).length c∧wx.ownsRow w.heap.size 5 1 (.slice A (CQ x).length c) (CQ x).length ((CQ x).map bv)∧Below w.heap.size w wx)
 case first=>
  have hy1:=Hb5.out.q 1 rfl
  have hy2:=Hb5.out.q 2 rfl
  rcases Rh r (JI Hr.out).1 with h | h | h | h | h | h | h | h | h | h
  case inl=>
   have HQ:Hid (CQ x= [x.op]):=AA (by rw [HO.out,if_pos h])
   have d0:(r.takes==0)=_:=congrArg (· ==(0:Int)) h;have d1:(r.takes==1)=_:=congrArg (· ==(1:Int)) h;have d2:(r.takes==2)=_:=congrArg (· ==(2:Int)) h;have d3:(r.takes==3)=_:=congrArg (· ==(3:Int)) h;have d4:(r.takes==4)=_:=congrArg (· ==(4:Int)) h;have d5:(r.takes==5)=_:=congrArg (· ==(5:Int)) h;have d6:(r.takes==6)=_:=congrArg (· ==(6:Int)) h;have d7:(r.takes==7)=_:=congrArg (· ==(7:Int)) h;have d8:(r.takes==8)=_:=congrArg (· ==(8:Int)) h;have d9:(r.takes==9)=_:=congrArg (· ==(9:Int)) h;have Hh:=AA h;clear h
   go_wp2_with fail
   go_meet
   rw [HQ.out]
   exact⟨_,_,rfl,World.ownsRow.mono mK.out (Nat.le_succ _),H5.out⟩
  case inr.inr.inr.inr.inr.inr.inr.inr.inl=>
   have HQ:Hid (CQ x= [x.op]++enc (folded x.a)):=AA (by rw [HO.out,if_neg (by omega),if_pos h];rfl)
   have d0:(r.takes==0)=_:=congrArg (· ==(0:Int)) h;have d1:(r.takes==1)=_:=congrArg (· ==(1:Int)) h;have d2:(r.takes==2)=_:=congrArg (· ==(2:Int)) h;have d3:(r.takes==3)=_:=congrArg (· ==(3:Int)) h;have d4:(r.takes==4)=_:=congrArg (· ==(4:Int)) h;have d5:(r.takes==5)=_:=congrArg (· ==(5:Int)) h;have d6:(r.takes==6)=_:=congrArg (· ==(6:Int)) h;have d7:(r.takes==7)=_:=congrArg (· ==(7:Int)) h;have d8:(r.takes==8)=_:=congrArg (· ==(8:Int)) h;have d9:(r.takes==9)=_:=congrArg (· ==(9:Int)) h;have Hh:=AA h;clear h
   have hA:=zl.out
   have Me:=AA (AU (folded x.a) (IK _ hA.1 hA.2))
   go_wp2_with (first
    | (go_at_call 142;refine(Xi x.a hA.1 hA.2 _).mono ?_;rintro e w6 ⟨A6,c6,rfl,h2,h3⟩;have Iw:=AA (Row.own h2);have gV:=AA (Ch mK.out h3);have H6:=AA (H5.out.trans (h3.mono hsz5));have Z0:w.heap.size+1≤w6.heap.size:=Nat.le_trans mP h3.size;clear h2 h3)
    | (at_builtin;refine Eo _ rfl (.tmp 28) (.tmp 31) rfl (w.heap.size+1) (some ⟨w2.heap.size,0,none⟩) 1 1 [bv x.op] rfl gV.out _ A6 (enc (folded x.a)).length c6 ((enc (folded x.a)).map bv) rfl (by rw [List.length_map]) Iw.out (Ew _) (by have:=Me.out;omega) Z0 ?_;intro A7 c7 w7 h2 _ h3;have cZ:=AA h2;have H7:=AA (H6.out.trans (h3.mono (Nat.le_succ _)));clear h2 h3))
   go_meet
   rw [HQ.out]
   refine⟨A7,c7,by rw [List.length_append];rfl,?_,H7.out⟩
   rw [List.length_append,List.map_append]
   exact World.ownsRow.mono cZ.out (Nat.le_succ _)
  case inr.inr.inr.inl=>
   have d0:(r.takes==0)=_:=congrArg (· ==(0:Int)) h;have d1:(r.takes==1)=_:=congrArg (· ==(1:Int)) h;have d2:(r.takes==2)=_:=congrArg (· ==(2:Int)) h;have d3:(r.takes==3)=_:=congrArg (· ==(3:Int)) h;have d4:(r.takes==4)=_:=congrArg (· ==(4:Int)) h;have d5:(r.takes==5)=_:=congrArg (· ==(5:Int)) h;have d6:(r.takes==6)=_:=congrArg (· ==(6:Int)) h;have d7:(r.takes==7)=_:=congrArg (· ==(7:Int)) h;have d8:(r.takes==8)=_:=congrArg (· ==(8:Int)) h;have d9:(r.takes==9)=_:=congrArg (· ==(9:Int)) h;have Hh:=AA h;clear h
   have HQ:Hid (CQ x= [x.op]++(enc x.l.length++x.l.flatMap (fun n=>enc n.toNat))):=AA (by rw [HO.out,if_neg (by have:=Hh.out;omega),if_neg (by have:=Hh.out;omega),if_pos Hh.out];rfl)
   have hz:=HZ.out.2.2 Hh.out
   have HL:=AA hz
   have hl16:=hz.1
   have Me:=AA (AU x.l.length (by omega))
   have hwr:IntKind.u64.wrap (x.l.length:Int)=(x.l.length:Int):=by rw [IntKind.wrap_u64];omega
   clear hz
   go_wp2_with (first
    | (go_at_call 76;refine(Jh x.l.length (by omega) _).mono ?_;rintro e w6 ⟨A6,c6,rfl,h2,h3⟩;have Iw:=AA (Row.own h2);have gV:=AA (Ch mK.out h3);have H6:=AA (H5.out.trans (h3.mono hsz5));have Z0:w.heap.size+1≤w6.heap.size:=Nat.le_trans mP h3.size;have hz2:=(Hb5.out.below h3 Hb5.out.lt);have Ue:=AA hz2;have hy6:=Ue.out.cell 2;clear h2 h3 hz2)
    | (at_builtin;refine Eo _ rfl (.tmp 35) (.tmp 40) rfl (w.heap.size+1) (some ⟨w2.heap.size,0,none⟩) 1 1 [bv x.op] rfl gV.out _ A6 (enc x.l.length).length c6 ((enc x.l.length).map bv) rfl (by rw [List.length_map]) Iw.out (Ew _) (by have:=Me.out;omega) Z0 ?_;intro A7 c7 w7 h2 hg7 h3;have cZ:=AA h2;have H7:=AA (H6.out.trans (h3.mono (Nat.le_succ _)));have Hb7:=AA (AQ.below Ue.out h3 (Nat.lt_succ_self _));have hsz7:w.heap.size+1≤w7.heap.size:=Nat.le_trans Z0 h3.size;clear h2 h3 hg7;have hy7:w7.cell? ⟨w.heap.size,2,none⟩=some (.slice Ga x.l.length GJ):=Hb7.out.cell 2))
   clear Hb5 Ue mK gV hy1 hy2 hy6 H5 H6 Iw
   have HS:Hid (w7.ownsRow (w.heap.size+1) 5 1 (.slice A7 ([x.op]++(enc x.l.length++(x.l.take 0).flatMap (fun n=>enc n.toNat))).length c7) ([x.op]++(enc x.l.length++(x.l.take 0).flatMap (fun n=>enc n.toNat))).length (([x.op]++(enc x.l.length++(x.l.take 0).flatMap (fun n=>enc n.toNat))).map bv)):=AA (by
    have h:=cZ.out
    rw [List.take_zero,List.flatMap_nil,List.append_nil,List.length_append,List.map_append]
    exact h)
   have YC:Hid (1+(enc x.l.length).length=([x.op]++(enc x.l.length++(x.l.take 0).flatMap (fun n=>enc n.toNat))).length):=AA (by rw [List.take_zero,List.flatMap_nil,List.append_nil,List.length_append];rfl)
   go_loopw [5,6] (fun b i wr=> ∃(k:Nat) (A:Option Addr) (c:Nat),k≤x.l.length∧i= .int .i64 k∧b= .slice A ([x.op]++(enc x.l.length++(x.l.take k).flatMap (fun n=>enc n.toNat))).length c∧Below w.heap.size w wr∧AQ wr w.heap.size 122 [.int .u8 (x.op.toNat:Int),.int .i64 x.a,.slice Ga x.l.length GJ]∧
    wr.ownsRow (w.heap.size+1) 5 1 (.slice A ([x.op]++(enc x.l.length++(x.l.take k).flatMap (fun n=>enc n.toNat))).length c) ([x.op]++(enc x.l.length++(x.l.take k).flatMap (fun n=>enc n.toNat))).length (([x.op]++(enc x.l.length++(x.l.take k).flatMap (fun n=>enc n.toNat))).map bv))
    (fun _ i _=>x.l.length-(intOf i).toNat)
   case atStart=>exact⟨0,A7,c7,Nat.zero_le _,rfl,by rw [←YC.out],H7.out,Hb7.out,HS.out⟩
   case round=>
    obtain⟨k,A,c,hk,rfl,rfl,hb,hbx,ho⟩:=hrel
    have Gn:=AA hbx;have hx2:=hbx.q 2 rfl;have ADK:w.heap.size+1≤wr.heap.size:=hbx.lt;clear hbx
    have HB:=AA hb;have HOk:=AA ho
    clear hb ho
    by_cases hlt:k<x.l.length
    ·obtain⟨y,hy⟩: ∃y,x.l[k]?=some y:=⟨_,List.getElem?_eq_getElem hlt⟩
     have hlk:=Rd.below lJ.out HB.out hhi
     obtain⟨b,o,rfl,_,_,cs,hcs,hrd⟩:=DC hlk hy
     obtain⟨rfl,AAD⟩:=hrd
     have hc0:wr.cell? ⟨b,o+k,none⟩=some (.int .i64 y):=by
      have:=hcs 0 _ rfl
      rwa [show Rd.i64.z=1 from rfl,Nat.mul_one,Nat.add_zero] at this
     have hi0:(0:Int)≤k:=by omega
     have hyb:=HL.out.2 y (List.mem_of_getElem? hy)
     obtain⟨n,hn⟩:=Int.eq_ofNat_of_zero_le hyb.1
     have Hn:Hid (y.toNat=n∧n<18446744073709551616):=AA ⟨by omega,by omega⟩
     have hwy:IntKind.u64.wrap y=y:=by rw [IntKind.wrap_u64];omega
     have hcl:=Jh n (by omega)
     rw [←hn] at hcl
     have Tc:=AA hcl
     have HFn:=AA (AU n (by omega))
     have ZE:Hid ([x.op]++(enc x.l.length++(x.l.take k).flatMap (fun n=>enc n.toNat))++enc n= [x.op]++(enc x.l.length++(x.l.take (k+1)).flatMap (fun n=>enc n.toNat))):=AA (by
      rw [EN (f:=fun n:Int=>enc n.toNat) hy,show y.toNat=n from by omega];simp only [List.append_assoc])
     have Sg:Hid (([x.op]++(enc x.l.length++(x.l.take k).flatMap (fun n=>enc n.toNat))).length≤1000):=AA (by
      have h1:=Oy (f:=fun n:Int=>enc n.toNat) (c:=10) (l:=x.l.take k) (fun n hn=>by
       have:=HL.out.2 n (List.mem_of_mem_take hn)
       exact AU _ (by omega))
      have h2:(x.l.take k).length≤16:=by rw [List.length_take];omega
      have:=Me.out
      rw [List.length_append,List.length_append]
      simp only [List.length_cons,List.length_nil]
      omega)
     clear hn hyb hcl hcs hlk hy
     generalize ([x.op]++(enc x.l.length++(x.l.take k).flatMap (fun n=>enc n.toNat)))=LK at*
     go_wp2_with (first
      | (go_at_call 76;refine(Tc.out _).mono ?_;rintro e w8 ⟨A8,c8,rfl,h2,h3⟩;have yK:=AA (Row.own h2);have HO8:=AA (Ch HOk.out h3);have H8:=AA (HB.out.trans (h3.mono HB.out.size));have HBX8:=AA (Gn.out.below h3 Gn.out.lt);have hsz8:w.heap.size+1≤w8.heap.size:=Nat.le_trans ADK h3.size;clear h2 h3)
      | (at_builtin;refine Eo _ rfl (.tmp 49) (.tmp 56) rfl (w.heap.size+1) A LK.length c (LK.map bv) rfl HO8.out _ A8 (enc n).length c8 ((enc n).map bv) rfl (by rw [List.length_map]) yK.out (Ew _) (by have:=HFn.out;have:=Sg.out;omega) hsz8 ?_;intro A9 c9 w9 h2 _ h3;have HO9:=AA h2;have H9:=AA (H8.out.trans (h3.mono (Nat.le_succ _)));have HBX9:=AA (AQ.below HBX8.out h3 (Nat.lt_succ_self _));clear h2 h3))
     refine⟨⟨k+1,A9,c9,by omega,by go_num,by rw [←ZE.out,List.length_append],H9.out,HBX9.out,?_⟩,by simp [intOf];omega⟩
     rw [←ZE.out,List.length_append,List.map_append]
     exact HO9.out
    ·obtain rfl:k=x.l.length:=by omega
     go_wp2_with fail
     go_meet
     have hq:=HQ.out
     rw [←List.take_length (l:=x.l)] at hq
     rw [List.length_take,Nat.min_self] at hq
     rw [hq]
     exact⟨A,c,rfl,World.ownsRow.mono HOk.out (Nat.le_succ _),HB.out⟩
  all_goals
   have HQ:Hid (CQ x= [x.op]++enc x.a.toNat):=AA (by rw [HO.out,if_neg (by omega),if_neg (by omega),if_neg (by omega)];rfl)
   have hb0:0≤x.a∧x.a≤4294967295:=by
    have hz:=HZ.out
    unfold BO at hz
    simp [h] at hz
    omega
   obtain⟨n,hn⟩:=Int.eq_ofNat_of_zero_le hb0.1
   have Hn:Hid (x.a=(n:Int)∧x.a.toNat=n∧n<18446744073709551616):=AA ⟨hn,by omega,by omega⟩
   have Me:=AA (AU n (by omega))
   have hwr:IntKind.u64.wrap x.a=x.a:=by rw [IntKind.wrap_u64];omega
   have hcl:=Jh n (by omega)
   rw [←hn] at hcl
   have Tc:=AA hcl
   clear hn hb0 hcl
   have d0:(r.takes==0)=_:=congrArg (· ==(0:Int)) h;have d1:(r.takes==1)=_:=congrArg (· ==(1:Int)) h;have d2:(r.takes==2)=_:=congrArg (· ==(2:Int)) h;have d3:(r.takes==3)=_:=congrArg (· ==(3:Int)) h;have d4:(r.takes==4)=_:=congrArg (· ==(4:Int)) h;have d5:(r.takes==5)=_:=congrArg (· ==(5:Int)) h;have d6:(r.takes==6)=_:=congrArg (· ==(6:Int)) h;have d7:(r.takes==7)=_:=congrArg (· ==(7:Int)) h;have d8:(r.takes==8)=_:=congrArg (· ==(8:Int)) h;have d9:(r.takes==9)=_:=congrArg (· ==(9:Int)) h;have Hh:=AA h;clear h
   go_wp2_with (first
    | (go_at_call 76;refine(Tc.out _).mono ?_;rintro e w6 ⟨A6,c6,rfl,h2,h3⟩;have Iw:=AA (Row.own h2);have gV:=AA (Ch mK.out h3);have H6:=AA (H5.out.trans (h3.mono hsz5));have Z0:w.heap.size+1≤w6.heap.size:=Nat.le_trans mP h3.size;clear h2 h3)
    | (at_builtin;refine Eo _ rfl (.tmp 18) (.tmp 22) rfl (w.heap.size+1) (some ⟨w2.heap.size,0,none⟩) 1 1 [bv x.op] rfl gV.out _ A6 (enc n).length c6 ((enc n).map bv) rfl (by rw [List.length_map]) Iw.out (Ew _) (by have:=Me.out;omega) Z0 ?_;intro A7 c7 w7 h2 _ h3;have cZ:=AA h2;have H7:=AA (H6.out.trans (h3.mono (Nat.le_succ _)));clear h2 h3))
   go_meet
   rw [HQ.out,Hn.out.2.1]
   refine⟨A7,c7,by rw [List.length_append];rfl,?_,H7.out⟩
   rw [List.length_append,List.map_append]
   exact World.ownsRow.mono cZ.out (Nat.le_succ _)
 case rest=>
  obtain⟨A,c,rfl,ho,hb⟩:=hcut
  have HOx:=AA ho;have Hbx:=AA hb
  clear ho hb
  go_wp2_with fail
  go_ret2
  exact⟨Hbx.out,A,c,by rw [H0.out];rfl,HOx.out⟩
end
theorem OP (s:ByteArray) (k:Nat) (hk:k≤256) (hs:s.size≤140737488351232) (w:World):
 Calls prog 173 #[.string s,.int .i64 (k:Int)] w fun e w'=>w=w'∧e= .returned (.int .i64 (CK s k)):=by
 have hsz:s.data.toList.length=s.size:=by simp
 by_cases hle:s.size≤k
 ·have hd:decide (k<s.size)=false:=decide_eq_false (by omega)
  have hdi:decide ((k:Int)<(s.size:Int))=false:=decide_eq_false (by omega)
  have hl:Nh k s.data.toList=ZR s:=by
   unfold ZR Nh
   rw [decide_eq_true (by omega),decide_eq_true (by omega)]
  cases hb:ZR s with
  | true=>
   have HE:Hid (CK s k=0):=AA (by unfold CK;rw [BX (decide_eq_true (by omega)),BX hb];rfl)
   have HL:Hid (∀W,Calls prog 194 #[.string s,.int .i64 k] W fun e w'=>W=w'∧e= .returned (.bool true)):=AA (fun W=>by have:=Qj s k hs W;rw [hl,hb] at this;exact this)
   clear hb hl hsz hle
   go_enter func173,ntmps173
   go_wp2_with fail
   refine(HL.out w).mono ?_
   rintro e w' ⟨rfl,rfl⟩
   go_wp2_with fail
   go_ret
   exact⟨rfl,by rw [HE.out];rfl⟩
  | false=>
   have HE:Hid (CK s k=15):=AA (by unfold CK;rw [BX (decide_eq_true (by omega)),CJ hb];rfl)
   have HL:Hid (∀W,Calls prog 194 #[.string s,.int .i64 k] W fun e w'=>W=w'∧e= .returned (.bool false)):=AA (fun W=>by have:=Qj s k hs W;rw [hl,hb] at this;exact this)
   clear hb hl hsz hle
   go_enter func173,ntmps173
   go_wp2_with fail
   refine(HL.out w).mono ?_
   rintro e w' ⟨rfl,rfl⟩
   go_wp2_with fail
   go_ret
   exact⟨rfl,by rw [HE.out];rfl⟩
 ·have hd:decide (k<s.size)=true:=decide_eq_true (by omega)
  have hdi:decide ((k:Int)<(s.size:Int))=true:=decide_eq_true (by omega)
  have HE:Hid (CK s k=13):=AA (by unfold CK;rw [CJ (decide_eq_false (by omega))];rfl)
  clear hsz hle
  go_enter func173,ntmps173
  go_wp2_with fail
  go_ret
  exact⟨rfl,by rw [HE.out];rfl⟩
theorem QK {w w1:World} {v1 v2 v3 v4 v5 v6:Value} {a b:Int} (h:w.alloc (.cells #[v1,v2,v3,.int .i64 a,.int .i64 b,v4,v5,v6] 29)=w1):Below w.heap.size w w1∧AQ w1 w.heap.size 29 [v1,v2,v3,.int .i64 a,.int .i64 b,v4,v5,v6]:=by
 have hb:=AQ.new w 29 [v1,v2,v3,.int .i64 a,.int .i64 b,v4,v5,v6]
 change AQ (w.alloc (.cells #[v1,v2,v3,.int .i64 a,.int .i64 b,v4,v5,v6] 29)) _ _ _ at hb
 rw [h] at hb
 exact⟨by rw [←h];exact(Below.refl _ _).alloc (Nat.le_refl _) _,hb⟩
theorem yL {W:World} {lo hi:Nat} {A:Option Addr} {n c:Nat} {xs:List Int} (h:(Rd.i64.sl false).R W lo hi [.slice A n c] xs) {k:Nat} {t:Int} (hk:xs[k]?=some t): ∃b o,A=some ⟨b,o,none⟩∧b<hi∧W.cell? ⟨b,o+k,none⟩=some (.int .i64 t)∧Rd.G8 t:=by
 obtain⟨b,o,e,_,hb,cs,hc,hr⟩:=DC h hk
 obtain⟨rfl,h6⟩:=hr
 exact⟨b,o,e,hb,by have:=hc 0 _ rfl;simpa [Rd.i64,Rd.one] using this,h6⟩
def cu (l:List Cg) (x:Cg) (n:Nat):Prop:= ∀(j:Nat) (y:Cg),j<n→l[j]?=some y→y≠x
theorem cu.next {l:List Cg} {x y:Cg} {n:Nat} (h:cu l x n) (hy:l[n]?=some y) (hne:y≠x):cu l x (n+1):=fun j z hj hz=>by
 by_cases e:j=n
 ·subst e;rw [hy] at hz;injection hz with hz;subst hz;exact hne
 ·exact h j z (by omega) hz
def Lr (n:Nat) (f:Nat→Int) (k:Nat):Prop:=k≤n∧Aa k f=0
theorem Lr.hit {n:Nat} {f:Nat→Int} {k:Nat} (h:Lr n f k) (hk:k<n) (he:f k≠0):Aa n f=f k:=Dc h.2 he n hk
theorem Lr.step {n:Nat} {f:Nat→Int} {k:Nat} (h:Lr n f k) (hk:k<n) (he:f k=0):Lr n f (k+1):=⟨hk,Cc h.2 he⟩
theorem UY (cs:List Value) (hi:Nat) (m:AP) (w:World) (h:DJ.R w 0 hi cs m) (hhi:hi≤w.heap.size):
 Calls prog 136 #[.agg cs.toArray] w fun e w'=>Below w.heap.size w w'∧e= .returned (.int .i64 (Cq (Dl m) (Dv m))):=by
 obtain⟨v1,v2,v3,v4,v5,v6,rfl,h0,h1,_⟩:=Am.1 h
 obtain⟨A0,c0,rfl⟩:=AB h0
 obtain⟨A1,c1,rfl⟩:=AB h1
 have H0:=AA h0;have H1:=AA h1;have Bw:=AA hhi
 clear h h0 h1 hhi
 go_enter func136,ntmps136
 go_upto_region 1 with fail
 generalize hw1:w.alloc (.cells #[.slice A0 m.types.length c0,.slice A1 m.hosts.length c1,v3,.int .i64 m.first,.int .i64 m.most,v4,v5,v6] 29)=w1
 obtain⟨hb1,hx1⟩:=QK hw1
 have HB1:=AA hb1;have CX:=AA hx1
 clear hw1 hb1 hx1
 have q0:=CX.out.q 0 rfl
 by_cases hn:m.types.length≤64
 ·have hd:decide (64<m.types.length)=false:=decide_eq_false (by omega)
  have hdi:decide ((64:Int)<(m.types.length:Int))=false:=decide_eq_false (by omega)
  have U9:Hid (Dl m=Aa m.types.length (ZA m.types)):=AA (by unfold Dl;rw [BX (decide_eq_true hn),AY rfl])
  go_wp2_with fail
  go_loopw [3,4,5] (fun i _ _ wr=> ∃k:Nat,i= .int .i64 k∧Lr m.types.length (ZA m.types) k∧Below w1.heap.size w1 wr) (fun i _ _ _=>m.types.length-(intOf i).toNat)
  case atStart=>exact⟨0,rfl,⟨Nat.zero_le _,rfl⟩,Below.refl _ _⟩
  case round=>
   obtain⟨k,rfl,hg,hbr⟩:=hrel
   have HG:=AA hg
   have JG:=AA hbr
   have EP:Hid (Below w.heap.size w wr):=AA (HB1.out.trans (hbr.mono HB1.out.size))
   have Ri:=AA (CX.out.below hbr CX.out.lt)
   have q0:=Ri.out.q 0 rfl
   have q1:=Ri.out.q 1 rfl
   clear hg hbr
   by_cases hlt:k<m.types.length
   ·obtain⟨x,hx⟩: ∃x,m.types[k]?=some x:=⟨_,List.getElem?_eq_getElem hlt⟩
    obtain⟨b,o,eA,_,hbb,d0,d1,sp,sr⟩:=CZ H0.out hx
    subst eA
    have lb:b<w.heap.size:=Nat.lt_of_lt_of_le hbb Bw.out
    have e0:=(EP.out.cell lb (p:=⟨b,o+k*2,none⟩)).trans d0
    have e1:=(EP.out.cell lb (p:=⟨b,o+k*2+1,none⟩)).trans d1
    have hk0:(0:Int)≤k:=by omega
    have hk1:(k:Int)<m.types.length:=by omega
    have HXX:=AA hx
    have L8:Hid (ZA m.types k=Cq (CK x.p 8) (Cq (CK x.r 8) (Ae (!(m.types.take k).any (fun y=>KW y x)) 16))):=AA (by unfold ZA;rw [hx])
    obtain⟨ep,hep⟩: ∃ep,CK x.p 8=ep:=⟨_,rfl⟩
    obtain⟨er,her⟩: ∃er,CK x.r 8=er:=⟨_,rfl⟩
    have HP:Hid (∀W,Calls prog 173 #[.string x.p,.int .i64 8] W fun e w'=>W=w'∧e= .returned (.int .i64 ep)):=AA (fun W=>hep▸OP x.p 8 (by decide) sp W)
    have HR:Hid (∀W,Calls prog 173 #[.string x.r,.int .i64 8] W fun e w'=>W=w'∧e= .returned (.int .i64 er)):=AA (fun W=>her▸OP x.r 8 (by decide) sr W)
    rw [hep,her] at L8
    clear hx d0 d1 sp sr hbb hep her
    by_cases hp0:ep=0
    case neg=>
     have qp:(ep !=0)=true:=by simpa using hp0
     have HE:Hid (Cq (Dl m) (Dv m)=ep):=AA (by
      rw [U9.out,HG.out.hit hlt (by rw [L8.out,Br hp0];exact hp0),L8.out,Br hp0,Br hp0])
     clear hp0
     go_wp2_with fail
     refine(HP.out wr).mono ?_
     rintro e w' ⟨rfl,rfl⟩
     go_wp2_with fail
     go_ret
     exact⟨EP.out,by rw [HE.out];rfl⟩
    subst hp0
    by_cases hr0:er=0
    case neg=>
     have qr:(er !=0)=true:=by simpa using hr0
     have HE:Hid (Cq (Dl m) (Dv m)=er):=AA (by
      rw [U9.out,HG.out.hit hlt (by rw [L8.out,AY rfl,Br hr0];exact hr0),L8.out,AY rfl,Br hr0,Br hr0])
     clear hr0
     go_wp2_with fail
     refine(HP.out wr).mono ?_
     rintro e w' ⟨rfl,rfl⟩
     go_wp2_with fail
     refine(HR.out wr).mono ?_
     rintro e w' ⟨rfl,rfl⟩
     go_wp2_with fail
     go_ret
     exact⟨EP.out,by rw [HE.out];rfl⟩
    subst hr0
    have AAG:=AA (L8.out.trans ((AY rfl).trans (AY rfl)))
    clear L8
    go_wp2_with fail
    refine(HP.out wr).mono ?_
    rintro e w' ⟨rfl,rfl⟩
    go_wp2_with fail
    refine(HR.out wr).mono ?_
    rintro e w' ⟨rfl,rfl⟩
    go_wp2_with fail
    clear q0 q1 e0 e1
    obtain⟨wo,rfl⟩: ∃wo:World,wo=wr:=⟨_,rfl⟩
    go_loopw [5] (fun i wv=> ∃j:Nat,j≤k∧i= .int .i64 j∧cu m.types x j∧Below wo.heap.size wo wv) (fun i _=>k-(intOf i).toNat)
    case atStart=>exact⟨0,Nat.zero_le _,rfl,fun j y hj=>absurd hj (Nat.not_lt_zero _),Below.refl _ _⟩
    case round=>
     obtain⟨j,hj,rfl,hns,hbv⟩:=hrel
     have HNS:=AA hns
     have Z4:=AA hbv
     have F9:Hid (Below w.heap.size w wr):=AA (EP.out.trans (hbv.mono EP.out.size))
     have HXV:=AA (Ri.out.below hbv Ri.out.lt)
     have q0:=HXV.out.q 0 rfl
     have Sm:Hid (Below w1.heap.size w1 wr):=AA (JG.out.trans (hbv.mono JG.out.size))
     clear hns hbv
     by_cases hjk:j<k
     ·obtain⟨z,hz⟩: ∃z,m.types[j]?=some z:=⟨_,List.getElem?_eq_getElem (by omega)⟩
      obtain⟨b',o',eB,_,_,d0,d1,_,_⟩:=CZ H0.out hz
      injection eB with eB;injection eB with tX tY _
      subst tX tY
      obtain⟨b',o',eB,_,_,d2,d3,_,_⟩:=CZ H0.out HXX.out
      injection eB with eB;injection eB with tX tY _
      subst tX tY
      have e0:=(F9.out.cell lb (p:=⟨b,o+j*2,none⟩)).trans d0
      have e1:=(F9.out.cell lb (p:=⟨b,o+j*2+1,none⟩)).trans d1
      have e2:=(F9.out.cell lb (p:=⟨b,o+k*2,none⟩)).trans d2
      have e3:=(F9.out.cell lb (p:=⟨b,o+k*2+1,none⟩)).trans d3
      have hj0:(0:Int)≤j:=by omega
      have hj1:(j:Int)<m.types.length:=by omega
      have hjk1:(j:Int)<k:=by omega
      have HZ:=AA hz
      clear d0 d1 d2 d3 hz
      by_cases yM:z.p=x.p
      case neg=>
       have hne:=MU yM
       have ZE:=AA (HNS.out.next HZ.out (fun e=>yM (by rw [e])))
       clear yM
       go_wp2_with fail
       go_quiet (fail)
       go_wp2_with fail
       exact⟨⟨j+1,by omega,by go_num,ZE.out,below_drewN Z4.out _⟩,by simp [intOf];omega⟩
      by_cases UZ:z.r=x.r
      case neg=>
       have heq:(z.p.toList==x.p.toList)=true:=by rw [yM];simp
       have hne:=MU UZ
       have ZE:=AA (HNS.out.next HZ.out (fun e=>UZ (by rw [e])))
       clear yM UZ
       go_wp2_with fail
       go_quiet (fail)
       go_wp2_with fail
       exact⟨⟨j+1,by omega,by go_num,ZE.out,below_drewN Z4.out _⟩,by simp [intOf];omega⟩
      have heq:(z.p.toList==x.p.toList)=true:=by rw [yM];simp
      have heq2:(z.r.toList==x.r.toList)=true:=by rw [UZ];simp
      have HE:Hid (Cq (Dl m) (Dv m)=16):=AA (by
       have hzx:z=x:=by cases z;cases x;cases yM;cases UZ;rfl
       have ha:Ae (!(m.types.take k).any (fun y=>KW y x)) 16=16:=by rw [bU (by rw [HZ.out,hzx]) hjk];rfl
       rw [U9.out,HG.out.hit hlt (by rw [AAG.out,ha];decide),AAG.out,ha];rfl)
      clear yM UZ
      go_wp2_with fail
      go_quiet (fail)
      go_wp2_with fail
      go_ret
      exact⟨below_drewN F9.out _,by rw [HE.out];rfl⟩
     ·obtain rfl:k=j:=by omega
      have HT0:Hid (ZA m.types k=0):=AA (by rw [AAG.out,bT HNS.out];rfl)
      go_wp2_with fail
      exact⟨⟨k+1,by go_num,HG.out.step hlt HT0.out,Sm.out⟩,by simp [intOf];omega⟩
   ·have HT0:Hid (Dl m=0):=AA (by
     have:k=m.types.length:=by have:=HG.out.1;omega
     rw [U9.out,←this];exact HG.out.2)
    by_cases hnh:m.hosts.length≤32
    case neg=>
     have hd:decide (32<m.hosts.length)=true:=decide_eq_true (by omega)
     have hdi:decide ((32:Int)<(m.hosts.length:Int))=true:=decide_eq_true (by omega)
     have HE:Hid (Cq (Dl m) (Dv m)=20):=AA (by rw [HT0.out,AY rfl];unfold Dv;rw [CJ (decide_eq_false hnh)];rfl)
     clear hnh
     go_wp2_with fail
     go_ret
     exact⟨EP.out,by rw [HE.out];rfl⟩
    have hd:decide (32<m.hosts.length)=false:=decide_eq_false (by omega)
    have hdi:decide ((32:Int)<(m.hosts.length:Int))=false:=decide_eq_false (by omega)
    have yI:Hid (Cq (Dl m) (Dv m)=Aa m.hosts.length (IE m)):=AA (by rw [HT0.out,AY rfl];unfold Dv;rw [BX (decide_eq_true hnh),AY rfl])
    go_wp2_with fail
    clear q0 q1
    obtain⟨wo,rfl⟩: ∃wo:World,wo=wr:=⟨_,rfl⟩
    go_loopw [6] (fun i wv=> ∃j:Nat,i= .int .i64 j∧Lr m.hosts.length (IE m) j∧Below wo.heap.size wo wv) (fun i _=>m.hosts.length-(intOf i).toNat)
    case atStart=>exact⟨0,rfl,⟨Nat.zero_le _,rfl⟩,Below.refl _ _⟩
    case round=>
     obtain⟨j,rfl,hgh,hbv⟩:=hrel
     have HGH:=AA hgh
     have Z4:=AA hbv
     have F9:Hid (Below w.heap.size w wr):=AA (EP.out.trans (hbv.mono EP.out.size))
     have HXV:=AA (Ri.out.below hbv Ri.out.lt)
     have q0:=HXV.out.q 0 rfl
     have q1:=HXV.out.q 1 rfl
     clear hgh hbv
     by_cases hjl:j<m.hosts.length
     ·obtain⟨t,ht⟩: ∃t,m.hosts[j]?=some t:=⟨_,List.getElem?_eq_getElem hjl⟩
      obtain⟨b,o,eA,hbb,d0,AC3⟩:=yL H1.out ht
      subst eA
      have e0:=(F9.out.cell (Nat.lt_of_lt_of_le hbb Bw.out) (p:=⟨b,o+j,none⟩)).trans d0
      have hj0:(0:Int)≤j:=by omega
      have hj1:(j:Int)<m.hosts.length:=by omega
      have HHT:Hid (IE m j=Ae (decide (0≤t∧t<m.types.length)) 30):=AA (by unfold IE;rw [ht])
      unfold Rd.G8 at AC3
      clear d0 ht
      by_cases h0:t<0
      case pos=>
       have q2:decide (t<0)=true:=decide_eq_true h0
       have HE:Hid (Cq (Dl m) (Dv m)=30):=AA (by
        have ha:IE m j=30:=by rw [HHT.out,CJ (decide_eq_false (by omega))]
        rw [yI.out,HGH.out.hit hjl (by rw [ha];decide),ha])
       clear h0
       go_wp2_with fail
       go_quiet (fail)
       go_wp2_with fail
       go_ret
       exact⟨below_drewN F9.out _,by rw [HE.out];rfl⟩
      have q2:decide (t<0)=false:=decide_eq_false h0
      by_cases h1:(m.types.length:Int)≤t
      case pos=>
       have q3:decide ((m.types.length:Int)≤t)=true:=decide_eq_true h1
       have HE:Hid (Cq (Dl m) (Dv m)=30):=AA (by
        have ha:IE m j=30:=by rw [HHT.out,CJ (decide_eq_false (by omega))]
        rw [yI.out,HGH.out.hit hjl (by rw [ha];decide),ha])
       clear h0 h1
       go_wp2_with fail
       go_quiet (fail)
       go_wp2_with fail
       go_ret
       exact⟨below_drewN F9.out _,by rw [HE.out];rfl⟩
      have q3:decide ((m.types.length:Int)≤t)=false:=decide_eq_false h1
      have HH0:Hid (IE m j=0):=AA (by rw [HHT.out,BX (decide_eq_true (by omega))])
      clear h0 h1
      go_wp2_with fail
      go_quiet (fail)
      go_wp2_with fail
      exact⟨⟨j+1,by go_num,HGH.out.step hjl HH0.out,below_drewN Z4.out _⟩,by simp [intOf];omega⟩
     ·have HE:Hid (Cq (Dl m) (Dv m)=0):=AA (by
       have:j=m.hosts.length:=by have:=HGH.out.1;omega
       rw [yI.out,←this];exact HGH.out.2)
      go_wp2_with fail
      go_ret
      exact⟨F9.out,by rw [HE.out];rfl⟩
 ·have hd:decide (64<m.types.length)=true:=decide_eq_true (by omega)
  have hdi:decide ((64:Int)<(m.types.length:Int))=true:=decide_eq_true (by omega)
  have U9:Hid (Cq (Dl m) (Dv m)=20):=AA (by unfold Dl;rw [CJ (decide_eq_false hn)];rfl)
  clear hn
  go_wp2_with fail
  go_ret
  exact⟨HB1.out,by rw [U9.out];rfl⟩
end Go.Proofs.YtlagonfamllgjaaGreatDoor
