/- Part 11 of the proof: Rof0 InsB -/
import Derived.Test.YtlagonfamllgjaaGreatDoorR10
namespace Go.Proofs.YtlagonfamllgjaaGreatDoor
set_option linter.unusedVariables false
set_option linter.unusedSimpArgs false
set_option maxRecDepth 100000
set_option maxHeartbeats 4000000
open Go.RowKit Tryz
section
attribute [local irreducible] Au
set_option maxHeartbeats 40000000
theorem Mf {W:World} {g:Nat} {y0 y1 y2 y3 y4 y5:Value} (h:AQ W g 217 [y0,y1,y2,y3,y4,y5]):(loadVar 217 ⟨g,0,none⟩).run prog W= .ok (.agg #[y0,y1,y2,y3,y4,y5]) W:=
 run_loadVar_row W g 217 217 #[y0,y1,y2,y3,y4,y5] (0,0) _ h underlying217 rfl (by kernel_rfl)
theorem ACC (w:World): ∀r∈Dk.take 30,Calls prog 145 #[.int .u8 (r.op:Nat)] w fun e w'=>Below w.heap.size w w'∧e= .returned (.tuple #[.agg (opC r),.bool true]):=by
 simp only [Dk,List.drop_succ_cons,List.drop_zero,List.take_succ_cons,List.take_zero]
 iterate 30
  refine List.forall_mem_cons.2 ⟨?_,?_⟩
  ·simp only [Int.cast_ofNat_Int]
   go_enter func145,ntmps145
   go_wp2_with fail
   exact bodyPost_ret (Eb rfl rfl rfl (Mf (AQ.new w 217 [_,_,_,_,_,_]))) rfl ⟨(Below.refl _ _).alloc (Nat.le_refl _) _,rfl⟩
 exact fun _ h=>by cases h
end
theorem Q_: ∀r∈Dk,r.takes=0∨r.takes=1∨r.takes=2∨r.takes=3∨r.takes=4∨r.takes=5∨r.takes=6∨r.takes=7∨r.takes=8∨r.takes=9:=by
 have h:Dk.all (fun r=>decide (r.takes=0∨r.takes=1∨r.takes=2∨r.takes=3∨r.takes=4∨r.takes=5∨r.takes=6∨r.takes=7∨r.takes=8∨r.takes=9))=true:=by kernel_rfl
 exact fun r hr=>of_decide_eq_true (List.all_eq_true.1 h r hr)
theorem Vs (r:Yz) (hm:r∈Dk) (w:World):Calls prog 202 #[.agg (opC r)] w fun e w'=>Below w.heap.size w w'∧e= .returned (.tuple #[.int .i64 (BO r).1,.int .i64 (BO r).2]):=by
 have ht:=Q_ r hm
 clear hm
 obtain⟨op,word,takes,pops,pushes,plain⟩:=r
 unfold opC
 dsimp only at ht⊢
 rcases ht with rfl | rfl | rfl | rfl | rfl | rfl | rfl | rfl | rfl | rfl
 case inr.inr.inr.inr.inr.inr.inr.inr.inl=>
  by_cases hw:word=wconst
  ·subst hw
   unfold wconst
   go_enter func202,ntmps202
   go_wp2_with fail
   go_ret2
   exact⟨(Below.refl _ _).alloc (Nat.le_refl _) _,rfl⟩
  ·have hb:BO ⟨op,word,8,pops,pushes,plain⟩=(-9223372036854775808,9223372036854775807):=by simp [BO,hw]
   rw [hb]
   have hne:(word.toList==wconst.toList)=false:=by
    rw [beq_eq_false_iff_ne]
    intro he
    rw [ByteArray.toList_eq,ByteArray.toList_eq] at he
    exact hw (ByteArray.ext (Array.toList_inj.1 he))
   rw [show wconst.toList= [119,46,99,111,110,115,116] by rw [ByteArray.toList_eq];rfl] at hne
   clear hb hw
   go_enter func202,ntmps202
   go_wp2_with fail
   go_ret2
   exact⟨(Below.refl _ _).alloc (Nat.le_refl _) _,rfl⟩
 all_goals
  go_enter func202,ntmps202
  go_wp2_with fail
  go_ret2
  exact⟨(Below.refl _ _).alloc (Nat.le_refl _) _,rfl⟩
theorem Vt (r:Yz) (hm:r∈Dk) (n:Int) (w:World):Calls prog 196 #[.agg (opC r),.int .i64 n] w fun e w'=>Below w.heap.size w w'∧e= .returned (.bool (decide ((BO r).1≤n∧n≤(BO r).2))):=by
 have HB:=AA (fun W=>Vs r hm W)
 clear hm
 unfold opC at*
 go_enter func196,ntmps196
 go_wp2_with fail
 have H1:Hid (Below w.heap.size w (w.alloc (.cells #[.int .u8 (r.op:Nat),.string r.word,.int .i8 r.takes,.string r.pops,.string r.pushes,.bool r.plain] 236))):=AA ((Below.refl _ _).alloc (Nat.le_refl _) _)
 refine(HB.out _).mono ?_
 rintro e w2 ⟨hbe,rfl⟩
 have H2:=AA (H1.out.trans (hbe.mono H1.out.size))
 clear hbe H1 HB
 obtain⟨a,ha⟩: ∃a,a=(BO r).1:=⟨_,rfl⟩
 obtain⟨b,hb⟩: ∃b,b=(BO r).2:=⟨_,rfl⟩
 have Ha:=AA ha;have Hb:=AA hb
 rw [←ha,←hb]
 clear ha hb
 by_cases h1:a≤n
 ·have d1:decide (n≥a)=true:=decide_eq_true h1
  by_cases h2:n≤b
  ·have d2:decide (n≤b)=true:=decide_eq_true h2
   have D3:Hid (decide (a≤n∧n≤b)=true):=AA (decide_eq_true ⟨h1,h2⟩)
   go_wp2_with fail
   go_ret
   exact⟨H2.out,by rw [←Ha.out,←Hb.out,D3.out];rfl⟩
  ·have d2:decide (n≤b)=false:=decide_eq_false h2
   have D3:Hid (decide (a≤n∧n≤b)=false):=AA (decide_eq_false (fun h=>h2 h.2))
   go_wp2_with fail
   go_ret
   exact⟨H2.out,by rw [←Ha.out,←Hb.out,D3.out];rfl⟩
 ·have d1:decide (n≥a)=false:=decide_eq_false h1
  have D3:Hid (decide (a≤n∧n≤b)=false):=AA (decide_eq_false (fun h=>h1 h.1))
  go_wp2_with fail
  go_ret
  exact⟨H2.out,by rw [←Ha.out,←Hb.out,D3.out];rfl⟩
end Go.Proofs.YtlagonfamllgjaaGreatDoor
