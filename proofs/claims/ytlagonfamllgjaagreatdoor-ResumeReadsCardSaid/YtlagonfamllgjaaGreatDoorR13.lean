/- Part 13 of the proof: Rof1 WireB -/
import Derived.Test.YtlagonfamllgjaaGreatDoorR11
namespace Go.Proofs.YtlagonfamllgjaaGreatDoor
set_option linter.unusedVariables false
set_option linter.unusedSimpArgs false
set_option maxRecDepth 100000
set_option maxHeartbeats 4000000
open Go.RowKit Tryz
section
attribute [local irreducible] Au
set_option maxHeartbeats 40000000
theorem ACD (w:World): ∀r∈(Dk.drop 30).take 30,Calls prog 145 #[.int .u8 (r.op:Nat)] w fun e w'=>Below w.heap.size w w'∧e= .returned (.tuple #[.agg (opC r),.bool true]):=by
 simp only [Dk,List.drop_succ_cons,List.drop_zero,List.take_succ_cons,List.take_zero]
 iterate 30
  refine List.forall_mem_cons.2 ⟨?_,?_⟩
  ·simp only [Int.cast_ofNat_Int]
   go_enter func145,ntmps145
   go_wp2_with fail
   exact bodyPost_ret (Eb rfl rfl rfl (Mf (AQ.new w 217 [_,_,_,_,_,_]))) rfl ⟨(Below.refl _ _).alloc (Nat.le_refl _) _,rfl⟩
 exact fun _ h=>by cases h
end
theorem Wh (A:Option Addr) (n cap B:Nat) (p:Int) (w:World) (l:List UInt8) (hn:n=l.length) (h47:n≤140737488351232) (hr:Row w B A (l.map bv)):
 Calls prog 91 #[.slice A n cap,.int .i64 p] w fun e w'=>w=w'∧e= .returned (.tuple #[.int .u64 (EJ l p).1,.int .i64 (EJ l p).2.1,.int .i64 (EJ l p).2.2]):=by
 have Hr:=Lib.hid hr;clear hr
 have Hn:=Lib.hid hn;clear hn
 by_cases h0:0≤p
 ·obtain⟨q,rfl⟩:=Int.eq_ofNat_of_zero_le h0
  by_cases h1:q≤n
  ·go_enter func91,ntmps91
   go_wp2
   go_loop [7,8,9] (fun v U i=> ∃k x u:Nat,(k≤9∧q+k≤n)∧x<128^k∧Hid (u=128^k)∧i= .int .i64 k∧v= .int .u64 x∧U= .int .u64 u∧IJ (10-k) k x (l.drop (q+k))=IJ 10 0 0 (l.drop q)) (fun _ _ i=>10-(intOf i).toNat)
   case atStart=>exact⟨0,0,1,⟨by omega,by omega⟩,by omega,Lib.hid rfl,rfl,rfl,rfl,rfl⟩
   case round=>
    obtain⟨k,x,u,⟨hk,hqn⟩,hx,Hu,rfl,rfl,rfl,hR⟩:=hrel
    have Hx:=Lib.hid hx;clear hx
    have HR:=Lib.hid hR;clear hR
    have hlt:k<10:=by omega
    ·have mq:10-k=(9-k)+1:=by omega
     have HR2:Hid (IJ ((9-k)+1) k x (l.drop (q+k))=IJ 10 0 0 (l.drop q)):=by rw [←mq];exact HR
     clear mq
     by_cases hend:q+k<n
     ·obtain⟨b,o,rfl,_,hcell⟩:=Hr.out.byte (j:=q+k) (by rw [←Hn.out];exact hend)
      have HR3:Hid (IJ ((9-k)+1) k x ((l[q+k]?.getD 0)::l.drop (q+k+1))=IJ 10 0 0 (l.drop q)):=by
       rw [←drop_at l (q+k) (by rw [←Hn.out];exact hend)];exact HR2
      clear HR2 HR
      have hB:(l[q+k]?.getD 0).toNat<256:=UInt8.toNat_lt _
      generalize l[q+k]?.getD 0=c8 at*
      have HR4:=Lib.hid ((RL _ _ _ _ _).symm.trans HR3.out)
      generalize hc:c8.toNat=c at*
      have Hc:=Lib.hid hc;clear hc HR3
      have hk0:(0:Int)≤q+k:=by omega
      have AAJ:Hid (k=9→c≤1)∨(k=9∧1<c):=by
       by_cases h:k=9∧1<c
       ·exact .inr h
       ·exact .inl (Lib.hid (by omega))
      rcases AAJ with iC | ⟨h9,h1c⟩
      ·have hnot: ¬(k=9∧1<c):=by have:=iC.out;omega
       have HS:Hid ((if c<128 then(if c=0∧0<k then(0,0,12) else(x+c%128*128^k,k+1,0)) else IJ (9-k) (k+1) (x+c%128*128^k) (l.drop (q+k+1)))=IJ 10 0 0 (l.drop q)):=by
        have:=HR4.out;rw [if_neg hnot] at this;exact this
       clear HR4 hnot
       have HA:=Lib.hid (accR x c k u (by omega) hB Hx.out iC.out Hu.out)
       have HL:=Lib.hid (VI x c k Hx.out)
       have TB:(k<9∧((k:Int)==9)=false)∨(((k:Int)==9)=true∧c≤1):=by
        by_cases h:k<9
        ·exact .inl ⟨h,by simp;omega⟩
        ·exact .inr ⟨by simp;omega,iC.out (by omega)⟩
       by_cases h128:c<128
       ·by_cases hc0:c=0∧0<k
        ·obtain⟨rfl,hk1⟩:=hc0
         have HT:Hid ((0,0,12)=IJ 10 0 0 (l.drop q)):=by
          have:=HS.out;rw [if_pos (by omega),if_pos ⟨rfl,hk1⟩] at this;exact this
         clear HS HA HL
         rcases TB with⟨_,aM⟩ | ⟨aM,_⟩<;>
         ·go_wp2
          go_ret3
          rw [Gz l q (by rw [←Hn.out];exact h1) HT.out.symm]
          exact⟨rfl,PK rfl rfl rfl⟩
        ·have HT:Hid ((x+c%128*128^k,k+1,0)=IJ 10 0 0 (l.drop q)):=by
          have:=HS.out;rw [if_pos h128,if_neg hc0] at this;exact this
         have hz:(((c:Int)==0)=true∧ ¬(0:Int)<k)∨((c:Int)==0)=false:=by
          by_cases h:c=0
          ·exact .inl ⟨by simp;omega,by omega⟩
          ·exact .inr (by simp;omega)
         clear HS
         rcases TB with⟨_,aM⟩ | ⟨aM,_⟩<;>rcases hz with⟨hz1,hz2⟩ | hz1<;>
         ·go_wp2
          all_goals
           go_ret3
           rw [Gz l q (by rw [←Hn.out];exact h1) HT.out.symm]
           exact⟨rfl,PK HA.out (by simp;omega) rfl⟩
       ·have HT:Hid (IJ (9-k) (k+1) (x+c%128*128^k) (l.drop (q+k+1))=IJ 10 0 0 (l.drop q)):=by
         have:=HS.out;rw [if_neg h128] at this;exact this
        clear HS
        rcases TB with⟨_,aM⟩ | ⟨aM,h⟩
        ·go_wp2
         refine⟨⟨u4,u5,u6,_,_,_,⟨k+1,⟨by omega,by omega⟩,x+c%128*128^k,HL.out,128^(k+1),Lib.hid rfl,rfl,rfl,rfl,?_⟩,rfl,rfl,rfl,by rw [HA.out],by rw [dM k u (by omega) Hu.out],by go_num⟩,by simp [intOf];omega⟩
         rw [←HT.out,show 10-(k+1)=9-k from by omega,show q+(k+1)=q+k+1 from by omega]
        ·exact absurd h (by omega)
      ·have HT:Hid ((0,0,11)=IJ 10 0 0 (l.drop q)):=by
        have:=HR4.out;rw [if_pos ⟨h9,h1c⟩] at this;exact this
       clear HR4
       have aM:((k:Int)==9)=true:=by simp;omega
       have h1c2:(1:Int)<c:=by omega
       clear h9 h1c
       go_wp2
       go_ret3
       rw [Gz l q (by rw [←Hn.out];exact h1) HT.out.symm]
       exact⟨rfl,PK rfl rfl rfl⟩
     ·have hend':((q:Int)+k==n)=true:=by simp;omega
      have HT:Hid ((0,0,10)=IJ 10 0 0 (l.drop q)):=by
       have:=HR2.out
       rw [List.drop_of_length_le (by rw [←Hn.out];omega),aN] at this
       exact this
      go_wp2
      go_ret3
      rw [Gz l q (by rw [←Hn.out];exact h1) HT.out.symm]
      exact⟨rfl,PK rfl rfl rfl⟩
  ·go_enter func91,ntmps91
   go_wp2
   go_ret3
   rw [LW l q (.inr (by rw [←Hn.out];omega))]
   exact⟨rfl,PK rfl rfl rfl⟩
 ·go_enter func91,ntmps91
  go_wp2
  go_ret3
  rw [LW l p (.inl (by omega))]
  exact⟨rfl,PK rfl rfl rfl⟩
end Go.Proofs.YtlagonfamllgjaaGreatDoor
