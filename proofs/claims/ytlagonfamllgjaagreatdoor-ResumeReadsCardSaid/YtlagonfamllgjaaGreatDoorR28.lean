/- Part 28 of the proof: ResB -/
import Derived.Test.YtlagonfamllgjaaGreatDoorR27
namespace Go.Proofs.YtlagonfamllgjaaGreatDoor
set_option linter.unusedVariables false
set_option linter.unusedSimpArgs false
set_option maxRecDepth 100000
set_option maxHeartbeats 4000000
open Go.RowKit Tryz
theorem P9 {α:Type} {r:Rd α} {W:World} {lo hi b:Nat} {t:TypeId} {vs:List Value} (hb:AQ W b t vs) (h1:lo≤b) (h2:b<hi) (l:List α) (hx: ∀k x,l[k]?=some x→r.R W lo hi ((vs.drop (k*r.z)).take r.z) x):(r.sl false).R W lo hi [.slice (some ⟨b,0,none⟩) l.length l.length] l:=
 ⟨_,_,rfl,⟨fun h=>(by cases h),Nat.le_refl _⟩,fun _=>⟨b,0,rfl,h1,h2,fun k x hk=>⟨_,(fun j u hu=>by
  rw [List.getElem?_take] at hu
  split at hu
  ·rw [List.getElem?_drop] at hu
   rw [Nat.zero_add,hb.cell]
   exact hu
  ·cases hu),hx k x hk⟩⟩⟩
theorem O8 {n:Int} (h: -9223372036854775808≤n∧n<9223372036854775808):Rd.Gd n:=h
theorem YS {s:ByteArray} (h:s.size≤140737488351232):Rd.PD s:=h
def sW:ByteArray:=⟨#[119]⟩
def MO:AP:=⟨[⟨ByteArray.empty,sW⟩],[],[],1,2,[⟨0,ByteArray.empty,[⟨24,5,[]⟩,⟨6,0,[]⟩]⟩],[],[]⟩
def BR:FU:=⟨[⟨0,0,[],[]⟩],[],[Az],0,1,[],0,0⟩
theorem U6 (w:World):Calls prog 23 #[] w fun e w'=>Below w.heap.size w w'∧ ∃cs:List Value,e= .returned (.agg cs.toArray)∧Db.R w' w.heap.size w'.heap.size cs MO:=by
 go_enter func23,ntmps23
 go_upto_region 1 with fail
 go_wp2_with fail
 refine⟨rfl,.agg #[.slice (some ⟨w.heap.size+1,0,none⟩) 1 1,.slice none 0 0,.slice none 0 0,.int .i64 1,.int .i64 2,.slice (some ⟨w.heap.size+1+1+1,0,none⟩) 1 1,.slice none 0 0,.slice none 0 0],?_,?_,?_⟩
 ·exact results_cell_row rfl _ _ w.heap.size 29 _ (0,0) _ rfl ((((AQ.new w 29 [.slice (some ⟨w.heap.size+1,0,none⟩) 1 1,.slice none 0 0,.slice none 0 0,.int .i64 1,.int .i64 2,.slice (some ⟨w.heap.size+1+1+1,0,none⟩) 1 1,.slice none 0 0,.slice none 0 0]).alloc _).alloc _).alloc _) underlying29 rfl (by kernel_rfl)
 ·exact(((Below.refl _ _).alloc (Nat.le_refl _) _).alloc (by simp) _ |>.alloc (by simp;omega) _).alloc (by simp;omega) _
 ·refine⟨[.slice (some ⟨w.heap.size+1,0,none⟩) 1 1,.slice none 0 0,.slice none 0 0,.int .i64 1,.int .i64 2,.slice (some ⟨w.heap.size+1+1+1,0,none⟩) 1 1,.slice none 0 0,.slice none 0 0],rfl,?_⟩
  obtain⟨w1,h1⟩: ∃w1,w1=w.alloc (.cells #[.slice (some ⟨w.heap.size+1,0,none⟩) 1 1,.slice none 0 0,.slice none 0 0,.int .i64 1,.int .i64 2,.slice (some ⟨w.heap.size+1+1+1,0,none⟩) 1 1,.slice none 0 0,.slice none 0 0] 29):=⟨_,rfl⟩
  have z1:w1.heap.size=w.heap.size+1:=by rw [h1];simp
  rw [←h1]
  clear h1
  obtain⟨w2,h2⟩: ∃w2,w2=w1.alloc (.cells #[.string {data:= #[]},.string {data:= #[119]}] 93):=⟨_,rfl⟩
  have z2:w2.heap.size=w1.heap.size+1:=by rw [h2];simp
  have b1:AQ w2 (w.heap.size+1) 93 [.string {data:= #[]},.string {data:= #[119]}]:=by rw [h2,←z1];exact AQ.new w1 _ [_,_]
  rw [←h2]
  clear h2
  obtain⟨w3,h3⟩: ∃w3,w3=w2.alloc (.cells #[.int .u8 24,.int .i64 5,.slice none 0 0,.int .u8 6,.int .i64 0,.slice none 0 0] 122):=⟨_,rfl⟩
  have z3:w3.heap.size=w2.heap.size+1:=by rw [h3];simp
  have b2:AQ w3 (w.heap.size+1+1) 122 [.int .u8 24,.int .i64 5,.slice none 0 0,.int .u8 6,.int .i64 0,.slice none 0 0]:=by rw [h3,←z1,←z2];exact AQ.new w2 _ [_,_,_,_,_,_]
  have b1:AQ w3 (w.heap.size+1) 93 [.string {data:= #[]},.string {data:= #[119]}]:=by rw [h3];exact b1.alloc _
  rw [←h3]
  clear h3
  obtain⟨w4,h4⟩: ∃w4,w4=w3.alloc (.cells #[.int .i64 0,.string {data:= #[]},.slice (some ⟨w.heap.size+1+1,0,none⟩) 2 2] 96):=⟨_,rfl⟩
  have z4:w4.heap.size=w3.heap.size+1:=by rw [h4];simp
  have b3:AQ w4 (w.heap.size+1+1+1) 96 [.int .i64 0,.string {data:= #[]},.slice (some ⟨w.heap.size+1+1,0,none⟩) 2 2]:=by rw [h4,←z1,←z2,←z3];exact AQ.new w3 _ [_,_,_]
  have b1:AQ w4 (w.heap.size+1) 93 [.string {data:= #[]},.string {data:= #[119]}]:=by rw [h4];exact b1.alloc _
  have b2:AQ w4 (w.heap.size+1+1) 122 [.int .u8 24,.int .i64 5,.slice none 0 0,.int .u8 6,.int .i64 0,.slice none 0 0]:=by rw [h4];exact b2.alloc _
  rw [←h4]
  clear h4
  refine Av.2 ⟨_,_,_,_,_,_,rfl,P9 (r:=Qk) b1 (by omega) (by omega) [⟨ByteArray.empty,sW⟩] ?_,Fp,Fp,by first | exact O8 (by decide) | exact YS (by decide),by first | exact O8 (by decide) | exact YS (by decide),P9 (r:=XA) b3 (by omega) (by omega) [⟨0,ByteArray.empty,[⟨24,5,[]⟩,⟨6,0,[]⟩]⟩] ?_,Fp,Fp⟩
  ·intro k x hk
   have hk0:k=0:=by have:=(List.getElem?_eq_some_iff.1 hk).1;simp at this;exact this
   subst hk0
   injection hk with hk
   subst hk
   exact RU.2 ⟨rfl,by first | exact O8 (by decide) | exact YS (by decide),by first | exact O8 (by decide) | exact YS (by decide)⟩
  ·intro k x hk
   have hk0:k=0:=by have:=(List.getElem?_eq_some_iff.1 hk).1;simp at this;exact this
   subst hk0
   injection hk with hk
   subst hk
   refine MR.2 ⟨_,rfl,by first | exact O8 (by decide) | exact YS (by decide),by first | exact O8 (by decide) | exact YS (by decide),P9 (r:=Ga) b2 (by omega) (by omega) [⟨24,5,[]⟩,⟨6,0,[]⟩] ?_⟩
   intro k x hk
   have hk2:k=0∨k=1:=by have:=(List.getElem?_eq_some_iff.1 hk).1;simp at this;omega
   rcases hk2 with rfl | rfl
   ·injection hk with hk
    subst hk
    exact Dz.2 ⟨_,rfl,by first | exact O8 (by decide) | exact YS (by decide),Fp⟩
   ·injection hk with hk
    subst hk
    exact Dz.2 ⟨_,rfl,by first | exact O8 (by decide) | exact YS (by decide),Fp⟩
theorem U7 (w:World):Calls prog 24 #[] w fun e w'=>Below w.heap.size w w'∧ ∃cs:List Value,e= .returned (.agg cs.toArray)∧K8.R w' w.heap.size w'.heap.size cs BR:=by
 obtain⟨i1,hi1,hz1,hs1,hb1⟩:=info_parts Dt
 have hmk:=fun W=>Er (P:=prog) 40 5 i1 (.int .u8 0) 1 underlying40 hi1 hz1 rfl hs1 hb1 4096 4096 rfl (by omega) (by omega) W
 have HN:Hid (Yt (.int .u8 0) 4096=(Az.map bv).toArray):=AA Mr
 rw [HN.out] at hmk
 obtain⟨Z,hZ⟩: ∃Z,(Az.map bv).toArray=Z:=⟨_,rfl⟩
 rw [hZ] at hmk
 have HZ0:=AA hZ
 clear hZ HN
 clear hi1 hz1 hs1 hb1
 go_enter func24,ntmps24
 go_wp2_with fail
 refine⟨rfl,.agg #[.slice (some ⟨w.heap.size+1,0,none⟩) 1 1,.slice none 0 0,.slice (some ⟨w.heap.size+1+1+1,0,none⟩) 1 1,.int .i64 0,.int .i8 1,.slice none 0 0,.int .i8 0,.int .i64 0],?_,?_,?_⟩
 ·exact results_cell_row rfl _ _ w.heap.size 35 _ (0,0) _ rfl ((((AQ.new w 35 [.slice (some ⟨w.heap.size+1,0,none⟩) 1 1,.slice none 0 0,.slice (some ⟨w.heap.size+1+1+1,0,none⟩) 1 1,.int .i64 0,.int .i8 1,.slice none 0 0,.int .i8 0,.int .i64 0]).alloc _).alloc _).alloc _) underlying35 rfl (by kernel_rfl)
 ·exact(((Below.refl _ _).alloc (Nat.le_refl _) _).alloc (by simp) _ |>.alloc (by simp;omega) _).alloc (by simp;omega) _
 ·refine⟨[.slice (some ⟨w.heap.size+1,0,none⟩) 1 1,.slice none 0 0,.slice (some ⟨w.heap.size+1+1+1,0,none⟩) 1 1,.int .i64 0,.int .i8 1,.slice none 0 0,.int .i8 0,.int .i64 0],rfl,?_⟩
  have HP:Hid ((Az.map bv).toArray=Z):=HZ0
  obtain⟨w1,h1⟩: ∃w1,w1=w.alloc (.cells #[.slice (some ⟨w.heap.size+1,0,none⟩) 1 1,.slice none 0 0,.slice (some ⟨w.heap.size+1+1+1,0,none⟩) 1 1,.int .i64 0,.int .i8 1,.slice none 0 0,.int .i8 0,.int .i64 0] 35):=⟨_,rfl⟩
  have z1:w1.heap.size=w.heap.size+1:=by rw [h1];simp
  rw [←h1]
  clear h1
  obtain⟨w2,h2⟩: ∃w2,w2=w1.alloc (.cells #[.int .i64 0,.int .i64 0,.slice none 0 0,.slice none 0 0] 91):=⟨_,rfl⟩
  have z2:w2.heap.size=w1.heap.size+1:=by rw [h2];simp
  have b1:AQ w2 (w.heap.size+1) 91 [.int .i64 0,.int .i64 0,.slice none 0 0,.slice none 0 0]:=by rw [h2,←z1];exact AQ.new w1 _ [_,_,_,_]
  rw [←h2]
  clear h2
  obtain⟨w3,h3⟩: ∃w3,w3=w2.alloc (.cells Z 5):=⟨_,rfl⟩
  have z3:w3.heap.size=w2.heap.size+1:=by rw [h3];simp
  have b2:AQ w3 (w.heap.size+1+1) 5 (Az.map bv):=by rw [h3,←z1,←z2,←HP.out];exact AQ.new w2 _ _
  have b1:AQ w3 (w.heap.size+1) 91 [.int .i64 0,.int .i64 0,.slice none 0 0,.slice none 0 0]:=by rw [h3];exact b1.alloc _
  rw [←h3]
  clear h3
  obtain⟨w4,h4⟩: ∃w4,w4=w3.alloc (.cells #[.slice (some ⟨w.heap.size+1+1,0,none⟩) 4096 4096] 40):=⟨_,rfl⟩
  have z4:w4.heap.size=w3.heap.size+1:=by rw [h4];simp
  have b3:AQ w4 (w.heap.size+1+1+1) 40 [.slice (some ⟨w.heap.size+1+1,0,none⟩) 4096 4096]:=by rw [h4,←z1,←z2,←z3];exact AQ.new w3 _ [_]
  have b1:AQ w4 (w.heap.size+1) 91 [.int .i64 0,.int .i64 0,.slice none 0 0,.slice none 0 0]:=by rw [h4];exact b1.alloc _
  have b2:AQ w4 (w.heap.size+1+1) 5 (Az.map bv):=by rw [h4];exact b2.alloc _
  rw [←h4]
  clear h4
  refine DR.2 ⟨_,_,_,_,rfl,P9 (r:=UR) b1 (by omega) (by omega) [⟨0,0,[],[]⟩] ?_,Fp,P9 (r:=Rd.u8.sl false) b3 (by omega) (by omega) [Az] ?_,O8 (by decide),⟨by decide,by decide⟩,Fp,⟨by decide,by decide⟩,O8 (by decide)⟩
  ·intro k x hk
   have hk0:k=0:=by have:=(List.getElem?_eq_some_iff.1 hk).1;simp at this;exact this
   subst hk0
   injection hk with hk
   subst hk
   exact Ic.2 ⟨_,_,rfl,O8 (by decide),O8 (by decide),Fp,Fp⟩
  ·intro k x hk
   have hk0:k=0:=by have:=(List.getElem?_eq_some_iff.1 hk).1;simp at this;exact this
   subst hk0
   injection hk with hk
   subst hk
   have hl:Az.length=4096:=List.length_replicate ..
   have:=P9 (r:=Rd.u8) (W:=w4) (lo:=w.heap.size) (hi:=w4.heap.size) b2 (by omega) (by omega) Az (fun k x hk=>⟨by
    have hlt:=(List.getElem?_eq_some_iff.1 hk).1
    show((Az.map bv).drop (k*1)).take 1= [bv x]
    rw [Nat.mul_one,←List.map_drop,List.drop_eq_getElem_cons hlt]
    rw [List.getElem?_eq_getElem hlt] at hk
    injection hk with hk
    rw [hk];rfl,trivial⟩)
   rw [hl] at this
   exact this
end Go.Proofs.YtlagonfamllgjaaGreatDoor
