/- Part 6 of the proof: OpsA Ld -/
import Derived.Deep.WholeRow
import Derived.Test.YtlagonfamllgjaaGreatDoorR04
namespace Go.Proofs.YtlagonfamllgjaaGreatDoor
set_option linter.unusedVariables false
set_option linter.unusedSimpArgs false
set_option maxRecDepth 100000
set_option maxHeartbeats 4000000
open Go.RowKit Tryz
theorem qg {P:Program} {f:FuncId} {args:Array Value} {w:World} {a b:ByteArray} {R:Ending→World→Prop} (h:Calls P f args w fun e w'=>w=w'∧e= .returned (.tuple #[.string a,.string b])) (hr:R (.returned (.tuple #[.string a,.string b])) w):Calls P f args w R:=
 h.mono fun e w' hh=>by obtain⟨rfl,rfl⟩:=hh;exact hr
set_option maxHeartbeats 40000000 in
theorem Ti (w:World): ∀r∈Dk,Calls prog 191 #[.int .u8 (r.op:Nat)] w fun e w'=>w=w'∧e= .returned (.tuple #[.string r.pops,.string r.pushes,.bool r.plain]):=by
 unfold Dk
 iterate 90
  refine List.forall_mem_cons.2 ⟨?_,?_⟩
  ·simp only [Int.cast_ofNat_Int]
   go_enter func191,ntmps191
   go_wp2_with fail
   first
    | (go_ret3;exact⟨rfl,rfl⟩)
    | (apply qg
       ·go_enter func199,ntmps199
        go_wp2_with fail
        go_ret2
        exact⟨rfl,rfl⟩
       ·go_wp2_with fail
        go_ret3
        exact⟨rfl,rfl⟩)
 exact fun _ h=>by cases h
theorem Z0 {P:Program} {ops:Array Oper} {rest:List Oper} {o:Oper} {a:Act} {w:World} {Q:Exit→Act→World→Prop} {g:Nat} {t:TypeId} {xs:List Value} (hb:AQ w g t xs) {d:TypeDesc} (hu:P.underlying t=some d) (hd:(match d with | .struct _ | .array _ _=>true | _=>false)=true) (hi:(P.info? t).map (·.size)=some xs.length)
 (hgd:o.guard=none) (x:Operand) (ho:o.op= .load t x) (hx:a.eval x= .pointer (some ⟨g,0,none⟩)) (h:wpList P ops Q rest (a.put o.dst (.agg xs.toArray)) w):wpList P ops Q (o::rest) a w:=
 wpList_load_row hgd t x ho g hx t xs.toArray (0,0) d hb hu hd (by simpa using hi) h
theorem Ed {P:Program} {ops:Array Oper} {rest:List Oper} {op:Oper} {a:Act} {W0:World} {Q:Exit→Act→World→Prop} (hgd:op.guard=none) (t:TypeId) (x y:Operand) (ho:op.op= .store t x y) (c c':Array Value)
 (hx:a.eval x= .pointer (some ⟨W0.heap.size,0,none⟩)) (hy:a.eval y= .agg c') (hi:(P.info? t).map (·.size)=some c'.size) (hc:c.size=c'.size) (h1:c'.all (·.oneCell')=true)
 (h:wpList P ops Q rest (a.put op.dst (.tuple #[])) (W0.alloc (.cells c' t))):wpList P ops Q (op::rest) a (W0.alloc (.cells c t)):=by
 refine wpList_plain hgd fun _ hK=> ?_
 unfold Oper.wp execOp
 simp only [ho,hx,hy,run_storeAt_new W0 t c c' hi hc h1,Sem.run_bind,Sem.run_pure,Result.andThen_ok]
 exact hK _ _ h
section
variable {ops:Array Oper} {rest:List Oper} {o:Oper} {a:Act} {w:World} {Q:Exit→Act→World→Prop} {g:Nat}
theorem ou {a0 a1 a2 a3 a4 a5 a6 a7:Value} (hb:AQ w g 29 [a0,a1,a2,a3,a4,a5,a6,a7]) (hgd:o.guard=none) (x:Operand) (ho:o.op= .load 29 x) (hx:a.eval x= .pointer (some ⟨g,0,none⟩))
 (h:wpList prog ops Q rest (a.put o.dst (.agg #[a0,a1,a2,a3,a4,a5,a6,a7])) w):wpList prog ops Q (o::rest) a w:=
 Z0 hb underlying29 rfl (by kernel_rfl) hgd x ho hx h
theorem xB {a0 a1 a2 a3 a4 a5 a6 a7:Value} (hb:AQ w g 35 [a0,a1,a2,a3,a4,a5,a6,a7]) (hgd:o.guard=none) (x:Operand) (ho:o.op= .load 35 x) (hx:a.eval x= .pointer (some ⟨g,0,none⟩))
 (h:wpList prog ops Q rest (a.put o.dst (.agg #[a0,a1,a2,a3,a4,a5,a6,a7])) w):wpList prog ops Q (o::rest) a w:=
 Z0 hb underlying35 rfl (by kernel_rfl) hgd x ho hx h
theorem ldV {a0 a1 a2 a3 a4 a5 a6 a7 a8 a9 Wt UZ a12 a13 a14 a15 a16:Value} (hb:AQ w g 127 [a0,a1,a2,a3,a4,a5,a6,a7,a8,a9,Wt,UZ,a12,a13,a14,a15,a16]) (hgd:o.guard=none) (x:Operand) (ho:o.op= .load 127 x) (hx:a.eval x= .pointer (some ⟨g,0,none⟩))
 (h:wpList prog ops Q rest (a.put o.dst (.agg #[a0,a1,a2,a3,a4,a5,a6,a7,a8,a9,Wt,UZ,a12,a13,a14,a15,a16])) w):wpList prog ops Q (o::rest) a w:=
 Z0 hb underlying127 rfl (by kernel_rfl) hgd x ho hx h
end
end Go.Proofs.YtlagonfamllgjaaGreatDoor
