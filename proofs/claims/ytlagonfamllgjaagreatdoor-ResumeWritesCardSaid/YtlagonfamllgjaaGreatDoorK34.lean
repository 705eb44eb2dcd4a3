/- Part 34 of the proof: VdO -/
import Derived.Test.YtlagonfamllgjaaGreatDoorK25
import Derived.Test.YtlagonfamllgjaaGreatDoorK33
namespace Go.Proofs.YtlagonfamllgjaaGreatDoor
set_option linter.unusedVariables false
set_option linter.unusedSimpArgs false
set_option maxRecDepth 100000
set_option maxHeartbeats 4000000
open Go.RowKit Tryz
theorem TK:(prog.info? 9).map (fun i=>(i.zero,i.size,i.bytes))=some (some (.string ⟨#[]⟩),1,16):=by kernel_rfl
section
variable {W W':World} {lo g:Nat} {x:Fx} {st:Cn} {pc:Int} {vS vF vO:Value} {bs:List Nat}
theorem Fg.high (h:Fg W lo g x st pc vS vF vO bs) (n:Nat):Below lo W (W.setCell ⟨g,16,none⟩ (.int .i64 (n:Int)))∧Fg (W.setCell ⟨g,16,none⟩ (.int .i64 (n:Int))) lo g x {st with high:=n} pc vS vF vO bs:=by
 obtain⟨a,b,c,d,e,ex⟩:=h.mh 16 (.int .i64 (n:Int))
 exact⟨a,h.blk.set 16 _,b,c,d,h.bl,e,h.low,h.et,ex⟩
theorem Fg.WK (h:Fg W lo g x st pc vS vF vO bs) {A:Option Addr} {c n:Nat} {s:ByteArray} (hn:n=st.shapes.length) (hg:W.grownBy W' vS.ownBlock) (ho:W'.ownsRow lo 9 1 (.slice A (n+1) c) (n+1) (st.shapes.map Value.string++ [.string s])) (hlo:lo≤W.heap.size):
 Below lo W (W'.setCell ⟨g,12,none⟩ (.slice A (n+1) c))∧Fg (W'.setCell ⟨g,12,none⟩ (.slice A (n+1) c)) lo g x {st with shapes:=st.shapes++ [s]} pc (.slice A (n+1) c) vF vO bs:=by
 subst hn
 have kept: ∀ {e:TypeId} {v:Value} {m:Nat} {xs:List Value},W.ownsRow lo e 1 v m xs→e≠9→W'.ownsRow lo e 1 v m xs:=fun {e v m xs} hr hne=>by
  refine hr.kept hg ?_
  cases hv:v.ownBlock with
  | none=>exact .inl rfl
  | some k=>exact .inr fun e'=>PZ hr h.sh hne k hv e'.symm
 have blk: ∀ {k:Nat} {t:TypeId} {xs:List Value},AQ W k t xs→t≠9→AQ W' k t xs:=fun {k t xs} hk hne=>Av hg hk (fun e=>Ay h.sh hk (Ne.symm hne) e)
 have hw:=blk h.blk (by decide)
 have hob:Below lo W W':=BK h.sh hg hlo
 refine⟨hob.setCell h.low _,hw.set 12 _,?_,?_,?_,h.bl,fun k o b h1 h2=>⟨(h.each k o b h1 h2).1,(blk (h.each k o b h1 h2).2 (by decide)).far (p:=⟨g,12,none⟩) (Fv (blk (h.each k o b h1 h2).2 (by decide)) hw (by decide)) _⟩,h.low,h.et,
  fun q hq=>⟨(blk (h.ex q hq).1 (h.et q hq).2.1).far (p:=⟨g,12,none⟩) (Fv (blk (h.ex q hq).1 (h.et q hq).2.1) hw (h.et q hq).1) _,(h.ex q hq).2⟩⟩
 ·have:=BD ho (p:=⟨g,12,none⟩) (Ay ho hw (by decide)) (.slice A (st.shapes.length+1) c)
  rw [List.map_append,List.length_append]
  exact this
 ·exact BD (kept h.fl (by decide)) (p:=⟨g,12,none⟩) (Ay (kept h.fl (by decide)) hw (by decide)) _
 ·exact BD (kept h.op (by decide)) (p:=⟨g,12,none⟩) (Ay (kept h.op (by decide)) hw (by decide)) _
theorem Fg.vK (h:Fg W lo g x st pc vS vF vO bs) {A:Option Addr} {c n:Nat} {v:Int} (hn:n=st.floors.length) (hg:W.grownBy W' vF.ownBlock) (ho:W'.ownsRow lo 3 1 (.slice A (n+1) c) (n+1) (st.floors.map iv++ [iv v]))
 (hb:(Value.slice A (n+1) c).ownBlock=vF.ownBlock∨(Value.slice A (n+1) c).ownBlock=some W.heap.size) (hlo:lo≤W.heap.size):
 Below lo W (W'.setCell ⟨g,15,none⟩ (.slice A (n+1) c))∧Fg (W'.setCell ⟨g,15,none⟩ (.slice A (n+1) c)) lo g x {st with floors:=st.floors++ [v]} pc vS (.slice A (n+1) c) vO bs:=by
 subst hn
 have kept: ∀ {e:TypeId} {v:Value} {m:Nat} {xs:List Value},W.ownsRow lo e 1 v m xs→e≠3→W'.ownsRow lo e 1 v m xs:=fun {e v m xs} hr hne=>by
  refine hr.kept hg ?_
  cases hv:v.ownBlock with
  | none=>exact .inl rfl
  | some k=>exact .inr fun e'=>PZ hr h.fl hne k hv e'.symm
 have blk: ∀ {k:Nat} {t:TypeId} {xs:List Value},AQ W k t xs→t≠3→AQ W' k t xs:=fun {k t xs} hk hne=>Av hg hk (fun e=>Ay h.fl hk (Ne.symm hne) e)
 have hw:=blk h.blk (by decide)
 have hob:Below lo W W':=BK h.fl hg hlo
 refine⟨hob.setCell h.low _,hw.set 15 _,?_,?_,?_,h.bl,fun k o b h1 h2=>⟨(h.each k o b h1 h2).1,(blk (h.each k o b h1 h2).2 (by decide)).far (p:=⟨g,15,none⟩) (Fv (blk (h.each k o b h1 h2).2 (by decide)) hw (by decide)) _⟩,h.low,h.et,fun q hq=> ?_⟩
 ·exact BD (kept h.sh (by decide)) (p:=⟨g,15,none⟩) (Ay (kept h.sh (by decide)) hw (by decide)) _
 ·have:=BD ho (p:=⟨g,15,none⟩) (Ay ho hw (by decide)) (.slice A (st.floors.length+1) c)
  rw [List.map_append,List.length_append]
  exact this
 ·exact BD (kept h.op (by decide)) (p:=⟨g,15,none⟩) (Ay (kept h.op (by decide)) hw (by decide)) _
 ·have h1:=Av hg (h.ex q hq).1 (h.ex q hq).2
  refine⟨h1.far (p:=⟨g,15,none⟩) (Fv h1 hw (h.et q hq).1) _,?_⟩
  rcases hb with e | e
  ·rw [e];exact(h.ex q hq).2
  ·rw [e];intro e'
   injection e' with e'
   have:=(h.ex q hq).1.lt
   omega
theorem Fg.withExt (h:Fg W lo g x st pc vS vF vO bs) (hb:Below W.heap.size W W') (l:List (Nat×TypeId×List Value)) (hl: ∀q∈l,(q.2.1≠172∧q.2.1≠9∧q.2.1≠173∧q.2.1≠175)∧W.heap.size≤q.1∧AQ W' q.1 q.2.1 q.2.2):
 Fg W' lo g {x with ext:=l} st pc vS vF vO bs:=by
 have h':=h.below hb
 refine⟨h'.blk,h'.sh,h'.fl,h'.op,h'.bl,h'.each,h'.low,fun q hq=>(hl q hq).1,fun q hq=>⟨(hl q hq).2.2,fun e=> ?_⟩⟩
 have:=(h.fl.lt q.1 e).2
 have:=(hl q hq).2.1
 omega
end
end Go.Proofs.YtlagonfamllgjaaGreatDoor
