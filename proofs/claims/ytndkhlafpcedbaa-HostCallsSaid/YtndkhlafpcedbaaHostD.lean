/- host.Host: Taken, Left, the iterator over what is left. -/
import Derived.Test.YtndkhlafpcedbaaHostC
import Derived.Deep.QuietTactic
import Derived.BigQuiet
import Derived.RangeFuncNested
import Derived.RangeFuncBound
import Derived.RangeFuncCalls
import Derived.RangeFuncLeaves
import Derived.Shelf.Abstract
import Derived.Shelf.RegionOpen
import Derived.OwnWalkIn
import Derived.TacticsInMore
import Derived.LoopNIn
import Derived.LoopIn
namespace Go.Proofs.Ytndkhlafpcedbaa
set_option linter.unusedVariables false
open Go.RowKit Go.Shelf
attribute [local go_sem] Oper.semAt_some
theorem wpListIn_appz {F : Fence} {N : Nat} {P : Program} (w : World) {ops : Array Oper} {rest : List Oper} {o : Oper} {a : Act} {Q : Exit → Act → World → Prop} (hgd : o.guard = none) (s x : Operand) (t : TypeId)
    (ho : o.op = .call { callee := .builtin .append, args := #[s, x], argTypes := #[t, t] })
    (base : Nat) (e : TypeId) (i : TypeInfo) (z : Value) (size bytes : Nat) (ht : P.underlying t = some (.slice e)) (hi : P.info? e = some i) (hz : i.zero = some z)
    (hsize : i.size = size) (hby : i.bytes = bytes) (hzs : z.cells.size = size) (hpos : 0 < size)
    (v : Value) (n : Nat) (xs : List Value) (hs : a.eval s = v) (hown : w.ownsRow base e size v n xs)
    (B : Nat) (A : Option Addr) (m c : Nat) (news : List Value) (hx : a.eval x = .slice A m c) (hm : news.length = m * size) (hr : Row w B A news) (h1 : ∀ u ∈ news, u.oneCell' = true)
    (h63 : n + m ≤ maxLen) (hbytes : (n + m) * bytes ≤ 140737488355328) (hbase : base ≤ w.heap.size)
    (h : ∀ A' c' w', w'.ownsRow base e size (.slice A' (n + m) c') (n + m) (xs ++ news) → w.grownBy w' v.ownBlock → ((Value.slice A' (n + m) c').ownBlock = v.ownBlock ∨ (Value.slice A' (n + m) c').ownBlock = some w.heap.size) → wpListIn F N P ops Q rest (a.put o.dst (.slice A' (n + m) c')) w') : wpListIn F N P ops Q (o :: rest) a w := by
  refine wpListIn_plain hgd fun K hK' => ?_
  obtain ⟨v', w', hrun, h2, h3, h4⟩ := app_rowz (P := P) w base t o.type e i z size bytes ht hi hz hsize hby hzs hpos v n xs hown B A m c news hm hr h1 h63 hbytes hbase
  obtain ⟨A', c', rfl⟩ := own_formz h2
  unfold Oper.wpIn
  refine ⟨?_, ?_⟩
  · simp [Oper.about, ho, resolve, Target.leads, Sem.run_pure]
  · rw [Oper.semAt_plain F _ _ (by rw [ho]; intro c hc'; cases hc')]
    simp [execOp, ho, resolve, invoke, builtin, hs, hx, hrun, Result.andThen]
    exact hK' _ _ (h A' c' w' h2 h3 h4)
theorem host_Taken_nil (w : World) : Calls Try.prog 35 #[.pointer none] w fun e w' => w = w' ∧ e = .returned (.int .i64 0) := by
  go_enter Try.func35, Try.ntmps35
  go_wp2
  go_ret
  exact ⟨rfl, rfl⟩
theorem host_Taken (h : Nat) (b : Bool) (v : Value) (t : Int) (w : World) (hb : Blk w h 64 [.bool b, v, .int .i64 t]) : Calls Try.prog 35 #[.pointer (some ⟨h, 0, none⟩)] w fun e w' => w = w' ∧ e = .returned (.int .i64 t) := by
  have hc : w.cell? ⟨h, 2, none⟩ = some (.int .i64 t) := hb.cell 2
  clear hb
  go_enter Try.func35, Try.ntmps35
  go_wp2
  go_ret
  exact ⟨rfl, rfl⟩
theorem host_Left_nil (w : World) : Calls Try.prog 36 #[.pointer none] w fun e w' => w = w' ∧ e = .returned (.int .i64 0) := by
  go_enter Try.func36, Try.ntmps36
  go_wp2
  go_ret
  exact ⟨rfl, rfl⟩
theorem host_Left (h : Nat) (b : Bool) (A : Option Addr) (n c : Nat) (t : Nat) (w : World) (hb : Blk w h 64 [.bool b, .slice A n c, .int .i64 t]) (hn : n * 32 ≤ 140737488351232) (ht : t < 9223372036854775808) : Calls Try.prog 36 #[.pointer (some ⟨h, 0, none⟩)] w fun e w' => (∃ k, w' = w.drewN k) ∧ e = .returned (.int .i64 ((n - t : Nat) : Int)) := by
  have hc : w.cell? ⟨h, 2, none⟩ = some (.int .i64 t) := hb.cell 2
  have hc1 : w.cell? ⟨h, 1, none⟩ = some (.slice A n c) := hb.cell 1
  have HE : Hid (max ((n : Int) - t) 0 = ((n - t : Nat) : Int)) := Lib.hid (by omega)
  have hs1 : (-9223372036854775808 : Int) ≤ (n : Int) - t := by omega
  have hs2 : (n : Int) - t ≤ 9223372036854775807 := by omega
  clear hb
  go_enter Try.func36, Try.ntmps36
  go_wp2_with fail
  go_quiet (fail)
  go_wp2_with fail
  go_ret
  exact ⟨⟨_, rfl⟩, by rw [← HE.out]; rfl⟩
end Go.Proofs.Ytndkhlafpcedbaa
