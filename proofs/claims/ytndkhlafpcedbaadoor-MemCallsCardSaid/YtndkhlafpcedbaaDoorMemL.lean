/- mem: Pages. -/
import Derived.Test.YtndkhlafpcedbaaDoorMemI
import Derived.Test.YtndkhlafpcedbaaDoorWireE
import Derived.Test.YtndkhlafpcedbaaDoorWireF
namespace Go.Proofs.YtndkhlafpcedbaaDoor
set_option linter.unusedVariables false
open Go.RowKit
theorem Tryd.info_bs : (Tryd.prog.info? 24).map (fun i => (i.zero, i.size, i.bytes)) = some (some (.slice none 0 0), 1, 24) := by kernel_rfl
/-- append of a slice of bytes onto a row of the call's own, at this program. -/
theorem app_bss (w : World) {ops : Array Oper} {rest : List Oper} {o : Oper} {a : Act} {Q : Exit → Act → World → Prop} (hgd : o.guard = none) (s x : Operand)
    (ho : o.op = .call { callee := .builtin .append, args := #[s, x], argTypes := #[29, 29] }) (base : Nat)
    (A : Option Addr) (n c : Nat) (xs : List Value) (hs : a.eval s = .slice A n c) (hown : w.ownsRow base 24 1 (.slice A n c) n xs)
    (B : Nat) (A2 : Option Addr) (m c2 : Nat) (ys : List Value) (hx : a.eval x = .slice A2 m c2) (hm : m = ys.length) (hr : Row w B A2 ys) (h1 : ∀ u ∈ ys, u.oneCell' = true)
    (h47 : n + m ≤ 1000000) (hbase : base ≤ w.heap.size)
    (h : ∀ A' c' w', w'.ownsRow base 24 1 (.slice A' (n + m) c') (n + m) (xs ++ ys) → w.grownBy w' (Value.slice A n c).ownBlock → wpList Tryd.prog ops Q rest (a.put o.dst (.slice A' (n + m) c')) w') : wpList Tryd.prog ops Q (o :: rest) a w := by
  obtain ⟨i0, hi, hz, hs', hb⟩ := info_parts Tryd.info_bs
  exact wpList_app w hgd s x 29 ho base 24 i0 (.slice none 0 0) 24 Tryd.underlying29 hi hz hs' hb rfl _ n xs hs hown B A2 m c2 ys hx hm hr h1 (by unfold maxLen; omega) (by omega) hbase (fun A' c' w' h2 h3 _ => h A' c' w' h2 h3)
/-- How the pages are told: k of them (their bytes are not told here). -/
def PgRel (w : World) (n : Nat) (l i : Value) (wr : World) : Prop :=
  ∃ (k : Nat) (A : Option Addr) (c : Nat) (xs : List Value), k ≤ n ∧ i = .int .i64 k ∧ l = .slice A k c ∧ wr.ownsRow w.heap.size 24 1 (.slice A k c) k xs ∧ Below w.heap.size w wr
set_option maxRecDepth 100000 in
set_option maxHeartbeats 1000000 in
theorem mem_Pages (base : Nat) (m : MemV) (w : World) (hm : MAt base w m) :
    Calls Tryd.prog 28 #[.pointer (some ⟨m.p, 0, none⟩)] w fun e w' => ∃ A c, e = .returned (.slice A m.bs.length c) ∧ Below w.heap.size w w' := by
  have HO := Lib.hid (mem_ok base m w hm)
  have HM := Lib.hid hm
  have hc1 := hm.cell1
  have hn64 : m.bs.length ≤ 64 := by have := hm.np; have := hm.most; omega
  clear hm
  go_enter Tryd.func28, Tryd.ntmps28
  go_wp2_with fail
  refine HO.out.mono ?_
  rintro e w' ⟨rfl, rfl⟩
  go_wp2_with fail
  go_loopw [3, 14] (fun l i wr => PgRel w m.bs.length l i wr) (fun _ i _ => m.bs.length - (intOf i).toNat)
  case atStart => exact ⟨0, none, 0, [], Nat.zero_le _, rfl, rfl, World.ownsRow_nil _ _ _ _, Below.refl _ _⟩
  case round =>
    obtain ⟨k, A, c, xs, hk, rfl, rfl, hown, hbel⟩ := hrel
    have Hown := Lib.hid hown; clear hown
    have Hbel := Lib.hid hbel; clear hbel
    by_cases hlt : k < m.bs.length
    · have HMr := Lib.hid (HM.out.below Hbel.out)
      obtain ⟨g, hA, hcell⟩ := HMr.out.pg hlt
      unfold ptrV at hcell
      have Hpg := Lib.hid (HMr.out.page k _ (bsGet m hlt))
      have Hpl : Hid ((pageOf m.B k).length = 4096) := Lib.hid (by unfold pageOf; rw [List.length_take, List.length_drop, HM.out.len]; omega)
      have Hrow : Hid (Row wr (m.bs[k]?.getD 0 + 1) (some ⟨m.bs[k]?.getD 0, 0, none⟩) ((pageOf m.B k).map bv)) := Lib.hid (by
        have := Hpg.out.row 0 4096
        rw [List.drop_zero, List.take_of_length_le (by rw [List.length_map, Hpl.out]; exact Nat.le_refl _)] at this
        exact this)
      generalize m.bs[k]?.getD 0 = pb at *
      generalize pageOf m.B k = pg at *
      have hsz : w.heap.size ≤ wr.heap.size := Hbel.out.size
      rw [hA]
      go_wp2_with (at_builtin; first | (refine app_bytes _ rfl (.const (.slice none 0 0)) (.tmp 21) rfl wr.heap.size none 0 0 [] rfl (World.ownsRow_nil _ _ _ _) _ _ 4096 4096 (pg.map bv) rfl (by rw [List.length_map, Hpl.out]) Hrow.out (bv_one pg) (by omega) (Nat.le_refl _) ?_; intro A1 c1 w2 h2 h3 h4; have Hown2 := Lib.hid (own_below_kept Hown.out h4); have Hbel2 := Lib.hid (Hbel.out.trans (h4.mono hsz)); have hsz2 : w.heap.size ≤ w2.heap.size := Hbel2.out.size; have Hone := Lib.hid (row_one w2 (.slice A1 4096 c1) 24); clear h2 h3 h4) | (refine app_bss _ rfl (.tmp 18) (.tmp 23) rfl w.heap.size A k c xs rfl (Hown2.out.alloc _) (w2.heap.size + 1) _ 1 1 [.slice A1 4096 c1] rfl rfl Hone.out (fun u hu => by rw [List.mem_singleton] at hu; subst hu; rfl) (by omega) (by simp; omega) ?_; intro A2 c2 w3 h2 h3; have H2 := Lib.hid h2; have H3 := Lib.hid h3; clear h2 h3))
      exact ⟨⟨k + 1, A2, c2, _, by omega, by go_num, rfl, H2.out, (Hbel2.out.alloc hsz2 _).trans (own_below (Hown2.out.alloc _) H3.out (by simp; omega))⟩, by simp [intOf]; omega⟩
    · obtain rfl : k = m.bs.length := by omega
      go_wp2_with fail
      go_ret
      exact ⟨A, c, rfl, Hbel.out⟩
end Go.Proofs.YtndkhlafpcedbaaDoor
