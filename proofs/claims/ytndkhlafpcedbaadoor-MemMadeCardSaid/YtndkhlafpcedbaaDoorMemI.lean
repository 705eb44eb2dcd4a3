/- mem: Dirty. -/
import Derived.Test.YtndkhlafpcedbaaDoorMemE
import Derived.Test.YtndkhlafpcedbaaDoorLists
namespace Go.Proofs.YtndkhlafpcedbaaDoor
set_option linter.unusedVariables false
open Go.RowKit
theorem Tryd.info_int : (Tryd.prog.info? 3).map (fun i => (i.zero, i.size, i.bytes)) = some (some (.int .i64 0), 1, 8) := by kernel_rfl
theorem info_bool : ∃ i, Tryd.prog.info? 4 = some i ∧ i.size = 1 := by
  have h : (Tryd.prog.info? 4).map (·.size) = some 1 := by kernel_rfl
  cases hq : Tryd.prog.info? 4 with
  | none => rw [hq] at h; cases h
  | some i => rw [hq] at h; exact ⟨i, rfl, Option.some.inj h⟩
theorem eqg_marks : Tryd.prog.eqGuardType Tryd.prog.depth 103 = false := by kernel_rfl
/-- append of a number onto a row of the call's own, at this program. -/
theorem app_int (w : World) {ops : Array Oper} {rest : List Oper} {o : Oper} {a : Act} {Q : Exit → Act → World → Prop} (hgd : o.guard = none) (s x : Operand)
    (ho : o.op = .call { callee := .builtin .append, args := #[s, x], argTypes := #[66, 66] }) (base : Nat)
    (A : Option Addr) (n c : Nat) (xs : List Value) (hs : a.eval s = .slice A n c) (hown : w.ownsRow base 3 1 (.slice A n c) n xs)
    (B : Nat) (A2 : Option Addr) (m c2 : Nat) (ys : List Value) (hx : a.eval x = .slice A2 m c2) (hm : m = ys.length) (hr : Row w B A2 ys) (h1 : ∀ u ∈ ys, u.oneCell' = true)
    (h47 : n + m ≤ 1000000) (hbase : base ≤ w.heap.size)
    (h : ∀ A' c' w', w'.ownsRow base 3 1 (.slice A' (n + m) c') (n + m) (xs ++ ys) → w.grownBy w' (Value.slice A n c).ownBlock → wpList Tryd.prog ops Q rest (a.put o.dst (.slice A' (n + m) c')) w') : wpList Tryd.prog ops Q (o :: rest) a w := by
  obtain ⟨i0, hi, hz, hs', hb⟩ := info_parts Tryd.info_int
  exact wpList_app w hgd s x 66 ho base 3 i0 (.int .i64 0) 8 Tryd.underlying66 hi hz hs' hb rfl _ n xs hs hown B A2 m c2 ys hx hm hr h1 (by unfold maxLen; omega) (by omega) hbase (fun A' c' w' h2 h3 _ => h A' c' w' h2 h3)
/-- The pages below k that are dirty. -/
def dirtyL (d : List Bool) (k : Nat) : List Int := ((List.range k).filter fun i => d[i]?.getD false).map Int.ofNat
theorem dirtyL_succ (d : List Bool) (k : Nat) : dirtyL d (k + 1) = if d[k]?.getD false = true then dirtyL d k ++ [(k : Int)] else dirtyL d k := by
  unfold dirtyL
  rw [List.range_succ, List.filter_append, List.map_append]
  cases h : d[k]?.getD false <;> simp [h]
theorem dirtyL_le (d : List Bool) (k : Nat) : (dirtyL d k).length ≤ k := by
  unfold dirtyL
  rw [List.length_map]
  exact Nat.le_trans (List.length_filter_le ..) (by simp)
theorem dirtyL_no (k : Nat) : dirtyL noD k = [] := by
  unfold dirtyL
  rw [List.filter_eq_nil_iff.2]
  · rfl
  · intro i _
    unfold noD
    rw [List.getElem?_replicate]
    split <;> simp
def DiRel (d : List Bool) (w : World) (l i : Value) (wr : World) : Prop :=
  ∃ (k : Nat) (A : Option Addr) (c : Nat), k ≤ 64 ∧ i = .int .i64 k ∧ l = .slice A (dirtyL d k).length c ∧ wr.ownsRow w.heap.size 3 1 (.slice A (dirtyL d k).length c) (dirtyL d k).length (ivals (dirtyL d k)) ∧ Below w.heap.size w wr
def DirtyPost (d : List Bool) (w : World) (e : Ending) (w' : World) : Prop :=
  ∃ (A : Option Addr) (c : Nat), e = .returned (.slice A (dirtyL d 64).length c) ∧ w'.ownsRow w.heap.size 3 1 (.slice A (dirtyL d 64).length c) (dirtyL d 64).length (ivals (dirtyL d 64)) ∧ Below w.heap.size w w'
set_option maxRecDepth 100000 in
set_option maxHeartbeats 1000000 in
theorem mem_Dirty (base : Nat) (m : MemV) (w : World) (hm : MAt base w m) :
    Calls Tryd.prog 30 #[.pointer (some ⟨m.p, 0, none⟩)] w (DirtyPost m.d w) := by
  have HO := Lib.hid (mem_ok base m w hm)
  have Hdl := Lib.hid hm.dl
  have Hr : Hid (w.rangeAt m.p 3 (m.d.map .bool)) := Lib.hid (fun j v hv => by
    have hj : j < 64 := by have := (List.getElem?_eq_some_iff.1 hv).1; rw [List.length_map, hm.dl] at this; exact this
    rw [hm.celld hj]
    rw [List.getElem?_map, List.getElem?_eq_getElem (by rw [hm.dl]; exact hj)] at hv
    rw [List.getElem?_eq_getElem (by rw [hm.dl]; exact hj)]
    exact hv)
  have Hinfo : Hid ((Tryd.prog.info? 103).map (·.size) = some (m.d.map Value.bool).length) := by rw [List.length_map, hm.dl]; exact Lib.hid info_marks
  obtain ⟨ib, hib, hib1⟩ := info_bool
  have Hib := Lib.hid hib
  have Hib1 := Lib.hid hib1
  clear hm hib hib1
  by_cases hd : m.d = noD
  · have Hd := Lib.hid hd
    clear hd
    go_enter Tryd.func30, Tryd.ntmps30
    go_wp2_with fail
    refine HO.out.mono ?_
    rintro e w' ⟨rfl, rfl⟩
    go_wp2_with (first | refine wpList_load_mid_g rfl 103 _ rfl m.p 3 rfl (m.d.map Value.bool) _ Hr.out Tryd.underlying103 rfl Hinfo.out ?_ | refine wpList_eql_bools rfl 103 _ _ _ rfl Tryd.underlying103 Tryd.underlying4 Hib.out Hib1.out eqg_marks m.d noD rfl rfl Hdl.out rfl true (decide_eq_true Hd.out) ?_)
    go_ret
    refine ⟨none, 0, ?_, ?_, Below.refl _ _⟩
    · rw [Hd.out, dirtyL_no]; rfl
    · rw [Hd.out, dirtyL_no]; exact World.ownsRow_nil _ _ _ _
  · have Hd : Hid (decide (m.d = noD) = false) := Lib.hid (decide_eq_false hd)
    clear hd
    go_enter Tryd.func30, Tryd.ntmps30
    go_wp2_with fail
    refine HO.out.mono ?_
    rintro e w' ⟨rfl, rfl⟩
    go_wp2_with (first | refine wpList_load_mid_g rfl 103 _ rfl m.p 3 rfl (m.d.map Value.bool) _ Hr.out Tryd.underlying103 rfl Hinfo.out ?_ | refine wpList_eql_bools rfl 103 _ _ _ rfl Tryd.underlying103 Tryd.underlying4 Hib.out Hib1.out eqg_marks m.d noD rfl rfl Hdl.out rfl false Hd.out ?_)
    have HX : Hid (∀ k, k < 64 → (m.d.map Value.bool).toArray[k]? = some (.bool (m.d[k]?.getD false))) := Lib.hid (fun k hk => bools_get m.d k (by rw [Hdl.out]; exact hk))
    have HIx : Hid (∀ (X : Array Value) (k : Nat) (b : Bool) (W : World), k < 64 → X[k]? = some (.bool b) → (Instr.index 103 (.agg X) (.int .i64 k)).run Tryd.prog W = .ok (.bool b) W) := Lib.hid (fun X k b W hk hX => run_index_bools W Tryd.underlying103 Tryd.underlying4 Hib.out Hib1.out X k b hk hX)
    clear Hinfo Hib Hib1 Hr
    generalize (m.d.map Value.bool).toArray = X at *
    go_loopw [3, 21] (fun l i wr => DiRel m.d w l i wr) (fun _ i _ => 64 - (intOf i).toNat)
    case atStart => exact ⟨0, none, 0, Nat.zero_le _, rfl, rfl, World.ownsRow_nil _ _ _ _, Below.refl _ _⟩
    case round =>
      obtain ⟨k, A, c, hk, rfl, rfl, hown, hbel⟩ := hrel
      have Hown := Lib.hid hown; clear hown
      have Hbel := Lib.hid hbel; clear hbel
      by_cases hlt : k < 64
      · have hx := HX.out k hlt
        have Hs := Lib.hid (dirtyL_succ m.d k)
        have Hle := Lib.hid (dirtyL_le m.d k)
        cases hb : m.d[k]?.getD false with
        | false =>
          rw [hb] at hx Hs
          have hix := HIx.out X k _ wr hlt hx
          have Hs' := Hs.out
          rw [if_neg (by simp)] at Hs'
          have Hs := Lib.hid Hs'; clear Hs' hb
          go_wp2_with fail
          refine ⟨⟨k + 1, A, c, by omega, by go_num, by rw [Hs.out], by rw [Hs.out]; exact Hown.out, Hbel.out⟩, by simp [intOf]; omega⟩
        | true =>
          rw [hb] at hx Hs
          have hix := HIx.out X k _ wr hlt hx
          have Hs' := Hs.out
          rw [if_pos rfl] at Hs'
          have Hs := Lib.hid Hs'; clear Hs' hb
          have Hone := Lib.hid (row_one wr (.int .i64 k) 3)
          have Hl : Hid ((dirtyL m.d (k + 1)).length = (dirtyL m.d k).length + 1) := by rw [Hs.out, List.length_append]; exact Lib.hid rfl
          have hsz : w.heap.size ≤ wr.heap.size := Hbel.out.size
          have Hiv : Hid (ivals (dirtyL m.d (k + 1)) = ivals (dirtyL m.d k) ++ [.int .i64 k]) := by rw [Hs.out]; unfold ivals; rw [List.map_append]; exact Lib.hid rfl
          generalize (dirtyL m.d k).length = n at *
          go_wp2_with (at_builtin; refine app_int _ rfl (.tmp 26) (.tmp 28) rfl w.heap.size A n c (ivals (dirtyL m.d k)) rfl (Hown.out.alloc _) (wr.heap.size + 1) _ 1 1 [.int .i64 k] rfl rfl Hone.out (fun u hu => by rw [List.mem_singleton] at hu; subst hu; rfl) (by have := Hle.out; omega) (by simp; omega) ?_; intro A' c' w3 h2 h3; have H2 := Lib.hid h2; have H3 := Lib.hid h3; clear h2 h3)
          refine ⟨⟨k + 1, A', c', by omega, by go_num, by rw [Hl.out], ?_, ?_⟩, by simp [intOf]; omega⟩
          · rw [Hl.out, Hiv.out]; exact H2.out
          · exact (Hbel.out.alloc hsz _).trans (own_below (Hown.out.alloc _) H3.out (by simp; omega))
      · obtain rfl : k = 64 := by omega
        go_wp2_with fail
        go_ret
        exact ⟨A, c, rfl, Hown.out, Hbel.out⟩
end Go.Proofs.YtndkhlafpcedbaaDoor
