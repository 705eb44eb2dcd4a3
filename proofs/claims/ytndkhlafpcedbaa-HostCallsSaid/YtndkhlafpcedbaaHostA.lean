/- flagonref00: CopyWords, CopyReply, CopyReplies, EqReply, EqReplies, SizeReplies, Long. -/
import Derived.Test.YtndkhlafpcedbaaHostP
import Derived.Test.YtndkhlafpcedbaaEqW
import Derived.KernelRfl
import Derived.Laws.ResultCell
import Derived.Laws.Rows
import Derived.Deep.RegionHeld3
namespace Go.Proofs.Ytndkhlafpcedbaa
set_option linter.unusedVariables false
open Go.RowKit
theorem Try.info_w : (Try.prog.info? 22).map (fun i => (i.zero, i.size, i.bytes)) = some (some (.int .u64 0), 1, 8) := by kernel_rfl
theorem Try.info_rep : (Try.prog.info? 54).map (fun i => (i.zero, i.size, i.bytes)) = some (some (.agg #[.slice none 0 0, .bool false]), 2, 32) := by kernel_rfl
theorem uv_cells (l : List Nat) : ∀ u ∈ l.map uv, u.oneCell' = true := by
  intro u hu
  obtain ⟨_, _, rfl⟩ := List.mem_map.1 hu
  rfl
/-- append of words onto a row of the call's own. -/
theorem app_w (w : World) {ops : Array Oper} {rest : List Oper} {o : Oper} {a : Act} {Q : Exit → Act → World → Prop} (hgd : o.guard = none) (s x : Operand)
    (ho : o.op = .call { callee := .builtin .append, args := #[s, x], argTypes := #[52, 52] }) (base : Nat)
    (A : Option Addr) (n c : Nat) (xs : List Value) (hs : a.eval s = .slice A n c) (hown : w.ownsRow base 22 1 (.slice A n c) n xs)
    (B : Nat) (A2 : Option Addr) (m c2 : Nat) (ys : List Value) (hx : a.eval x = .slice A2 m c2) (hm : m = ys.length) (hr : Row w B A2 ys) (h1 : ∀ u ∈ ys, u.oneCell' = true)
    (h47 : (n + m) * 8 ≤ 140737488351232) (hbase : base ≤ w.heap.size)
    (h : ∀ A' c' w', w'.ownsRow base 22 1 (.slice A' (n + m) c') (n + m) (xs ++ ys) → w.grownBy w' (Value.slice A n c).ownBlock → wpList Try.prog ops Q rest (a.put o.dst (.slice A' (n + m) c')) w') : wpList Try.prog ops Q (o :: rest) a w := by
  obtain ⟨i0, hi, hz, hs', hb⟩ := info_parts Try.info_w
  exact wpList_appz w hgd s x 52 ho base 22 i0 (.int .u64 0) 1 8 Try.underlying52 hi hz hs' hb rfl (by omega) _ n xs hs hown B A2 m c2 ys hx (by omega) hr h1 (by unfold maxLen; omega) (by omega) hbase (fun A' c' w' h2 h3 _ => h A' c' w' h2 h3)
theorem app_rep (w : World) {ops : Array Oper} {rest : List Oper} {o : Oper} {a : Act} {Q : Exit → Act → World → Prop} (hgd : o.guard = none) (s x : Operand)
    (ho : o.op = .call { callee := .builtin .append, args := #[s, x], argTypes := #[44, 44] }) (base : Nat)
    (A : Option Addr) (n c : Nat) (xs : List Value) (hs : a.eval s = .slice A n c) (hown : w.ownsRow base 54 2 (.slice A n c) n xs)
    (B : Nat) (A2 : Option Addr) (m c2 : Nat) (ys : List Value) (hx : a.eval x = .slice A2 m c2) (hm : ys.length = m * 2) (hr : Row w B A2 ys) (h1 : ∀ u ∈ ys, u.oneCell' = true)
    (h47 : (n + m) * 32 ≤ 140737488351232) (hbase : base ≤ w.heap.size)
    (h : ∀ A' c' w', w'.ownsRow base 54 2 (.slice A' (n + m) c') (n + m) (xs ++ ys) → w.grownBy w' (Value.slice A n c).ownBlock → ((Value.slice A' (n + m) c').ownBlock = (Value.slice A n c).ownBlock ∨ (Value.slice A' (n + m) c').ownBlock = some w.heap.size) → wpList Try.prog ops Q rest (a.put o.dst (.slice A' (n + m) c')) w') : wpList Try.prog ops Q (o :: rest) a w := by
  obtain ⟨i0, hi, hz, hs', hb⟩ := info_parts Try.info_rep
  exact wpList_appz w hgd s x 44 ho base 54 i0 _ 2 32 Try.underlying44 hi hz hs' hb rfl (by omega) _ n xs hs hown B A2 m c2 ys hx hm hr h1 (by unfold maxLen; omega) (by omega) hbase h
set_option maxRecDepth 100000 in
set_option maxHeartbeats 400000 in
theorem copy_words (A : Option Addr) (n c B : Nat) (l : List Nat) (w : World) (hn : n = l.length) (hr : Row w B A (l.map uv)) (h47 : n * 8 ≤ 140737488351232) :
    Calls Try.prog 94 #[.slice A n c] w fun e w' => ∃ A' c', e = .returned (.slice A' n c') ∧ w'.ownsRow w.heap.size 22 1 (.slice A' n c') n (l.map uv) ∧ Below w.heap.size w w' := by
  have Hn := Lib.hid hn; clear hn
  have Hr := Lib.hid hr; clear hr
  go_enter Try.func94, Try.ntmps94
  go_wp2_with (at_builtin; refine app_w _ rfl (.tmp 4) (.tmp 5) rfl w.heap.size none 0 0 [] rfl (World.ownsRow_nil _ _ _ _) _ _ _ _ (l.map uv) rfl (by rw [List.length_map, ← Hn.out]) Hr.out (uv_cells l) (by omega) (Nat.le_refl _) ?_; intro A3 c3 w2 h2 h3; rw [Nat.zero_add] at h2; have H2 := Lib.hid h2; have Hb2 : Hid (Below w.heap.size w w2) := Lib.hid (own_belowz (v := .slice none 0 0) (World.ownsRow_nil w w.heap.size 22 1) h3 (Nat.le_refl _)); clear h2 h3)
  go_ret
  exact ⟨A3, c3, by simp, H2.out, Hb2.out⟩
theorem results_cell1 {fn : Func} {p : Tmp} {ty : TypeId} (h : fn.results = #[.cell p ty]) (tmps : Array Value) (P : Program) (w : World) :
    (results fn tmps).run P w = ((asAddr (tmps.getD p undef)).run P w).andThen fun a w₁ => (loadVar ty a).run P w₁ := by
  simp only [results, h]
  simp [Sem.run_bind, Result.andThen]
theorem load_rep {W : World} {g : Nat} {a b : Value} (h : Blk W g 54 [a, b]) : (loadVar 54 ⟨g, 0, none⟩).run Try.prog W = .ok (.agg #[a, b]) W :=
  run_loadVar_row W g 54 54 #[a, b] (0, 0) _ h Try.underlying54 rfl (by kernel_rfl)
set_option maxRecDepth 100000 in
set_option maxHeartbeats 400000 in
theorem copy_reply (A : Option Addr) (c lo hi : Nat) (sp : Bool) (r : Rep) (w : World) (h : (Rd.u64.sl sp).R w lo hi [.slice A r.1.length c] r.1) (hhi : hi ≤ w.heap.size) (h47 : r.1.length * 8 ≤ 140737488351232) :
    Calls Try.prog 69 #[.agg #[.slice A r.1.length c, .bool r.2]] w fun e w' => ∃ A' c', e = .returned (.agg #[.slice A' r.1.length c', .bool r.2]) ∧ w'.ownsRow w.heap.size 22 1 (.slice A' r.1.length c') r.1.length (r.1.map uv) ∧ Below w.heap.size w w' := by
  obtain ⟨l, t⟩ := r
  simp only at h h47 ⊢
  have Hr := Lib.hid (Rd.sl_row h).2; clear h
  go_enter Try.func69, Try.ntmps69
  go_wp2_with fail
  generalize hw : (w.alloc _).alloc _ = w1
  have Hb0 : Hid (Blk w1 w.heap.size 54 [.slice A l.length c, .bool t]) := by rw [← hw]; exact Lib.hid ((Blk.new w 54 [.slice A l.length c, .bool t]).alloc _)
  have Hb1 : Hid (Blk w1 (w.heap.size + 1) 54 [.slice none 0 0, .bool false]) := by rw [← hw]; exact Lib.hid (by have := Blk.new (w.alloc (.cells #[.slice A l.length c, .bool t] 54)) 54 [.slice none 0 0, .bool false]; rwa [World.size_alloc] at this)
  have H1 : Hid (Below w.heap.size w w1) := by rw [← hw]; exact Lib.hid (((Below.refl _ _).alloc (Nat.le_refl _) _).alloc (by simp) _)
  clear hw
  refine (copy_words A l.length c hi l w1 rfl (Hr.out.below' H1.out hhi) h47).mono ?_
  rintro e w2 ⟨A', c', rfl, h2, h3⟩
  have H2 := Lib.hid h2; clear h2
  have Hb02 := Lib.hid (Hb0.out.below h3 Hb0.out.lt)
  have Hb12 := Lib.hid (Hb1.out.below h3 Hb1.out.lt)
  have H3 := Lib.hid (H1.out.trans (h3.mono H1.out.size))
  have hsz : w.heap.size + 2 ≤ w1.heap.size := by have := Hb1.out.lt; omega
  clear h3 Hb0 Hb1
  have hf0 := Hb02.out.frozen 0
  have hc0 : w2.cell? ⟨w.heap.size, 0, none⟩ = some (.slice A l.length c) := Hb02.out.cell 0
  have hc0' : w2.cell? ⟨w.heap.size, 1, none⟩ = some (.bool t) := Hb02.out.cell 1
  have hf1 := Hb12.out.frozen 0
  have hf1' := Hb12.out.frozen 1
  have hc1 : w2.cell? ⟨w.heap.size + 1, 0, none⟩ = some (.slice none 0 0) := Hb12.out.cell 0
  have hc1' : w2.cell? ⟨w.heap.size + 1, 1, none⟩ = some (.bool false) := Hb12.out.cell 1
  go_wp2_with fail
  have hblk := ((Hb12.out.far (p := ⟨w.heap.size, 0, none⟩) (by simp) (.slice A' l.length c')).set 0 (.slice A' l.length c')).set 1 (.bool t)
  refine bodyPost_ret (v := .agg #[.slice A' l.length c', .bool t]) ?_ rfl ⟨A', c', rfl, ?_, ?_⟩
  · rw [results_cell1 rfl]
    simp only [asAddr, Result.andThen]
    exact load_rep hblk
  · exact (own_far (own_far (own_far H2.out (p := ⟨w.heap.size, 0, none⟩) (by show w.heap.size < _; omega) _) (p := ⟨w.heap.size + 1, 0, none⟩) (by show w.heap.size + 1 < _; omega) _) (p := ⟨w.heap.size + 1, 1, none⟩) (by show w.heap.size + 1 < _; omega) _).mono (by omega)
  · exact ((H3.out.setCell (p := ⟨w.heap.size, 0, none⟩) (Nat.le_refl _) _).setCell (p := ⟨w.heap.size + 1, 0, none⟩) (Nat.le_succ _) _).setCell (p := ⟨w.heap.size + 1, 1, none⟩) (Nat.le_succ _) _
def CrRel (rs : List Rep) (w : World) (l i : Value) (wr : World) : Prop :=
  ∃ (k : Nat) (A : Option Addr) (c : Nat) (cells : List Value), k ≤ rs.length ∧ i = .int .i64 k ∧ l = .slice A k c ∧ wr.ownsRow w.heap.size 54 2 (.slice A k c) k cells ∧ RepsOwn 22 wr w.heap.size cells (rs.take k) ∧ Below w.heap.size w wr
def RepsLe (rs : List Rep) : Prop := rs.length * 32 ≤ 140737488351232 ∧ ∀ r ∈ rs, r.1.length * 8 ≤ 140737488351232
set_option maxRecDepth 100000 in
set_option maxHeartbeats 1000000 in
theorem copy_replies (A : Option Addr) (n c lo hi : Nat) (sp : Bool) (rs : List Rep) (w : World) (h : (rScr sp).R w lo hi [.slice A n c] rs) (hhi : hi ≤ w.heap.size) (hle : RepsLe rs) :
    Calls Try.prog 32 #[.slice A n c] w fun e w' => ∃ A' c' cells, e = .returned (.slice A' n c') ∧ w'.ownsRow w.heap.size 54 2 (.slice A' n c') n cells ∧ RepsOwn 22 w' w.heap.size cells rs ∧ Below w.heap.size w w' := by
  have hn := scr_len h
  have Hn := Lib.hid hn
  have Hh := Lib.hid h; clear h
  have Hle := Lib.hid hle.2
  have hle1 := hle.1; clear hle
  rw [← hn] at hle1
  clear hn
  go_enter Try.func32, Try.ntmps32
  go_wp2_with fail
  go_loopw [3, 4] (fun l i wr => CrRel rs w l i wr) (fun _ i _ => n - (intOf i).toNat)
  case atStart => exact ⟨0, none, 0, [], Nat.zero_le _, rfl, rfl, World.ownsRow_nil _ _ _ _, RepsOwn.nil, Below.refl _ _⟩
  case round =>
    obtain ⟨k, A1, c1, cells, hk, rfl, rfl, hown, hreps, hbel⟩ := hrel
    have Hown := Lib.hid hown; clear hown
    have Hreps := Lib.hid hreps; clear hreps
    have Hbel := Lib.hid hbel; clear hbel
    rw [← Hn.out] at hk
    by_cases hlt : k < n
    · obtain ⟨r, hr⟩ : ∃ r, rs[k]? = some r := ⟨_, List.getElem?_eq_getElem (by rw [← Hn.out]; exact hlt)⟩
      have Hrk := Lib.hid hr; clear hr
      obtain ⟨b, o, A2, c2, rfl, hlo, hbhi, hcell0, hcell1, hw⟩ := scr_cell ((rScr sp).below Hh.out Hbel.out hhi) Hrk.out
      have Hw := Lib.hid hw; clear hw
      have hr8 := Hle.out r (List.mem_of_getElem? Hrk.out)
      have hB64 := Rd.sl_ok Hw.out
      have HB64 := Lib.hid hB64; clear hB64
      have hsz : w.heap.size ≤ wr.heap.size := Hbel.out.size
      go_wp2_with fail
      refine (copy_reply A2 c2 lo hi sp r wr Hw.out (by omega) hr8).mono ?_
      rintro e w1 ⟨A3, c3, rfl, h1, h2⟩
      have H1 := Lib.hid (World.ownsRow.mono h1 hsz); clear h1
      have Hown1 := Lib.hid (own_keptz Hown.out h2)
      have Hreps1 := Lib.hid (Hreps.out.below h2)
      have Hbel1 := Lib.hid (Hbel.out.trans (h2.mono hsz))
      have hsz1 : w.heap.size ≤ w1.heap.size := Hbel1.out.size
      have Hrow := Lib.hid (row_cells w1 [.slice A3 r.1.length c3, .bool r.2] 54)
      clear h2
      go_wp2_with (at_builtin; refine app_rep _ rfl (.tmp 11) (.tmp 17) rfl w.heap.size A1 k c1 cells rfl (Hown1.out.alloc _) (w1.heap.size + 1) _ 1 1 [.slice A3 r.1.length c3, .bool r.2] rfl rfl Hrow.out (by intro u hu; simp at hu; rcases hu with rfl | rfl <;> rfl) (by omega) (by simp; omega) ?_; intro A4 c4 w3 h2 h3 h4; have H2 := Lib.hid h2; have H3 := Lib.hid h3; have H4 := Lib.hid h4; clear h2 h3 h4)
      refine ⟨⟨k + 1, A4, c4, _, by rw [← Hn.out]; omega, by go_num, rfl, H2.out, ?_, (Hbel1.out.alloc hsz1 _).trans (own_belowz (Hown1.out.alloc _) H3.out (by simp; omega))⟩, by simp [intOf]; omega⟩
      have hrt : rs.take (k + 1) = rs.take k ++ [r] := by rw [List.take_add_one, Hrk.out]; rfl
      rw [hrt]
      refine RepsOwn.kept (w := w1.alloc (.cells #[.slice A3 r.1.length c3, .bool r.2] 54)) (row := (Value.slice A1 k c1).ownBlock) ?_ H3.out ?_
      · refine RepsOwn.snoc (w' := w1) (base' := 0) (Hreps1.out.below ((Below.refl _ _).alloc (Nat.le_refl _) _)) ?_ (H1.out.alloc _) HB64.out
        have := Hown1.out.1
        rw [this, List.length_take, ← Hn.out]; omega
      · intro q hq cur fr he
        have := Hown1.out.alloc (.cells #[.slice A3 r.1.length c3, .bool r.2] 54)
        rcases this.2 with ⟨hv, _⟩ | ⟨g, cap, cur2, hv, _, hg2, _⟩
        · rw [hv] at hq; cases hq
        · rw [hv] at hq
          injection hq with hq
          subst hq
          rw [hg2] at he
          injection he with he
          injection he with _ ht
          exact absurd ht (by decide)
    · obtain rfl : k = n := by omega
      go_wp2_with fail
      go_ret
      have := Hreps.out
      rw [List.take_of_length_le (by rw [← Hn.out]; exact Nat.le_refl _)] at this
      exact ⟨A1, c1, cells, rfl, Hown.out, this, Hbel.out⟩
end Go.Proofs.Ytndkhlafpcedbaa
