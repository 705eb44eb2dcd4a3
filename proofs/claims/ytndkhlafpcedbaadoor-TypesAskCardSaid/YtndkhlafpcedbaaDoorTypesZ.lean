/- types.Zero. -/
import Derived.Test.YtndkhlafpcedbaaDoorEachZ
import Derived.Test.YtndkhlafpcedbaaDoorApp
import Derived.KernelRfl
import Derived.Deep.Onto
namespace Go.Proofs.YtndkhlafpcedbaaDoor
set_option linter.unusedVariables false
open Go.RowKit
theorem Tryd.info_u64 : (Tryd.prog.info? 22).map (fun i => (i.zero, i.size, i.bytes)) = some (some (.int .u64 0), 1, 8) := by kernel_rfl
theorem app_u64 (w : World) {ops : Array Oper} {rest : List Oper} {o : Oper} {a : Act} {Q : Exit → Act → World → Prop} (hgd : o.guard = none) (s x : Operand)
    (ho : o.op = .call { callee := .builtin .append, args := #[s, x], argTypes := #[82, 82] }) (base : Nat)
    (A : Option Addr) (n c : Nat) (xs : List Value) (hs : a.eval s = .slice A n c) (hown : w.ownsRow base 22 1 (.slice A n c) n xs)
    (B : Nat) (A2 : Option Addr) (m c2 : Nat) (ys : List Value) (hx : a.eval x = .slice A2 m c2) (hm : m = ys.length) (hr : Row w B A2 ys) (h1 : ∀ u ∈ ys, u.oneCell' = true)
    (h47 : n + m ≤ 10000000) (hbase : base ≤ w.heap.size)
    (h : ∀ A' c' w', w'.ownsRow base 22 1 (.slice A' (n + m) c') (n + m) (xs ++ ys) → w.grownBy w' (Value.slice A n c).ownBlock → wpList Tryd.prog ops Q rest (a.put o.dst (.slice A' (n + m) c')) w') : wpList Tryd.prog ops Q (o :: rest) a w := by
  obtain ⟨i0, hi, hz, hs', hb⟩ := info_parts Tryd.info_u64
  exact wpList_app w hgd s x 82 ho base 22 i0 (.int .u64 0) 8 Tryd.underlying82 hi hz hs' hb rfl _ n xs hs hown B A2 m c2 ys hx hm hr h1 (by unfold maxLen; omega) (by omega) hbase (fun A' c' w' h2 h3 _ => h A' c' w' h2 h3)
def zs (n : Nat) : List Value := List.replicate n (.int .u64 0)
theorem zs_succ (n : Nat) : zs (n + 1) = zs n ++ [.int .u64 0] := by unfold zs; rw [List.replicate_succ']
/-- How the noughts stand: the variable's block b, the row behind b + 2. -/
def ZInv (b : Nat) (w0 : World) (i : Nat) (W : World) : Prop :=
  ∃ A c, Blk W b 82 [.slice A i c] ∧ W.ownsRow (b + 2) 22 1 (.slice A i c) i (zs i) ∧ Below b w0 W ∧ b + 2 ≤ W.heap.size
theorem ZInv.iter {b i : Nat} {w0 W : World} {s : ByteArray} (h : ZInv b w0 i W) (pos : Nat) : ZInv b w0 i (setIter W (b + 1) s pos) := by
  obtain ⟨A, c, h1, h2, h3, h4⟩ := h
  have hk : W.grownBy (setIter W (b + 1) s pos) (some (b + 1)) := ⟨rfl, rfl, rfl, by simp [setIter], fun k hk hn => by
    simp only [setIter]; rw [Array.getElem?_setIfInBounds_ne (by intro e; exact hn (by rw [e]))]⟩
  refine ⟨A, c, ?_, h2.kept (row := some (b + 1)) hk ?_, h3.trans (below_setIter _ (by omega)), by simpa [setIter] using h4⟩
  · exact (hk.block b h1.lt (by intro e; injection e with e; omega)).trans h1
  · cases hv : (Value.slice A i c).ownBlock with
    | none => exact .inl rfl
    | some k => right; intro e; injection e with e; have := (h2.lt k hv).1; omega
set_option maxRecDepth 100000 in
set_option maxHeartbeats 400000 in
theorem zero_one (b i : Nat) (k ch : Int) (w0 W : World) (h : ZInv b w0 i W) (hi : i ≤ 5000000) :
    Calls Tryd.prog 95 #[.int .i64 k, .int .u8 ch, .pointer (some ⟨b, 0, none⟩)] W fun e w' => e = .returned (.bool true) ∧ ZInv b w0 (i + 1) w' ∧ w'.heap[b + 1]? = W.heap[b + 1]? := by
  obtain ⟨A, c, h1, h2, h3, h4⟩ := h
  have Hb := Lib.hid h1; clear h1
  have Hown := Lib.hid h2; clear h2
  have Hbel := Lib.hid h3; clear h3
  have hc0 : W.cell? ⟨b, 0, none⟩ = some (.slice A i c) := Hb.out.cell 0
  have Hone := Lib.hid (row_one W (.int .u64 0) 22)
  have Hno : Hid ((Value.slice A i c).ownBlock ≠ some b ∧ (Value.slice A i c).ownBlock ≠ some (b + 1)) := Lib.hid ⟨fun e => by have := (Hown.out.lt b e).1; omega, fun e => by have := (Hown.out.lt _ e).1; omega⟩
  go_enter Tryd.func95, Tryd.ntmps95
  go_wp2_with (at_builtin; refine app_u64 _ rfl (.tmp 6) (.tmp 7) rfl (b + 2) A i c (zs i) rfl (Hown.out.alloc _) (W.heap.size + 1) _ 1 1 [.int .u64 0] rfl rfl Hone.out (fun u hu => by rw [List.mem_singleton] at hu; subst hu; rfl) (by omega) (by simp; omega) ?_; intro A' c' w3 h2 h3; have hb3 : Blk w3 b 82 [.slice A i c] := (h3.block b (by have := Hb.out.lt; simp; omega) (fun e => Hno.out.1 e.symm)).trans (Hb.out.alloc _); have hc3 := hb3.cell 0; have hf3 := hb3.frozen 0; rw [show ([Value.slice A i c] : List Value)[0]? = some (.slice A i c) from rfl] at hc3; have Hb3 := Lib.hid hb3; have H2 := Lib.hid h2; have H3 := Lib.hid h3; clear h2 h3 hb3)
  go_ret
  refine ⟨rfl, ⟨A', c', Hb3.out.set 0 (.slice A' (i + 1) c'), ?_, ?_, ?_⟩, ?_⟩
  · have hne : (Value.slice A' (i + 1) c').ownBlock ≠ some b := fun e => by have := (H2.out.lt b e).1; omega
    rw [zs_succ]
    refine H2.out.kept (row := some b) ⟨rfl, rfl, rfl, by simp [World.setCell], fun k hk hn => Below.heap_setCell _ _ _ _ (fun e => hn (by rw [e]))⟩ ?_
    cases hv : (Value.slice A' (i + 1) c').ownBlock with
    | none => exact .inl rfl
    | some k => right; intro e; injection e with e; exact hne (by rw [hv, e])
  · exact ((Hbel.out.alloc (by omega) _).trans ((own_below (Hown.out.alloc _) H3.out (by simp; omega)).mono (by omega))).setCell (p := ⟨b, 0, none⟩) (Nat.le_refl _) _
  · have := H3.out.size
    simp [World.setCell] at this ⊢
    omega
  · rw [Below.heap_setCell _ _ _ _ (by show b + 1 ≠ b; omega), H3.out.block (b + 1) (by simp; omega) (fun e => Hno.out.2 e.symm), Below.heap_alloc _ _ _ (by omega)]
set_option maxRecDepth 100000 in
set_option maxHeartbeats 400000 in
theorem types_Zero (s : ByteArray) (h47 : s.size ≤ 2000000) (w : World) :
    Calls Tryd.prog 55 #[.string s] w fun e w' => Below w.heap.size w w' ∧ ∃ A n c, e = .returned (.slice A n c) ∧ (allL s = true → n = s.size ∧ w'.ownsRow w.heap.size 22 1 (.slice A n c) n (zs n)) := by
  have HEach : Hid (∀ W : World, W.heap.size = w.heap.size + 1 → ZInv w.heap.size w 0 (W.iter s 0) → Calls Tryd.prog 93 #[.string s, .func (.func 95) #[] #[.pointer (some ⟨w.heap.size, 0, none⟩)]] W fun e w' => e = .returned (.bool (allL s)) ∧ ∃ k, ZInv w.heap.size w k w' ∧ k ≤ s.size ∧ (allL s = true → k = s.size)) :=
    Lib.hid (fun W hW h0 => each_zero s (by omega) [.pointer (some ⟨w.heap.size, 0, none⟩)] W (ZInv w.heap.size w) h0
      (fun i V pos _ hi => by rw [hW]; exact hi.iter pos)
      (fun i ch V hi hinv _ => by
        have := zero_one w.heap.size i i ch w V hinv (by omega)
        rw [hW]
        exact this))
  go_enter Tryd.func55, Tryd.ntmps55
  go_wp2_with fail
  refine (HEach.out _ (by simp) ⟨none, 0, ?_, World.ownsRow_nil _ _ _ _, ?_, ?_⟩).mono ?_
  · exact (Blk.new w 82 [.slice none 0 0]).alloc _
  · exact ((Below.refl _ _).alloc (Nat.le_refl _) _).alloc (by simp) _
  · simp [World.iter]
  rintro e w1 ⟨rfl, k, ⟨A, c, h1, h2, h3, h4⟩, hk, hall⟩
  have Hown := Lib.hid h2; clear h2
  have Hbel := Lib.hid h3; clear h3
  have Hall := Lib.hid hall; clear hall
  have hc0 : w1.cell? ⟨w.heap.size, 0, none⟩ = some (.slice A k c) := h1.cell 0
  clear h1 h4
  cases hb : allL s with
  | false =>
    go_wp2_with fail
    go_ret
    exact ⟨Hbel.out, none, 0, 0, rfl, fun h => by rw [hb] at h; cases h⟩
  | true =>
    go_wp2_with fail
    go_ret
    refine ⟨Hbel.out, A, k, c, rfl, fun _ => ⟨Hall.out hb, ?_⟩⟩
    exact World.ownsRow.mono Hown.out (by omega)
end Go.Proofs.YtndkhlafpcedbaaDoor
