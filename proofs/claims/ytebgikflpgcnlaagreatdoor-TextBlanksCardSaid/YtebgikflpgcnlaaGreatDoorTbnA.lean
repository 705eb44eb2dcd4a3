/- append of texts and of a byte onto a row of the call's own: what else it leaves alone. -/
import Derived.Test.YtebgikflpgcnlaaGreatDoorT14
import Derived.Test.YtebgikflpgcnlaaGreatDoorT09
import Derived.Test.YtebgikflpgcnlaaGreatDoorT02
import Derived.Test.YtebgikflpgcnlaaGreatDoorT03
import Derived.Test.YtebgikflpgcnlaaGreatDoorT01
import Derived.Lib.AppendStr
import Derived.Lib.Hide
import Derived.Handy
namespace Go.Proofs.YtebgikflpgcnlaaGreatDoor
set_option linter.unusedVariables false
set_option linter.unusedSimpArgs false
open Go.RowKit
theorem append_str_at {P : Program} (w : World) (base : Nat) (t u ty e : TypeId) (i : TypeInfo) (ht : P.underlying t = some (.slice e)) (hu : P.underlying u = some .string) (hi : P.info? e = some i) (hz : i.zero = some (.int .u8 0)) (hsize : i.size = 1) (hby : i.bytes = 1)
    (v : Value) (n : Nat) (xs : List Value) (hown : w.ownsRow base e 1 v n xs) (s : ByteArray) (h47 : n + s.size ≤ 140737488351232) (hbase : base ≤ w.heap.size) :
    ∃ v' w', (Builtin.append_ #[t, u] ty #[v, .string s]).run P w = .ok v' w' ∧ w'.ownsRow base e 1 v' (n + s.size) (xs ++ Lib.strCells s) ∧ w.grownBy w' v.ownBlock ∧ (v'.ownBlock = v.ownBlock ∨ v'.ownBlock = some w.heap.size) := by
  obtain ⟨v', w', hr, h2, h3, h4⟩ := Lib.run_append_own_string (P := P) w base t u ty e i ht hu hi hz hsize hby v n xs hown s (by unfold maxLen; omega) (by omega) hbase
  refine ⟨v', w', hr, h2, h3, ?_⟩
  have hxl : xs.length = n := by simpa using hown.1
  rcases hown.2 with ⟨rfl, rfl⟩ | ⟨g, cap, cur, rfl, hbg, hg, hnc, hcm, hcs, htake⟩
  · rcases h2.2 with ⟨rfl, _⟩ | ⟨g, cap, cur, rfl, hbg, hg, hnc, hcm, hcs, htake⟩
    · exact .inl rfl
    · by_cases hm : s.size = 0
      · have := h4.2 ⟨rfl, hm⟩
        cases this
      · have hr2 := run_append_nil_string (P := P) w t u ty e i (.int .u8 0) ht hu hi hz s (by omega) (by omega) (by rw [hby]; omega)
        rw [hr2] at hr
        injection hr with hr _
        rw [← hr]
        exact .inr rfl
  · by_cases hroom : n + s.size ≤ cap
    · have hr2 := Lib.run_append_room_string (P := P) w t u ty e i ht hu hi hsize g n cap cur hg s hroom (by simp at hcs; omega)
      rw [hr2] at hr
      injection hr with hr _
      rw [← hr]
      exact .inl rfl
    · have holds : ∀ j u, xs[j]? = some u → w.cell? ((⟨g, 0, none⟩ : Addr).add j) = some u := hown.cells (g := g) rfl
      have hr2 := Lib.run_append_grow_string (P := P) w t u ty e i (.int .u8 0) ht hu hi hz ⟨g, 0, none⟩ n cap xs (by rw [hsize]; simpa using hxl) holds s (by omega) (by unfold maxLen at *; omega) (by rw [hby]; exact growslice_fits (by omega) (by omega))
      rw [hr2] at hr
      injection hr with hr _
      rw [← hr]
      exact .inr rfl
/-- Bytes in a row of the call's own; 'w0': the world at which the row began. -/
def OwnBy (w0 W : World) (A : Option Addr) (n c : Nat) (l : List UInt8) : Prop := W.ownsRow w0.heap.size 5 1 (.slice A n c) n (l.map bv) ∧ Below w0.heap.size w0 W
theorem OwnBy.len {w0 W : World} {A : Option Addr} {n c : Nat} {l : List UInt8} (h : OwnBy w0 W A n c l) : n = l.length := by have := h.1.1; simp at this; exact this.symm
/-- The world w7 is as it was but for the row of block 'r7'; the row of now is that one, or lies in a block made since. -/
def Aside (w7 : World) (r7 : Option Nat) (W : World) (v : Value) : Prop := w7.grownBy W r7 ∧ (v.ownBlock = r7 ∨ ∀ g, v.ownBlock = some g → w7.heap.size ≤ g)
theorem Aside.refl (w7 : World) (v : Value) : Aside w7 v.ownBlock w7 v := ⟨World.grownBy.refl w7 _, .inl rfl⟩
theorem Aside.step {w7 W W' : World} {r7 : Option Nat} {v v' : Value} (h : Aside w7 r7 W v) (hg : W.grownBy W' v.ownBlock) (ha : v'.ownBlock = v.ownBlock ∨ v'.ownBlock = some W.heap.size) : Aside w7 r7 W' v' := by
  obtain ⟨h1, h2⟩ := h
  refine ⟨⟨hg.os.trans h1.os, hg.tape.trans h1.tape, hg.output.trans h1.output, Nat.le_trans h1.size hg.size, fun k hk hn => ?_⟩, ?_⟩
  · rw [hg.block k (Nat.lt_of_lt_of_le hk h1.size) (fun e => ?_)]
    · exact h1.block k hk hn
    · rcases h2 with h2 | h2
      · exact hn (e.trans h2)
      · exact absurd (h2 k e.symm) (by omega)
  · rcases ha with ha | ha
    · rw [ha]; exact h2
    · right
      intro g hg'
      rw [ha] at hg'
      injection hg' with hg'
      have := h1.size
      omega
theorem Aside.alloc {w7 W : World} {r7 : Option Nat} {v : Value} (h : Aside w7 r7 W v) (o : Obj) : Aside w7 r7 (W.alloc o) v := by
  have := h.1.size
  exact ⟨⟨h.1.os, h.1.tape, h.1.output, by simp; omega, fun k hk hn => (heap_alloc_old W o (by omega)).trans (h.1.block k hk hn)⟩, h.2⟩
theorem OwnBy.alloc {w0 W : World} {A : Option Addr} {n c : Nat} {l : List UInt8} (h : OwnBy w0 W A n c l) (o : Obj) : OwnBy w0 (W.alloc o) A n c l := ⟨h.1.alloc o, h.2.alloc h.2.size o⟩
theorem OwnBy.below {w0 W W' : World} {A : Option Addr} {n c : Nat} {l : List UInt8} (h : OwnBy w0 W A n c l) (hb : Below W.heap.size W W') : OwnBy w0 W' A n c l := ⟨own_keptz h.1 hb, h.2.trans (hb.mono h.2.size)⟩
theorem strCells_bv (t : ByteArray) : Lib.strCells t = t.data.toList.map bv := rfl
/-- append of a text. -/
theorem app_by (w0 : World) {w7 : World} {r7 : Option Nat} (w : World) {ops : Array Oper} {rest : List Oper} {o : Oper} {a : Act} {Q : Exit → Act → World → Prop} (hgd : o.guard = none) (s x : Operand)
    (ho : o.op = .call { callee := .builtin .append, args := #[s, x], argTypes := #[41, 9] }) (A : Option Addr) (n c : Nat) (l : List UInt8) (hs : a.eval s = .slice A n c) (hown : OwnBy w0 w A n c l) (has : Aside w7 r7 w (.slice A n c)) (t : ByteArray) (t' : List UInt8) (ht : t.data.toList = t') (hx : a.eval x = .string t) (h47 : l.length + t'.length ≤ 140737488351232)
    (h : ∀ A' n' c' w', OwnBy w0 w' A' n' c' (l ++ t') → Aside w7 r7 w' (.slice A' n' c') → wpList Tryz.prog ops Q rest (a.put o.dst (.slice A' n' c')) w') : wpList Tryz.prog ops Q (o :: rest) a w := by
  subst ht
  have hts : t.data.toList.length = t.size := by simp
  have hln := hown.len
  obtain ⟨i0, hi, hz, hs', hb⟩ := info_parts info_u8
  refine wpList_plain hgd fun _ hK => ?_
  obtain ⟨v', w', hrun, h2, h3, h4⟩ := append_str_at (P := Tryz.prog) w w0.heap.size 41 9 o.type 5 i0 Tryz.underlying41 Tryz.underlying9 hi hz hs' hb _ _ _ hown.1 t (by omega) hown.2.size
  obtain ⟨A', c', rfl⟩ := own_form h2
  rw [strCells_bv, ← List.map_append] at h2
  have hk := h A' _ c' w' ⟨h2, hown.2.trans (own_below hown.1 h3 hown.2.size)⟩ (has.step h3 h4)
  unfold Oper.wp execOp
  simp only [ho, resolve, invoke, builtin, Sem.run_bind, Sem.run_pure, Result.andThen_ok, List.map_toArray, List.map_cons, List.map_nil, hs, hx, hrun]
  exact hK _ _ hk
/-- append of one byte. -/
theorem app_by1 (w0 : World) {w7 : World} {r7 : Option Nat} (w : World) (b : UInt8) {ops : Array Oper} {rest : List Oper} {o : Oper} {a : Act} {Q : Exit → Act → World → Prop} (hgd : o.guard = none) (s x : Operand)
    (ho : o.op = .call { callee := .builtin .append, args := #[s, x], argTypes := #[41, 41] }) (A : Option Addr) (n c : Nat) (l : List UInt8) (hs : a.eval s = .slice A n c) (hown : OwnBy w0 w A n c l) (has : Aside w7 r7 w (.slice A n c)) (hx : a.eval x = .slice (some ⟨w.heap.size, 0, none⟩) 1 1) (h47 : l.length + 1 ≤ 140737488351232)
    (h : ∀ A' n' c' w', OwnBy w0 w' A' n' c' (l ++ [b]) → Aside w7 r7 w' (.slice A' n' c') → wpList Tryz.prog ops Q rest (a.put o.dst (.slice A' n' c')) w') : wpList Tryz.prog ops Q (o :: rest) a (w.alloc (.cells #[bv b] 5)) := by
  have hln := hown.len
  obtain ⟨i0, hi, hz, hs', hb⟩ := info_parts info_u8
  refine wpList_app (P := Tryz.prog) _ hgd s x 41 ho w0.heap.size 5 i0 (.int .u8 0) 1 Tryz.underlying41 hi hz hs' hb rfl _ n (l.map bv) hs (hown.1.alloc _) (w.heap.size + 1) _ 1 1 [bv b] hx rfl (row_one w (bv b) 5) (fun u hu => by rw [List.mem_singleton] at hu; subst hu; rfl) (by unfold maxLen; omega) (by omega) (by have := hown.2.size; simp; omega) ?_
  intro A' c' w' h2 h3 h4
  have e2 : (l ++ [b]).map bv = l.map bv ++ [bv b] := by rw [List.map_append]; rfl
  rw [← e2] at h2
  exact h A' _ c' w' ⟨h2, (hown.alloc (.cells #[bv b] 5)).2.trans (own_below (hown.1.alloc _) h3 (by have := hown.2.size; simp; omega))⟩ ((has.alloc _).step h3 h4)
end Go.Proofs.YtebgikflpgcnlaaGreatDoor
