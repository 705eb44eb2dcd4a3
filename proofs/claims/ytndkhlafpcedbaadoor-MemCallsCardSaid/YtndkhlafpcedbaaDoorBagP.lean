/- The bag: lists marked, gone on with: how they stand. No program in sight. -/
import Derived.Test.YtndkhlafpcedbaaDoorAppZ
import Derived.Test.YtndkhlafpcedbaaDoorShapeP
namespace Go.Proofs.YtndkhlafpcedbaaDoor
set_option linter.unusedVariables false
open Go.RowKit
/-- append of one: the block of what comes back is the old one or a new one, and no other block has changed. -/
theorem app1 {P : Program} (w : World) (base : Nat) (t ty e : TypeId) (i : TypeInfo) (z : Value) (bytes : Nat) (ht : P.underlying t = some (.slice e)) (hi : P.info? e = some i) (hz : i.zero = some z)
    (hsize : i.size = 1) (hby : i.bytes = bytes) (hzs : z.cells.size = 1) (v : Value) (n : Nat) (xs : List Value) (hown : w.ownsRow base e 1 v n xs) (s c : Nat) (u : Value) (hu : w.cell? ⟨s, 0, none⟩ = some u) (h1 : u.oneCell' = true)
    (h63 : n + 1 ≤ maxLen) (hbytes : (n + 1) * bytes ≤ 140737488355328) (hbase : base ≤ w.heap.size) :
    ∃ v' w', (Builtin.append_ #[t, t] ty #[v, .slice (some ⟨s, 0, none⟩) 1 c]).run P w = .ok v' w' ∧ w'.ownsRow base e 1 v' (n + 1) (xs ++ [u]) ∧ w.grownBy w' v'.ownBlock ∧ (v'.ownBlock = v.ownBlock ∨ v'.ownBlock = some w.heap.size) := by
  have hnews : ∀ (j : Nat) x, [u][j]? = some x → w.cell? ((⟨s, 0, none⟩ : Addr).add j) = some x := by
    intro j x hx
    have hj : j = 0 := by have := (List.getElem?_eq_some_iff.1 hx).1; simp at this; omega
    subst hj
    simp at hx
    subst hx
    simpa [Addr.add] using hu
  have h1' : ∀ x ∈ [u], x.oneCell' = true := by intro x hx; simp at hx; subst hx; exact h1
  obtain ⟨v', w', hrun, h2, h3, _, h5⟩ := run_append_own_at (P := P) w base t ty e i z 1 bytes ht hi hz hsize hby hzs (by omega) v n xs hown ⟨s, 0, none⟩ 1 c [u] rfl hnews h1' h63 hbytes hbase
  refine ⟨v', w', hrun, h2, ?_, h5⟩
  have lift : w.grownBy w' none → w.grownBy w' v'.ownBlock := fun hg => ⟨hg.os, hg.tape, hg.output, hg.size, fun k hk _ => hg.block k hk (by simp)⟩
  rcases hown.2 with ⟨rfl, rfl⟩ | ⟨g, cap, cur, rfl, _, hg, hnc, hcm, hcs, _⟩
  · exact lift h3
  · by_cases hroom : n + 1 ≤ cap
    · have := run_append_room (P := P) w t ty e i ht hi g n cap cur hg ⟨s, 0, none⟩ 1 c [u] (by rw [hsize]; rfl) hnews h1' hroom (by rw [hsize, hcs]; simp; omega)
      rw [this] at hrun
      injection hrun with e1 e2
      subst e1
      exact h3
    · obtain ⟨v2, w2, hrun2, _, hg2⟩ := run_append_arg_grows (P := P) w t ty e i z 1 bytes ht hi hz hsize hby hzs (by omega) ⟨g, 0, none⟩ n cap xs hown.1 (fun j x hx => hown.cells rfl j x hx) ⟨s, 0, none⟩ 1 c [u] rfl hnews (by omega) h63 hbytes
      rw [hrun2] at hrun
      injection hrun with e1 e2
      subst e1 e2
      exact lift hg2
theorem wpList_app1 {P : Program} (w : World) {ops : Array Oper} {rest : List Oper} {o : Oper} {a : Act} {Q : Exit → Act → World → Prop} (hgd : o.guard = none) (s x : Operand) (t : TypeId)
    (ho : o.op = .call { callee := .builtin .append, args := #[s, x], argTypes := #[t, t] })
    (base : Nat) (e : TypeId) (i : TypeInfo) (z : Value) (bytes : Nat) (ht : P.underlying t = some (.slice e)) (hi : P.info? e = some i) (hz : i.zero = some z)
    (hsize : i.size = 1) (hby : i.bytes = bytes) (hzs : z.cells.size = 1)
    (v : Value) (n : Nat) (xs : List Value) (hs : a.eval s = v) (hown : w.ownsRow base e 1 v n xs) (sb c : Nat) (u : Value) (hx : a.eval x = .slice (some ⟨sb, 0, none⟩) 1 c) (hu : w.cell? ⟨sb, 0, none⟩ = some u) (h1 : u.oneCell' = true)
    (h63 : n + 1 ≤ maxLen) (hbytes : (n + 1) * bytes ≤ 140737488355328) (hbase : base ≤ w.heap.size)
    (h : ∀ A' c' w', w'.ownsRow base e 1 (.slice A' (n + 1) c') (n + 1) (xs ++ [u]) → w.grownBy w' (Value.slice A' (n + 1) c').ownBlock → ((Value.slice A' (n + 1) c').ownBlock = v.ownBlock ∨ (Value.slice A' (n + 1) c').ownBlock = some w.heap.size) → wpList P ops Q rest (a.put o.dst (.slice A' (n + 1) c')) w') : wpList P ops Q (o :: rest) a w := by
  refine wpList_plain hgd fun _ hK => ?_
  obtain ⟨v', w', hrun, h2, h3, h4⟩ := app1 (P := P) w base t o.type e i z bytes ht hi hz hsize hby hzs v n xs hown sb c u hu h1 h63 hbytes hbase
  obtain ⟨A', c', rfl⟩ := own_formz h2
  unfold Oper.wp execOp
  simp only [ho, resolve, invoke, builtin, Sem.run_bind, Sem.run_pure, Result.andThen_ok, List.map_toArray, List.map_cons, List.map_nil, hs, hx, hrun]
  exact hK _ _ (h A' c' w' h2 h3 h4)
def blockOf (A : Option Addr) : Option Nat := A.map (·.block)
theorem ownBlock_of (A : Option Addr) (n c : Nat) : (Value.slice A n c).ownBlock = blockOf A := by cases A <;> rfl
def mks (mk : Nat → Nat → Value) (k m : Nat) : List Value := (List.range m).map (mk k)
theorem mks_len (mk : Nat → Nat → Value) (k m : Nat) : (mks mk k m).length = m := by simp [mks]
theorem mks_succ (mk : Nat → Nat → Value) (k m : Nat) : mks mk k (m + 1) = mks mk k m ++ [mk k m] := by simp [mks, List.range_succ]
theorem mks_get (mk : Nat → Nat → Value) (k m j : Nat) (h : j < m) : (mks mk k m)[j]? = some (mk k j) := by simp [mks, h]
theorem mks_take (mk : Nat → Nat → Value) (k m m' : Nat) (h : m' ≤ m) : (mks mk k m).take m' = mks mk k m' := by
  unfold mks
  rw [← List.map_take, List.take_range, Nat.min_eq_left h]
abbrev Hd := Option Addr × Nat × Nat
def hdV (h : Hd) : Value := .slice h.1 h.2.1 h.2.2
/-- The blocks of cells of type e are as they were. -/
structure EKeep (e : TypeId) (W W' : World) : Prop where
  size : W.heap.size ≤ W'.heap.size
  same : ∀ (b : Nat) cur, W.heap[b]? = some (.cells cur e (0, 0)) → W'.heap[b]? = some (.cells cur e (0, 0))
theorem EKeep.refl (e : TypeId) (W : World) : EKeep e W W := ⟨Nat.le_refl _, fun _ _ h => h⟩
theorem EKeep.trans {e : TypeId} {A B C : World} (h : EKeep e A B) (k : EKeep e B C) : EKeep e A C := ⟨Nat.le_trans h.size k.size, fun b cur hb => k.same b cur (h.same b cur hb)⟩
theorem EKeep.alloc (e : TypeId) (W : World) (o : Obj) : EKeep e W (W.alloc o) := ⟨by simp, fun b cur hb => (Below.heap_alloc W o b (Array.getElem?_eq_some_iff.1 hb).1).trans hb⟩
theorem EKeep.grown {e : TypeId} {W W' : World} {row : Option Nat} (hg : W.grownBy W' row) (hr : ∀ b, row = some b → ∀ cur, W.heap[b]? ≠ some (.cells cur e (0, 0))) : EKeep e W W' :=
  ⟨hg.size, fun b cur hb => (hg.block b (Array.getElem?_eq_some_iff.1 hb).1 (fun e' => hr b e'.symm cur hb)).trans hb⟩
theorem EKeep.own {e : TypeId} {W W' : World} {base n : Nat} {v : Value} {xs : List Value} (hk : EKeep e W W') (h : W.ownsRow base e 1 v n xs) : W'.ownsRow base e 1 v n xs := by
  refine ⟨h.1, ?_⟩
  rcases h.2 with hn | ⟨g, cap, cur, hv, hb, hg, rest⟩
  · exact .inl hn
  · exact .inr ⟨g, cap, cur, hv, hb, hk.same g cur hg, rest⟩
/-- A slice that reads as a list, from the head of its block on. -/
structure Rd1 (e : TypeId) (W : World) (A : Option Addr) (xs : List Value) : Prop where
  lt : ∀ b, blockOf A = some b → b < W.heap.size
  reads : 0 < xs.length → ∃ b cur, A = some ⟨b, 0, none⟩ ∧ W.heap[b]? = some (.cells cur e (0, 0)) ∧ cur.toList.take xs.length = xs
theorem Rd1.keep {e : TypeId} {W W' : World} {A : Option Addr} {xs : List Value} (h : Rd1 e W A xs) (hk : EKeep e W W') : Rd1 e W' A xs where
  lt b hb := Nat.lt_of_lt_of_le (h.lt b hb) hk.size
  reads hn := by obtain ⟨b, cur, h1, h2, h3⟩ := h.reads hn; exact ⟨b, cur, h1, hk.same b cur h2, h3⟩
theorem Rd1.cell {e : TypeId} {W : World} {A : Option Addr} {xs : List Value} (h : Rd1 e W A xs) {j : Nat} {u : Value} (hu : xs[j]? = some u) : ∃ b, A = some ⟨b, 0, none⟩ ∧ W.cell? ⟨b, j, none⟩ = some u := by
  have hj := (List.getElem?_eq_some_iff.1 hu).1
  obtain ⟨b, cur, h1, h2, h3⟩ := h.reads (by omega)
  refine ⟨b, h1, ?_⟩
  rw [← h3, List.getElem?_take, if_pos hj, Array.getElem?_toList] at hu
  simp [World.cell?, h2, hu]
theorem Rd1.own {e : TypeId} {W : World} {base n m c : Nat} {A : Option Addr} {xs : List Value} (h : W.ownsRow base e 1 (.slice A n c) n xs) (hm : m ≤ n) : Rd1 e W A (xs.take m) := by
  rcases h.2 with ⟨hv, h0⟩ | ⟨g, cap, cur, hv, hb, hg, hnc, _, hcs, htake⟩
  · injection hv with h1
    subst h1
    refine ⟨fun b hb => (by cases hb), fun hn => ?_⟩
    rw [List.length_take, h.1] at hn
    omega
  · injection hv with h1
    subst h1
    refine ⟨fun b hb => by injection hb with hb; subst hb; exact (Array.getElem?_eq_some_iff.1 hg).1, fun hn => ⟨g, cur, rfl, hg, ?_⟩⟩
    rw [Nat.mul_one] at htake
    rw [List.length_take, h.1, Nat.mul_one, Nat.min_eq_left hm, ← htake, List.take_take, Nat.min_eq_left hm]
/-! ### all lists marked -/
section
variable (base : Nat) (e : TypeId) (mk : Nat → Nat → Value) (bl : List Hd)
def Foot (b : Nat) : Prop := ∃ (q : Nat) (A : Option Addr) (n c : Nat), bl[q]? = some (A, n, c) ∧ blockOf A = some b
def Dist : Prop := ∀ (q q' : Nat) (A : Option Addr) (n c : Nat) (A' : Option Addr) (n' c' : Nat), bl[q]? = some (A, n, c) → bl[q']? = some (A', n', c') → q ≠ q' → ∀ b, blockOf A = some b → blockOf A' ≠ some b
def MA (W : World) (k i : Nat) : Prop := ∀ (q : Nat) A n c, bl[q]? = some (A, n, c) → ∃ xs, W.ownsRow base e 1 (.slice A n c) n xs ∧ (q < k → xs = mks mk q n) ∧ (q = k → xs.take i = mks mk q i)
end
section
variable {base : Nat} {e : TypeId} {mk : Nat → Nat → Value} {bl : List Hd} {W : World} {k i : Nat}
theorem MA.start (h : ∀ (q : Nat) A n c, bl[q]? = some (A, n, c) → ∃ xs, W.ownsRow base e 1 (.slice A n c) n xs) : MA base e mk bl W 0 0 := fun q A n c hq => by
  obtain ⟨xs, hx⟩ := h q A n c hq
  exact ⟨xs, hx, fun h => by omega, fun _ => rfl⟩
theorem MA.place (h : MA base e mk bl W k i) {A : Option Addr} {n c : Nat} (hk : bl[k]? = some (A, n, c)) (hi : i < n) : ∃ g u, A = some ⟨g, 0, none⟩ ∧ W.cell? ⟨g, i, none⟩ = some u ∧ W.frozen? ⟨g, i, none⟩ = false := by
  obtain ⟨xs, ho, _, _⟩ := h k A n c hk
  have hl : i < xs.length := by rw [ho.1]; omega
  rcases ho.2 with ⟨_, h0⟩ | ⟨g, cap, cur, hv, hb, hg, hnc, _, hcs, htake⟩
  · omega
  · injection hv with h1
    obtain ⟨u, hu⟩ : ∃ u, xs[i]? = some u := ⟨_, List.getElem?_eq_getElem hl⟩
    refine ⟨g, u, h1, ?_, by simp [World.frozen?, hg]⟩
    rw [← htake, List.getElem?_take, if_pos (by omega), Array.getElem?_toList] at hu
    simp [World.cell?, hg, hu]
theorem MA.step (h : MA base e mk bl W k i) (hd : Dist bl) {g n c : Nat} (hk : bl[k]? = some (some ⟨g, 0, none⟩, n, c)) (hi : i < n) : MA base e mk bl (W.setCell ⟨g, i, none⟩ (mk k i)) k (i + 1) := fun q A n' c' hq => by
  obtain ⟨xs, ho, h1, h2⟩ := h q A n' c' hq
  by_cases hqk : q = k
  · subst hqk
    rw [hk] at hq
    injection hq with hq
    injection hq with e1 e2
    injection e2 with e2 e3
    subst e1 e2 e3
    refine ⟨_, (ho.stored i (mk q i)).1, fun h => by omega, fun _ => ?_⟩
    rw [mks_succ, ← h2 rfl]
    have hl : i < xs.length := by rw [ho.1]; omega
    rw [List.take_add_one, List.take_set_of_le (Nat.le_refl i), List.getElem?_set_self hl]
    rfl
  · refine ⟨xs, ho.kept (row := some g) ⟨rfl, rfl, rfl, by simp [World.setCell], fun b _ hn => Below.heap_setCell _ _ _ _ (fun e => hn (by rw [e]))⟩ (.inr ?_), h1, fun e => absurd e hqk⟩
    rw [ownBlock_of]
    exact fun e => hd q k A n' c' _ _ _ hq hk hqk g e rfl
theorem MA.next (h : MA base e mk bl W k i) {A : Option Addr} {n c : Nat} (hk : bl[k]? = some (A, n, c)) (hi : i = n) : MA base e mk bl W (k + 1) 0 := fun q A' n' c' hq => by
  obtain ⟨xs, ho, h1, h2⟩ := h q A' n' c' hq
  refine ⟨xs, ho, fun hlt => ?_, fun _ => rfl⟩
  by_cases hqk : q = k
  · subst hqk
    rw [hk] at hq
    injection hq with hq
    injection hq with e1 e2
    injection e2 with e2 e3
    subst e1 e2 e3
    have := h2 rfl
    rw [hi, List.take_of_length_le (by rw [ho.1]; omega)] at this
    exact this
  · exact h1 (by omega)
end
/-! ### all lists gone on with -/
structure Tr where
  A : Option Addr
  k : Nat
  m : Nat
section
variable (base : Nat) (e : TypeId) (mk : Nat → Nat → Value) (bl : List Hd)
/-- Behind k lists: what reads, what is still owned, what was gathered. -/
structure LB (W : World) (k : Nat) (rs : List Tr) (ones mores : List Value) : Prop where
  reads : ∀ t ∈ rs, Rd1 e W t.A (mks mk t.k t.m)
  origs : ∀ (q : Nat) A n c, bl[q]? = some (A, n, c) → ⟨A, q, n⟩ ∈ rs
  own : ∀ (q : Nat) A n c, k ≤ q → bl[q]? = some (A, n, c) → W.ownsRow base e 1 (.slice A n c) n (mks mk q n)
  excl : ∀ t ∈ rs, ∀ (q : Nat) A n c, k ≤ q → bl[q]? = some (A, n, c) → ∀ b, blockOf A = some b → blockOf t.A = some b → t.k = q ∧ t.m ≤ n
  one : ones.length = k ∧ ∀ q, q < k → ∃ A n c A1 c1, bl[q]? = some (A, n, c) ∧ ones[q]? = some (.slice A1 (n + 1) c1) ∧ ⟨A1, q, n + 1⟩ ∈ rs
  more : mores.length = k ∧ ∀ q, q < k → ∃ A n c A1 c1, bl[q]? = some (A, n, c) ∧ mores[q]? = some (.slice A1 (n + 70) c1) ∧ ⟨A1, q, n + 70⟩ ∈ rs
/-- In list k, j appended. -/
structure LI (W : World) (k j L : Nat) (Al : Option Addr) (cl : Nat) (rs : List Tr) (ones mores : List Value) : Prop where
  reads : ∀ t ∈ rs, Rd1 e W t.A (mks mk t.k t.m)
  origs : ∀ (q : Nat) A n c, bl[q]? = some (A, n, c) → ⟨A, q, n⟩ ∈ rs
  ownl : W.ownsRow base e 1 (.slice Al (L + j) cl) (L + j) (mks mk k (L + j))
  exl : ∀ t ∈ rs, ∀ b, blockOf Al = some b → blockOf t.A = some b → t.k = k ∧ t.m ≤ L + j
  own : ∀ (q : Nat) A n c, k + 1 ≤ q → bl[q]? = some (A, n, c) → W.ownsRow base e 1 (.slice A n c) n (mks mk q n)
  excl : ∀ t ∈ rs, ∀ (q : Nat) A n c, k + 1 ≤ q → bl[q]? = some (A, n, c) → ∀ b, blockOf A = some b → blockOf t.A = some b → t.k = q ∧ t.m ≤ n
  dl : ∀ (q : Nat) A n c, k + 1 ≤ q → bl[q]? = some (A, n, c) → ∀ b, blockOf A = some b → blockOf Al ≠ some b
  one : (j = 0 → ones.length = k) ∧ (0 < j → ones.length = k + 1) ∧ ∀ q, q < ones.length → ∃ A n c A1 c1, bl[q]? = some (A, n, c) ∧ ones[q]? = some (.slice A1 (n + 1) c1) ∧ ⟨A1, q, n + 1⟩ ∈ rs
  more : mores.length = k ∧ ∀ q, q < k → ∃ A n c A1 c1, bl[q]? = some (A, n, c) ∧ mores[q]? = some (.slice A1 (n + 70) c1) ∧ ⟨A1, q, n + 70⟩ ∈ rs
end
section
variable {base : Nat} {e : TypeId} {mk : Nat → Nat → Value} {bl : List Hd} {W W' : World} {k j L cl : Nat} {Al : Option Addr} {rs : List Tr} {ones mores : List Value}
theorem LB.keep (h : LB base e mk bl W k rs ones mores) (hk : EKeep e W W') : LB base e mk bl W' k rs ones mores :=
  ⟨fun t ht => (h.reads t ht).keep hk, h.origs, fun q A n c h1 h2 => hk.own (h.own q A n c h1 h2), h.excl, h.one, h.more⟩
theorem LI.keep (h : LI base e mk bl W k j L Al cl rs ones mores) (hk : EKeep e W W') : LI base e mk bl W' k j L Al cl rs ones mores :=
  ⟨fun t ht => (h.reads t ht).keep hk, h.origs, hk.own h.ownl, h.exl, fun q A n c h1 h2 => hk.own (h.own q A n c h1 h2), h.excl, h.dl, h.one, h.more⟩
theorem LB.start (h : MA base e mk bl W bl.length 0) (hd : Dist bl) : LB base e mk bl W 0 ((List.range bl.length).filterMap fun q => (bl[q]?).map fun h => ⟨h.1, q, h.2.1⟩) [] [] := by
  have own : ∀ (q : Nat) A n c, bl[q]? = some (A, n, c) → W.ownsRow base e 1 (.slice A n c) n (mks mk q n) := fun q A n c hq => by
    obtain ⟨xs, ho, h1, _⟩ := h q A n c hq
    have := h1 (List.getElem?_eq_some_iff.1 hq).1
    rw [this] at ho
    exact ho
  have form : ∀ t ∈ (List.range bl.length).filterMap fun q => (bl[q]?).map fun h => (⟨h.1, q, h.2.1⟩ : Tr), ∃ c, bl[t.k]? = some (t.A, t.m, c) := by
    intro t ht
    obtain ⟨q, _, hq⟩ := List.mem_filterMap.1 ht
    cases hb : bl[q]? with
    | none => rw [hb] at hq; cases hq
    | some x =>
      rw [hb] at hq
      simp at hq
      subst hq
      exact ⟨x.2.2, hb⟩
  refine ⟨fun t ht => ?_, fun q A n c hq => ?_, fun q A n c _ hq => own q A n c hq, fun t ht q A n c _ hq b hb hb' => ?_, ⟨rfl, fun q hq => by omega⟩, ⟨rfl, fun q hq => by omega⟩⟩
  · obtain ⟨c, hc⟩ := form t ht
    have := Rd1.own (own _ _ _ _ hc) (Nat.le_refl _)
    rwa [List.take_of_length_le (by rw [mks_len]; exact Nat.le_refl _)] at this
  · exact List.mem_filterMap.2 ⟨q, by simpa using (List.getElem?_eq_some_iff.1 hq).1, by rw [hq]; rfl⟩
  · obtain ⟨c', hc'⟩ := form t ht
    by_cases hqk : t.k = q
    · rw [hqk] at hc'
      rw [hq] at hc'
      injection hc' with hc'
      injection hc' with e1 e2
      injection e2 with e2 e3
      exact ⟨hqk, by omega⟩
    · exact absurd hb (hd t.k q _ _ _ _ _ _ hc' hq hqk b hb')
theorem LI.start (h : LB base e mk bl W k rs ones mores) (hd : Dist bl) {c : Nat} (hk : bl[k]? = some (Al, L, c)) : LI base e mk bl W k 0 L Al c rs ones mores where
  reads := h.reads
  origs := h.origs
  ownl := h.own k Al L c (Nat.le_refl _) hk
  exl t ht b hb hb' := h.excl t ht k Al L c (Nat.le_refl _) hk b hb hb'
  own q A n c h1 h2 := h.own q A n c (by omega) h2
  excl t ht q A n c h1 h2 := h.excl t ht q A n c (by omega) h2
  dl q A n c h1 h2 b hb := hd q k _ _ _ _ _ _ h2 hk (by omega) b hb
  one := ⟨fun _ => h.one.1, fun h => by omega, fun q hq => h.one.2 q (by rw [h.one.1] at hq; exact hq)⟩
  more := h.more
theorem LI.step (h : LI base e mk bl W k j L Al cl rs ones mores) {A' : Option Addr} {c' : Nat} (ho : W'.ownsRow base e 1 (.slice A' (L + j + 1) c') (L + j + 1) (mks mk k (L + j) ++ [mk k (L + j)]))
    (hg : W.grownBy W' (Value.slice A' (L + j + 1) c').ownBlock) (hb : (Value.slice A' (L + j + 1) c').ownBlock = (Value.slice Al (L + j) cl).ownBlock ∨ (Value.slice A' (L + j + 1) c').ownBlock = some W.heap.size) (hones : j = 0 → True) :
    (∀ t ∈ rs, Rd1 e W' t.A (mks mk t.k t.m)) ∧ W'.ownsRow base e 1 (.slice A' (L + (j + 1)) c') (L + (j + 1)) (mks mk k (L + (j + 1))) ∧ (∀ t ∈ rs, ∀ b, blockOf A' = some b → blockOf t.A = some b → t.k = k ∧ t.m ≤ L + (j + 1)) ∧
      (∀ (q : Nat) A n c, k + 1 ≤ q → bl[q]? = some (A, n, c) → W'.ownsRow base e 1 (.slice A n c) n (mks mk q n)) ∧ (∀ (q : Nat) A n c, k + 1 ≤ q → bl[q]? = some (A, n, c) → ∀ b, blockOf A = some b → blockOf A' ≠ some b) := by
  rw [ownBlock_of] at hg hb
  rw [ownBlock_of] at hb
  rw [← mks_succ] at ho
  have hex : ∀ t ∈ rs, ∀ b, blockOf A' = some b → blockOf t.A = some b → t.k = k ∧ t.m ≤ L + j := fun t ht b h1 h2 => by
    rcases hb with hb | hb
    · rw [hb] at h1; exact h.exl t ht b h1 h2
    · rw [hb] at h1
      injection h1 with h1
      have := (h.reads t ht).lt b h2
      omega
  have hdl : ∀ (q : Nat) A n c, k + 1 ≤ q → bl[q]? = some (A, n, c) → ∀ b, blockOf A = some b → blockOf A' ≠ some b := fun q A n c h1 h2 b hA hA' => by
    rcases hb with hb | hb
    · rw [hb] at hA'; exact h.dl q A n c h1 h2 b hA hA'
    · rw [hb] at hA'
      injection hA' with hA'
      have := ((h.own q A n c h1 h2).lt b (by rw [ownBlock_of]; exact hA)).2
      omega
  refine ⟨fun t ht => ?_, ho, fun t ht b h1 h2 => ⟨(hex t ht b h1 h2).1, by have := (hex t ht b h1 h2).2; omega⟩, fun q A n c h1 h2 => ?_, hdl⟩
  · refine ⟨fun b hb' => Nat.lt_of_lt_of_le ((h.reads t ht).lt b hb') hg.size, fun hn => ?_⟩
    obtain ⟨b, cur, e1, e2, e3⟩ := (h.reads t ht).reads hn
    by_cases hbe : blockOf A' = some b
    · obtain ⟨hk, hm⟩ := hex t ht b hbe (by rw [e1]; rfl)
      have hr := Rd1.own ho (m := t.m) (by omega)
      rw [mks_take _ _ _ _ (by omega), ← hk] at hr
      obtain ⟨b2, cur2, f1, f2, f3⟩ := hr.reads hn
      have : b2 = b := by rw [f1] at hbe; injection hbe
      subst this
      exact ⟨b2, cur2, e1, f2, f3⟩
    · exact ⟨b, cur, e1, (hg.block b (Array.getElem?_eq_some_iff.1 e2).1 (fun e => hbe e.symm)).trans e2, e3⟩
  · refine (h.own q A n c h1 h2).kept hg ?_
    rw [ownBlock_of]
    cases hA : blockOf A with
    | none => exact .inl rfl
    | some b => exact .inr fun e => hdl q A n c h1 h2 b hA e.symm
/-- Behind an append that is not the first one. -/
theorem LI.went (h : LI base e mk bl W k j L Al cl rs ones mores) (hj : 0 < j) {A' : Option Addr} {c' : Nat} (ho : W'.ownsRow base e 1 (.slice A' (L + j + 1) c') (L + j + 1) (mks mk k (L + j) ++ [mk k (L + j)]))
    (hg : W.grownBy W' (Value.slice A' (L + j + 1) c').ownBlock) (hb : (Value.slice A' (L + j + 1) c').ownBlock = (Value.slice Al (L + j) cl).ownBlock ∨ (Value.slice A' (L + j + 1) c').ownBlock = some W.heap.size) : LI base e mk bl W' k (j + 1) L A' c' rs ones mores := by
  obtain ⟨h1, h2, h3, h4, h5⟩ := h.step ho hg hb (fun _ => trivial)
  exact ⟨h1, h.origs, h2, h3, h4, h.excl, h5, ⟨fun h => by omega, fun _ => h.one.2.1 hj, h.one.2.2⟩, h.more⟩
/-- Behind the first append, the list noted. -/
theorem LI.noted (h : LI base e mk bl W k 0 L Al cl rs ones mores) {W2 : World} {A' : Option Addr} {c' c : Nat} {A : Option Addr} (hk : bl[k]? = some (A, L, c)) (ho : W'.ownsRow base e 1 (.slice A' (L + 0 + 1) c') (L + 0 + 1) (mks mk k (L + 0) ++ [mk k (L + 0)]))
    (hg : W.grownBy W' (Value.slice A' (L + 0 + 1) c').ownBlock) (hb : (Value.slice A' (L + 0 + 1) c').ownBlock = (Value.slice Al (L + 0) cl).ownBlock ∨ (Value.slice A' (L + 0 + 1) c').ownBlock = some W.heap.size) (hk2 : EKeep e W' W2) :
    LI base e mk bl W2 k 1 L A' c' (⟨A', k, L + 1⟩ :: rs) (ones ++ [.slice A' (L + 1) c']) mores := by
  obtain ⟨h1, h2, h3, h4, h5⟩ := h.step ho hg hb (fun _ => trivial)
  have hl := h.one.1 rfl
  have hmem : ∀ t, t ∈ (⟨A', k, L + 1⟩ :: rs : List Tr) → t = ⟨A', k, L + 1⟩ ∨ t ∈ rs := fun t ht => List.mem_cons.1 ht
  have base0 : LI base e mk bl W' k 1 L A' c' (⟨A', k, L + 1⟩ :: rs) (ones ++ [.slice A' (L + 1) c']) mores := by
    refine ⟨fun t ht => ?_, fun q A n c hq => List.mem_cons_of_mem _ (h.origs q A n c hq), h2, fun t ht b e1 e2 => ?_, h4, fun t ht q A n c f1 f2 b e1 e2 => ?_, h5, ⟨fun h => by omega, fun _ => by simp [hl], fun q hq => ?_⟩, ⟨h.more.1, fun q hq => ?_⟩⟩
    · rcases hmem t ht with rfl | ht
      · have := Rd1.own h2 (Nat.le_refl _)
        rwa [List.take_of_length_le (by rw [mks_len]; exact Nat.le_refl _)] at this
      · exact h1 t ht
    · rcases hmem t ht with rfl | ht
      · exact ⟨rfl, Nat.le_refl _⟩
      · exact h3 t ht b e1 e2
    · rcases hmem t ht with rfl | ht
      · exact absurd e2 (h5 q A n c f1 f2 b e1)
      · exact h.excl t ht q A n c f1 f2 b e1 e2
    · by_cases hqk : q < ones.length
      · obtain ⟨A2, n2, c2, A3, c3, g1, g2, g3⟩ := h.one.2.2 q hqk
        exact ⟨A2, n2, c2, A3, c3, g1, by rw [List.getElem?_append_left hqk]; exact g2, List.mem_cons_of_mem _ g3⟩
      · have hq0 : q = k := by simp at hq; omega
        subst hq0
        exact ⟨A, L, c, A', c', hk, by rw [List.getElem?_append_right (by omega), hl, Nat.sub_self]; rfl, List.mem_cons_self ..⟩
    · obtain ⟨A2, n2, c2, A3, c3, g1, g2, g3⟩ := h.more.2 q hq
      exact ⟨A2, n2, c2, A3, c3, g1, g2, List.mem_cons_of_mem _ g3⟩
  exact base0.keep hk2
/-- The list is done. -/
theorem LI.done (h : LI base e mk bl W k 70 L Al cl rs ones mores) {A : Option Addr} {c : Nat} (hk : bl[k]? = some (A, L, c)) (hk2 : EKeep e W W') : LB base e mk bl W' (k + 1) (⟨Al, k, L + 70⟩ :: rs) ones (mores ++ [.slice Al (L + 70) cl]) := by
  have h' := h.keep hk2
  have hmem : ∀ t, t ∈ (⟨Al, k, L + 70⟩ :: rs : List Tr) → t = ⟨Al, k, L + 70⟩ ∨ t ∈ rs := fun t ht => List.mem_cons.1 ht
  have hl := h.one.2.1 (by omega)
  refine ⟨fun t ht => ?_, fun q A n c hq => List.mem_cons_of_mem _ (h.origs q A n c hq), fun q A n c f1 f2 => h'.own q A n c f1 f2, fun t ht q A n c f1 f2 b e1 e2 => ?_, ⟨hl, fun q hq => ?_⟩, ⟨by simp [h.more.1], fun q hq => ?_⟩⟩
  · rcases hmem t ht with rfl | ht
    · have := Rd1.own h'.ownl (Nat.le_refl _)
      rwa [List.take_of_length_le (by rw [mks_len]; exact Nat.le_refl _)] at this
    · exact h'.reads t ht
  · rcases hmem t ht with rfl | ht
    · exact absurd e2 (h.dl q A n c f1 f2 b e1)
    · exact h.excl t ht q A n c f1 f2 b e1 e2
  · obtain ⟨A2, n2, c2, A3, c3, g1, g2, g3⟩ := h.one.2.2 q (by omega)
    exact ⟨A2, n2, c2, A3, c3, g1, g2, List.mem_cons_of_mem _ g3⟩
  · by_cases hqk : q < k
    · obtain ⟨A2, n2, c2, A3, c3, g1, g2, g3⟩ := h.more.2 q hqk
      exact ⟨A2, n2, c2, A3, c3, g1, by rw [List.getElem?_append_left (by rw [h.more.1]; exact hqk)]; exact g2, List.mem_cons_of_mem _ g3⟩
    · have hq0 : q = k := by omega
      subst hq0
      exact ⟨A, L, c, Al, cl, hk, by rw [List.getElem?_append_right (by rw [h.more.1]; exact Nat.le_refl _), h.more.1, Nat.sub_self]; rfl, List.mem_cons_self ..⟩
end
/-- The blocks that were there, but for F's, are as they were. -/
structure KeptB (w w' : World) (F : Nat → Prop) : Prop where
  os : w'.os = w.os
  tape : w'.tape = w.tape
  output : w'.output = w.output
  size : w.heap.size ≤ w'.heap.size
  block : ∀ k, k < w.heap.size → ¬ F k → w'.heap[k]? = w.heap[k]?
section
variable {w W W' : World} {F : Nat → Prop}
theorem KeptB.refl (w : World) (F : Nat → Prop) : KeptB w w F := ⟨rfl, rfl, rfl, Nat.le_refl _, fun _ _ _ => rfl⟩
theorem KeptB.trans {A B C : World} (h : KeptB A B F) (k : KeptB B C F) : KeptB A C F :=
  ⟨k.os.trans h.os, k.tape.trans h.tape, k.output.trans h.output, Nat.le_trans h.size k.size, fun q hq hn => (k.block q (Nat.lt_of_lt_of_le hq h.size) hn).trans (h.block q hq hn)⟩
theorem KeptB.set (h : KeptB w W F) (p : Addr) (u : Value) (hp : F p.block) : KeptB w (W.setCell p u) F :=
  ⟨h.os, h.tape, h.output, by simpa [World.setCell] using h.size, fun k hk hn => (Below.heap_setCell _ _ _ _ (fun e => hn (by rw [e]; exact hp))).trans (h.block k hk hn)⟩
theorem KeptB.alloc (h : KeptB w W F) (o : Obj) : KeptB w (W.alloc o) F :=
  ⟨h.os, h.tape, h.output, by simp; exact Nat.le_succ_of_le h.size, fun k hk hn => (Below.heap_alloc _ _ _ (Nat.lt_of_lt_of_le hk h.size)).trans (h.block k hk hn)⟩
theorem KeptB.grown (h : KeptB w W F) {row : Option Nat} (hg : W.grownBy W' row) (hr : ∀ b, row = some b → F b ∨ w.heap.size ≤ b) : KeptB w W' F :=
  ⟨hg.os.trans h.os, hg.tape.trans h.tape, hg.output.trans h.output, Nat.le_trans h.size hg.size, fun k hk hn => (hg.block k (Nat.lt_of_lt_of_le hk h.size) (fun e => by
    rcases hr k e.symm with h1 | h1
    · exact hn h1
    · omega)).trans (h.block k hk hn)⟩
theorem KeptB.below {B : Nat} (h : KeptB w W F) (hF : ∀ b, F b → B ≤ b) (hB : B ≤ w.heap.size) : Below B w W := ⟨h.os, h.tape, h.output, h.size, fun k hk => h.block k (by omega) (fun hf => by have := hF k hf; omega)⟩
theorem KeptB.blk (h : KeptB w W F) {g : Nat} {t : TypeId} {xs : List Value} (hb : Blk w g t xs) (hn : ¬ F g) : Blk W g t xs := (h.block g hb.lt hn).trans hb
theorem KeptB.own (h : KeptB w W F) {base size n : Nat} {e : TypeId} {v : Value} {xs : List Value} (ho : w.ownsRow base e size v n xs) (hn : ∀ b, v.ownBlock = some b → ¬ F b) : W.ownsRow base e size v n xs := by
  refine ⟨ho.1, ?_⟩
  rcases ho.2 with h1 | ⟨g, cap, cur, hv, hb, hg, rest⟩
  · exact .inl h1
  · exact .inr ⟨g, cap, cur, hv, hb, (h.block g (Array.getElem?_eq_some_iff.1 hg).1 (hn g (by rw [hv]; rfl))).trans hg, rest⟩
theorem KeptB.mono {F' : Nat → Prop} (h : KeptB w W F) (hF : ∀ b, F b → F' b) : KeptB w W F' := ⟨h.os, h.tape, h.output, h.size, fun k hk hn => h.block k hk (fun hf => hn (hF k hf))⟩
theorem KeptB.drewN (h : KeptB w W F) (k : Nat) : KeptB w (W.drewN k) F := ⟨h.os, h.tape, h.output, h.size, h.block⟩
theorem foot_type {base : Nat} {e : TypeId} {bl : List Hd} (hown : ∀ (q : Nat) A n c, bl[q]? = some (A, n, c) → ∃ xs, w.ownsRow base e 1 (.slice A n c) n xs) {b : Nat} (hb : Foot bl b) : base ≤ b ∧ ∃ cur, w.heap[b]? = some (.cells cur e (0, 0)) := by
  obtain ⟨q, A, n, c, hq, hA⟩ := hb
  obtain ⟨xs, ho⟩ := hown q A n c hq
  rcases ho.2 with ⟨hv, _⟩ | ⟨g, cap, cur, hv, hb, hg, _⟩
  · injection hv with h1; subst h1; cases hA
  · injection hv with h1
    subst h1
    injection hA with hA
    subst hA
    exact ⟨hb, cur, hg⟩
theorem foot_blk {base : Nat} {e t : TypeId} {bl : List Hd} (hown : ∀ (q : Nat) A n c, bl[q]? = some (A, n, c) → ∃ xs, w.ownsRow base e 1 (.slice A n c) n xs) {g : Nat} {xs : List Value} (h : Blk w g t xs) (hne : t ≠ e) : ¬ Foot bl g := fun hf => by
  obtain ⟨_, cur, hg⟩ := foot_type hown hf
  unfold Blk at h
  rw [h] at hg
  injection hg with hg
  injection hg with _ ht
  exact hne ht
theorem foot_own {base base' size n : Nat} {e t : TypeId} {bl : List Hd} (hown : ∀ (q : Nat) A n c, bl[q]? = some (A, n, c) → ∃ xs, w.ownsRow base e 1 (.slice A n c) n xs) {v : Value} {xs : List Value} (h : w.ownsRow base' t size v n xs) (hne : t ≠ e) : ∀ b, v.ownBlock = some b → ¬ Foot bl b := fun b hb hf => by
  obtain ⟨_, cur, hg⟩ := foot_type hown hf
  rcases h.2 with ⟨hv, _⟩ | ⟨g', cap, cur', hv, _, hg', _⟩
  · rw [hv] at hb; cases hb
  · rw [hv] at hb
    have : g' = b := by simpa [Value.ownBlock] using hb
    subst this
    rw [hg'] at hg
    injection hg with hg
    injection hg with _ ht
    exact hne ht
theorem own_hdr {base n c : Nat} {t : TypeId} {A : Option Addr} {xs : List Value} (h : w.ownsRow base t 1 (.slice A n c) n xs) {k : Nat} {u : Value} (hk : xs[k]? = some u) : ∃ b, A = some ⟨b, 0, none⟩ ∧ w.cell? ⟨b, k, none⟩ = some u := by
  have hr := Rd1.own h (Nat.le_refl _)
  rw [List.take_of_length_le (by rw [h.1]; omega)] at hr
  exact hr.cell hk
theorem EKeep.app {e t : TypeId} {W W' : World} {base n : Nat} {v v' : Value} {xs : List Value} (h : W.ownsRow base t 1 v n xs) (hg : W.grownBy W' v'.ownBlock) (hb : v'.ownBlock = v.ownBlock ∨ v'.ownBlock = some W.heap.size) (hne : t ≠ e) : EKeep e W W' :=
  EKeep.grown hg fun b hb' cur hc => by
    rcases hb with hb | hb
    · rw [hb] at hb'
      rcases h.2 with ⟨hv, _⟩ | ⟨g', cap, cur', hv, _, hg', _⟩
      · rw [hv] at hb'; cases hb'
      · rw [hv] at hb'
        have : g' = b := by simpa [Value.ownBlock] using hb'
        subst this
        rw [hg'] at hc
        injection hc with hc
        injection hc with _ ht
        exact hne ht
    · rw [hb] at hb'
      injection hb' with hb'
      have := (Array.getElem?_eq_some_iff.1 hc).1
      omega
/-- A row of the call's own that another one's append leaves. -/
theorem own_app {t : TypeId} {W W' : World} {base m : Nat} {v v' x : Value} {xs : List Value} (h : W.ownsRow base t 1 x m xs) (hg : W.grownBy W' v'.ownBlock) (hb : v'.ownBlock = v.ownBlock ∨ v'.ownBlock = some W.heap.size) (hd : ∀ b, x.ownBlock = some b → v.ownBlock ≠ some b) :
    W'.ownsRow base t 1 x m xs ∧ ∀ b, x.ownBlock = some b → v'.ownBlock ≠ some b := by
  have key : ∀ b, x.ownBlock = some b → v'.ownBlock ≠ some b := fun b hx e => by
    rcases hb with hb | hb
    · exact hd b hx (hb ▸ e)
    · rw [hb] at e
      injection e with e
      have := (h.lt b hx).2
      omega
  refine ⟨h.kept hg ?_, key⟩
  cases hx : x.ownBlock with
  | none => exact .inl rfl
  | some b => exact .inr fun e => key b hx e.symm
theorem KeptB.app {w W W' : World} {F : Nat → Prop} (h : KeptB w W F) {v v' : Value} (hg : W.grownBy W' v'.ownBlock) (hb : v'.ownBlock = v.ownBlock ∨ v'.ownBlock = some W.heap.size) (hv : ∀ b, v.ownBlock = some b → F b ∨ w.heap.size ≤ b) :
    KeptB w W' F ∧ ∀ b, v'.ownBlock = some b → F b ∨ w.heap.size ≤ b := by
  have key : ∀ b, v'.ownBlock = some b → F b ∨ w.heap.size ≤ b := fun b e => by
    rcases hb with hb | hb
    · exact hv b (hb ▸ e)
    · rw [hb] at e
      injection e with e
      have := h.size
      right; omega
  exact ⟨h.grown hg key, key⟩
theorem own_ge {w W : World} {t : TypeId} {n : Nat} {v : Value} {xs : List Value} {F : Nat → Prop} (h : W.ownsRow w.heap.size t 1 v n xs) : ∀ b, v.ownBlock = some b → F b ∨ w.heap.size ≤ b := fun b hb => .inr (h.lt b hb).1
end
end Go.Proofs.YtndkhlafpcedbaaDoor
