/- flagonref00.Bag: lists of pages: marks that are chosen as it goes. -/
import Derived.Test.YtndkhlafpcedbaaDoorPagesC
import Derived.Test.YtndkhlafpcedbaaDoorBagF
namespace Go.Proofs.YtndkhlafpcedbaaDoor
set_option linter.unusedVariables false
open Go.RowKit
def upd (mk : Nat → Nat → Value) (k i : Nat) (v : Value) : Nat → Nat → Value := fun q x => if q = k ∧ x = i then v else mk q x
theorem upd_self (mk : Nat → Nat → Value) (k i : Nat) (v : Value) : upd mk k i v k i = v := by unfold upd; rw [if_pos ⟨rfl, rfl⟩]
theorem mks_upd (mk : Nat → Nat → Value) (k i : Nat) (v : Value) (q n : Nat) (h : q ≠ k ∨ n ≤ i) : mks (upd mk k i v) q n = mks mk q n := by
  unfold mks upd
  refine List.map_congr_left fun x hx => ?_
  rw [List.mem_range] at hx
  rw [if_neg (by omega)]
theorem MA.upd {base : Nat} {e : TypeId} {mk : Nat → Nat → Value} {bl : List Hd} {W : World} {k i : Nat} (h : MA base e mk bl W k i) (v : Value) : MA base e (upd mk k i v) bl W k i := fun q A n c hq => by
  obtain ⟨xs, h1, h2, h3⟩ := h q A n c hq
  exact ⟨xs, h1, fun hlt => by rw [h2 hlt, mks_upd _ _ _ _ _ _ (.inl (by omega))], fun hq => by rw [h3 hq, mks_upd _ _ _ _ _ _ (.inr (Nat.le_refl _))]⟩
def cutT (rs : List Tr) (k m : Nat) : List Tr := rs.filter fun t => decide (t.k ≠ k ∨ t.m ≤ m)
theorem cutT_mem {rs : List Tr} {k m : Nat} {t : Tr} : t ∈ cutT rs k m ↔ t ∈ rs ∧ (t.k ≠ k ∨ t.m ≤ m) := by
  unfold cutT
  rw [List.mem_filter, decide_eq_true_iff]
theorem LI.upd {base : Nat} {e : TypeId} {mk : Nat → Nat → Value} {bl : List Hd} {W : World} {k j L : Nat} {Al A0 : Option Addr} {cl c0 : Nat} {rs : List Tr} {ones mores : List Value}
    (h : LI base e mk bl W k j L Al cl rs ones mores) (hk : bl[k]? = some (A0, L, c0)) (v : Value) : LI base e (upd mk k (L + j) v) bl W k j L Al cl (cutT rs k (L + j)) ones mores where
  reads t ht := by
    obtain ⟨h1, h2⟩ := cutT_mem.1 ht
    rw [mks_upd _ _ _ _ _ _ h2]
    exact h.reads t h1
  origs q A n c hq := by
    refine cutT_mem.2 ⟨h.origs q A n c hq, ?_⟩
    by_cases hqk : q = k
    · subst hqk
      rw [hk] at hq
      injection hq with hq
      injection hq with e1 e2
      injection e2 with e2 e3
      right
      show n ≤ L + j
      omega
    · exact .inl hqk
  ownl := by rw [mks_upd _ _ _ _ _ _ (.inr (Nat.le_refl _))]; exact h.ownl
  exl t ht b h1 h2 := h.exl t (cutT_mem.1 ht).1 b h1 h2
  own q A n c h1 h2 := by rw [mks_upd _ _ _ _ _ _ (.inl (by omega))]; exact h.own q A n c h1 h2
  excl t ht q A n c h1 h2 b h3 h4 := h.excl t (cutT_mem.1 ht).1 q A n c h1 h2 b h3 h4
  dl := h.dl
  one := by
    refine ⟨h.one.1, h.one.2.1, fun q hq => ?_⟩
    obtain ⟨A, n, c, A1, c1, h1, h2, h3⟩ := h.one.2.2 q hq
    refine ⟨A, n, c, A1, c1, h1, h2, cutT_mem.2 ⟨h3, ?_⟩⟩
    by_cases hqk : q = k
    · subst hqk
      rw [hk] at h1
      injection h1 with h1
      injection h1 with e1 e2
      injection e2 with e2 e3
      rcases Nat.eq_zero_or_pos j with h0 | h0
      · have := h.one.1 h0
        omega
      · right
        show n + 1 ≤ L + j
        omega
    · exact .inl hqk
  more := by
    refine ⟨h.more.1, fun q hq => ?_⟩
    obtain ⟨A, n, c, A1, c1, h1, h2, h3⟩ := h.more.2 q hq
    exact ⟨A, n, c, A1, c1, h1, h2, cutT_mem.2 ⟨h3, .inl (by show q ≠ k; omega)⟩⟩
/-- The blocks of cells of type t are as they were, frozen ones too. -/
structure TKeep (t : TypeId) (W W' : World) : Prop where
  size : W.heap.size ≤ W'.heap.size
  same : ∀ (b : Nat) cur m, W.heap[b]? = some (.cells cur t m) → W'.heap[b]? = some (.cells cur t m)
theorem TKeep.refl (t : TypeId) (W : World) : TKeep t W W := ⟨Nat.le_refl _, fun _ _ _ h => h⟩
theorem TKeep.trans {t : TypeId} {A B C : World} (h : TKeep t A B) (k : TKeep t B C) : TKeep t A C := ⟨Nat.le_trans h.size k.size, fun b cur m hb => k.same b cur m (h.same b cur m hb)⟩
theorem TKeep.below {t : TypeId} {W W' : World} (h : Below W.heap.size W W') : TKeep t W W' := ⟨h.size, fun b cur m hb => (h.block b (Array.getElem?_eq_some_iff.1 hb).1).trans hb⟩
theorem TKeep.set {t e : TypeId} {W : World} {base n : Nat} {c : Nat} {xs : List Value} {g : Nat} (h : W.ownsRow base e 1 (.slice (some ⟨g, 0, none⟩) n c) n xs) (hne : e ≠ t) (j : Nat) (u : Value) : TKeep t W (W.setCell ⟨g, j, none⟩ u) :=
  ⟨by simp [World.setCell], fun b cur m hb => (Below.heap_setCell _ _ _ _ (fun e' => by
    rcases h.2 with ⟨hv, _⟩ | ⟨g', cap, cur', hv, _, hg', _⟩
    · cases hv
    · injection hv with hv
      injection hv with hv
      injection hv with hv
      subst hv
      rw [e', hg'] at hb
      injection hb with hb
      injection hb with _ ht
      exact hne ht)).trans hb⟩
theorem TKeep.app {e t : TypeId} {W W' : World} {base n : Nat} {v v' : Value} {xs : List Value} (h : W.ownsRow base t 1 v n xs) (hg : W.grownBy W' v'.ownBlock) (hb : v'.ownBlock = v.ownBlock ∨ v'.ownBlock = some W.heap.size) (hne : t ≠ e) : TKeep e W W' :=
  ⟨hg.size, fun b cur m hc => (hg.block b (Array.getElem?_eq_some_iff.1 hc).1 fun hb' => by
    rcases hb with hb | hb
    · rw [hb] at hb'
      rcases h.2 with ⟨hv, _⟩ | ⟨g', cap, cur', hv, _, hg', _⟩
      · rw [hv] at hb'; cases hb'
      · rw [hv] at hb'
        have : b = g' := by simpa [Value.ownBlock] using hb'
        subst this
        rw [hg'] at hc
        injection hc with hc
        injection hc with _ ht
        exact hne ht
    · rw [hb] at hb'
      injection hb' with hb'
      have := (Array.getElem?_eq_some_iff.1 hc).1
      omega).trans hc⟩
/-- A mark that is a text's bytes. -/
def GoodT (W : World) (q i : Nat) (v : Value) : Prop := ∃ (b c : Nat) (cur : Array Value) (m : Nat × Nat), v = .slice (some ⟨b, 0, none⟩) (textS q i).size c ∧ W.heap[b]? = some (.cells cur 5 m) ∧ ∀ (j : Nat) (u : Value), ((textS q i).data.toList.map bv)[j]? = some u → cur[j]? = some u
theorem GoodT.keep {W W' : World} {q i : Nat} {v : Value} (h : GoodT W q i v) (hk : TKeep 5 W W') : GoodT W' q i v := by
  obtain ⟨b, c, cur, m, h1, h2, h3⟩ := h
  exact ⟨b, c, cur, m, h1, hk.same b cur m h2, h3⟩
theorem GoodT.new (w : World) (q i : Nat) : GoodT (Lib.bytesWorld w 5 (textS q i)) q i (.slice (some ⟨w.heap.size, 0, none⟩) (textS q i).size (grownCap w (textS q i).size 0 5)) := by
  have hn := Lib.bytesWorld_at_new w 5 (textS q i)
  refine ⟨_, _, _, _, rfl, hn, fun j u hu => ?_⟩
  have hj : j < (textS q i).size := by have := (List.getElem?_eq_some_iff.1 hu).1; simpa using this
  have hc := Lib.bytesWorld_cell w 5 (textS q i) j hj
  simp only [World.cell?, hn] at hc
  have hu2 : u = .int .u8 ((textS q i).data.toList.getD j 0).toNat := by
    rw [List.getElem?_map, List.getElem?_eq_getElem (by simpa using hj)] at hu
    rw [List.getD, List.getElem?_eq_getElem (by simpa using hj)]
    exact (Option.some.inj hu).symm
  rw [hu2]
  simpa using hc
theorem GoodT.read {W : World} {q i : Nat} {v : Value} (h : GoodT W q i v) : ∃ b c, v = .slice (some ⟨b, 0, none⟩) (textS q i).size c ∧ b < W.heap.size ∧
    ∀ W', Below W.heap.size W W' → (convert 24 9 (.slice (some ⟨b, 0, none⟩) (textS q i).size c)).run Tryd.prog W' = .ok (.string (textS q i)) W' := by
  obtain ⟨b, c, cur, m, h1, h2, h3⟩ := h
  have hlt := (Array.getElem?_eq_some_iff.1 h2).1
  refine ⟨b, c, h1, hlt, fun W' hW => ?_⟩
  have hrow : Row W' (b + 1) (some ⟨b, 0, none⟩) ((textS q i).data.toList.map bv) := fun hn => ⟨b, 0, rfl, Nat.lt_succ_self _, fun j u hu => by
    rw [Nat.zero_add]
    refine (hW.cell (p := ⟨b, j, none⟩) hlt).trans ?_
    simp only [World.cell?, h2]
    simpa using h3 j u hu⟩
  have h6 := conv_bytes (P := Tryd.prog) 24 5 9 Tryd.underlying24 Tryd.underlying5 Tryd.underlying9 W' (b + 1) (some ⟨b, 0, none⟩) (textS q i).size c (textS q i).data.toList (by simp) hrow
  rw [h6]
/-- The places that bear a mark: k lists and i of the next one; with 'more' all, and what was gone on with. -/
def P1 (bl : List Hd) (k j q i : Nat) : Prop := ∃ A n c, bl[q]? = some (A, n, c) ∧ i < n ∧ (q < k ∨ q = k ∧ i < j)
def P2 (bl : List Hd) (k j q i : Nat) : Prop := ∃ A n c, bl[q]? = some (A, n, c) ∧ (i < n ∨ q < k ∧ i < n + 70 ∨ q = k ∧ i < n + j)
def GM (P : Nat → Nat → Prop) (mk : Nat → Nat → Value) (W : World) : Prop := ∀ q i, P q i → GoodT W q i (mk q i)
theorem GM.keep {P : Nat → Nat → Prop} {mk : Nat → Nat → Value} {W W' : World} (h : GM P mk W) (hk : TKeep 5 W W') : GM P mk W' := fun q i hp => (h q i hp).keep hk
theorem GM.mono {P P' : Nat → Nat → Prop} {mk : Nat → Nat → Value} {W : World} (h : GM P mk W) (hp : ∀ q i, P' q i → P q i) : GM P' mk W := fun q i hq => h q i (hp q i hq)
theorem GM.upd {P P' : Nat → Nat → Prop} {mk : Nat → Nat → Value} {W : World} (h : GM P mk W) {k i : Nat} {v : Value} (hv : GoodT W k i v) (hp : ∀ q x, P' q x → P q x ∨ (q = k ∧ x = i)) : GM P' (upd mk k i v) W := fun q x hq => by
  unfold Go.Proofs.YtndkhlafpcedbaaDoor.upd
  by_cases hc : q = k ∧ x = i
  · rw [if_pos hc]
    obtain ⟨rfl, rfl⟩ := hc
    exact hv
  · rw [if_neg hc]
    rcases hp q x hq with h1 | h1
    · exact h q x h1
    · exact absurd h1 hc
theorem P1.step {bl : List Hd} {k j q x : Nat} (h : P1 bl k (j + 1) q x) : P1 bl k j q x ∨ (q = k ∧ x = j) := by
  obtain ⟨A, n, c, h1, h2, h3⟩ := h
  by_cases hc : q = k ∧ x = j
  · exact .inr hc
  · exact .inl ⟨A, n, c, h1, h2, by omega⟩
theorem P1.next {bl : List Hd} {k n q x : Nat} {A : Option Addr} {c : Nat} (hk : bl[k]? = some (A, n, c)) (h : P1 bl (k + 1) 0 q x) : P1 bl k n q x := by
  obtain ⟨A', n', c', h1, h2, h3⟩ := h
  refine ⟨A', n', c', h1, h2, ?_⟩
  rcases Nat.lt_or_ge q k with hlt | hge
  · exact .inl hlt
  · have hq : q = k := by omega
    subst hq
    rw [hk] at h1
    injection h1 with h1
    injection h1 with _ h1
    injection h1 with h1 _
    exact .inr ⟨rfl, by omega⟩
theorem P2.start {bl : List Hd} {q x : Nat} (h : P2 bl 0 0 q x) : P1 bl bl.length 0 q x := by
  obtain ⟨A, n, c, h1, h2⟩ := h
  exact ⟨A, n, c, h1, by omega, .inl (List.getElem?_eq_some_iff.1 h1).1⟩
theorem P2.step {bl : List Hd} {k j L q x : Nat} {A : Option Addr} {c : Nat} (hk : bl[k]? = some (A, L, c)) (h : P2 bl k (j + 1) q x) : P2 bl k j q x ∨ (q = k ∧ x = L + j) := by
  obtain ⟨A', n, c', h1, h2⟩ := h
  by_cases hc : q = k ∧ x = L + j
  · exact .inr hc
  · refine .inl ⟨A', n, c', h1, ?_⟩
    rcases h2 with h2 | h2 | h2
    · exact .inl h2
    · exact .inr (.inl h2)
    · obtain ⟨rfl, h2⟩ := h2
      rw [hk] at h1
      injection h1 with h1
      injection h1 with _ h1
      injection h1 with h1 _
      omega
theorem P2.next {bl : List Hd} {k q x : Nat} (h : P2 bl (k + 1) 0 q x) : P2 bl k 70 q x := by
  obtain ⟨A', n', c', h1, h2⟩ := h
  exact ⟨A', n', c', h1, by omega⟩
end Go.Proofs.YtndkhlafpcedbaaDoor
