/- Replies: how they stand in memory; plain. No program in sight. -/
import Derived.Test.YtndkhlafpcedbaaRd
import Derived.Test.YtndkhlafpcedbaaAppZ
namespace Go.Proofs.Ytndkhlafpcedbaa
set_option linter.unusedVariables false
open Go.RowKit
abbrev Rep := List Nat × Bool
def rRep (sp : Bool) : Rd Rep := ((Rd.u64.sl sp).pair (Rd.bool.pair Rd.unit)).via (fun r => (r.1, r.2, ()))
def rScr (sp : Bool) : Rd (List Rep) := (rRep sp).sl sp
theorem rRep_iff {sp : Bool} {W : World} {lo hi : Nat} {cs : List Value} {r : Rep} : (rRep sp).R W lo hi cs r ↔ ∃ v, cs = [v, .bool r.2] ∧ (Rd.u64.sl sp).R W lo hi [v] r.1 := by
  constructor
  · rintro ⟨c1, c2, rfl, h1, c3, c4, rfl, ⟨rfl, _⟩, rfl⟩
    obtain ⟨A, c, rfl, h⟩ := h1
    exact ⟨_, rfl, A, c, rfl, h⟩
  · rintro ⟨v, rfl, h⟩
    exact ⟨[v], [.bool r.2], rfl, h, [.bool r.2], [], rfl, ⟨rfl, trivial⟩, rfl⟩
theorem slot_form {α : Type} {r : Rd α} {sp : Bool} {W : World} {lo hi : Nat} {v : Value} {xs : List α} (h : (r.sl sp).R W lo hi [v] xs) : ∃ A c, v = .slice A xs.length c := by
  obtain ⟨A, c, he, _⟩ := h
  injection he with he _
  exact ⟨A, c, he⟩
/-- A reply's cells. -/
theorem scr_cell {sp : Bool} {W : World} {lo hi : Nat} {A : Option Addr} {n c : Nat} {rs : List Rep} (h : (rScr sp).R W lo hi [.slice A n c] rs) {k : Nat} {r : Rep} (hk : rs[k]? = some r) :
    ∃ b o A2 c2, A = some ⟨b, o, none⟩ ∧ lo ≤ b ∧ b < hi ∧ W.cell? ⟨b, o + k * 2, none⟩ = some (.slice A2 r.1.length c2) ∧ W.cell? ⟨b, o + k * 2 + 1, none⟩ = some (.bool r.2) ∧ (Rd.u64.sl sp).R W lo hi [.slice A2 r.1.length c2] r.1 := by
  obtain ⟨A', c', he, _, h⟩ := h
  injection he with he _
  injection he with h1 h2 h3
  subst h1 h2
  have hlt := (List.getElem?_eq_some_iff.1 hk).1
  obtain ⟨b, o, e, hlo, hhi, hx⟩ := h (by omega)
  obtain ⟨cs, hc, hr⟩ := hx k r hk
  obtain ⟨v, rfl, hw⟩ := rRep_iff.1 hr
  obtain ⟨A2, c2, rfl⟩ := slot_form hw
  exact ⟨b, o, A2, c2, e, hlo, hhi, hc 0 _ rfl, hc 1 _ rfl, hw⟩
theorem scr_len {sp : Bool} {W : World} {lo hi : Nat} {A : Option Addr} {n c : Nat} {rs : List Rep} (h : (rScr sp).R W lo hi [.slice A n c] rs) : n = rs.length := by
  obtain ⟨A', c', he, _⟩ := h
  injection he with he _
  injection he with h1 h2 h3
/-- Replies of the call's own: the cells of the row, each row of words the call's own, too. -/
def RepsOwn (tw : TypeId) (w : World) (base : Nat) (cells : List Value) (rs : List Rep) : Prop :=
  ∀ (k : Nat) r, rs[k]? = some r → ∃ A c, (cells.drop (k * 2)).take 2 = [.slice A r.1.length c, .bool r.2] ∧ w.ownsRow base tw 1 (.slice A r.1.length c) r.1.length (r.1.map uv) ∧ ∀ x ∈ r.1, Rd.B64 x
theorem RepsOwn.kept {tw : TypeId} {w w' : World} {base : Nat} {cells : List Value} {rs : List Rep} (h : RepsOwn tw w base cells rs) {row : Option Nat} (hg : w.grownBy w' row)
    (hne : ∀ k, row = some k → ∀ (cur : Array Value) fr, w.heap[k]? ≠ some (.cells cur tw fr)) : RepsOwn tw w' base cells rs := fun k r hk => by
  obtain ⟨A, c, h1, h2, h3⟩ := h k r hk
  refine ⟨A, c, h1, h2.kept hg ?_, h3⟩
  rcases h2.2 with ⟨hv, _⟩ | ⟨g, cap, cur, hv, _, hg2, _⟩
  · left; rw [hv]; rfl
  · right
    rw [hv]
    intro e
    exact hne g e.symm _ _ hg2
theorem RepsOwn.below {tw : TypeId} {w w' : World} {base : Nat} {cells : List Value} {rs : List Rep} (h : RepsOwn tw w base cells rs) (hb : Below w.heap.size w w') : RepsOwn tw w' base cells rs := fun k r hk => by
  obtain ⟨A, c, h1, h2, h3⟩ := h k r hk
  exact ⟨A, c, h1, own_keptz h2 hb, h3⟩
theorem words_own {tw : TypeId} (sp : Bool) {W : World} {base : Nat} {A : Option Addr} {c : Nat} {l : List Nat} (h : W.ownsRow base tw 1 (.slice A l.length c) l.length (l.map uv)) (h64 : ∀ x ∈ l, Rd.B64 x) :
    (Rd.u64.sl sp).R W base W.heap.size [.slice A l.length c] l :=
  Rd.own sp (r := Rd.u64) (vs := l.map uv) h rfl fun k x hk => ⟨by
    show ((l.map uv).drop (k * 1)).take 1 = _
    rw [Nat.mul_one, List.take_one, List.head?_drop, List.getElem?_map, hk]
    rfl, h64 x (List.mem_of_getElem? hk)⟩
theorem RepsOwn.reads {tw tr : TypeId} (sp : Bool) {w : World} {base : Nat} {A : Option Addr} {n c : Nat} {cells : List Value} {rs : List Rep} (h : RepsOwn tw w base cells rs) (ho : w.ownsRow base tr 2 (.slice A n c) n cells) (hn : n = rs.length) :
    (rScr sp).R w base w.heap.size [.slice A n c] rs :=
  Rd.own sp (r := rRep sp) ho hn fun k x hk => by
    obtain ⟨A, c, h1, h2, h3⟩ := h k x hk
    refine rRep_iff.2 ⟨_, h1, words_own sp h2 h3⟩
theorem RepsOwn.nil {tw : TypeId} {w : World} {base : Nat} {cells : List Value} : RepsOwn tw w base cells [] := fun k r hk => by simp at hk
theorem RepsOwn.snoc {tw : TypeId} {w w' : World} {base base' : Nat} {cells : List Value} {rs : List Rep} {r : Rep} {A : Option Addr} {c : Nat} (h : RepsOwn tw w base cells rs) (hl : cells.length = rs.length * 2)
    (ho : w.ownsRow base tw 1 (.slice A r.1.length c) r.1.length (r.1.map uv)) (h3 : ∀ x ∈ r.1, Rd.B64 x) : RepsOwn tw w base (cells ++ [.slice A r.1.length c, .bool r.2]) (rs ++ [r]) := fun k x hk => by
  rw [List.getElem?_append] at hk
  split at hk
  · rename_i hlt
    obtain ⟨A1, c1, h1, h2, h4⟩ := h k x hk
    refine ⟨A1, c1, ?_, h2, h4⟩
    rw [List.drop_append_of_le_length (by omega), List.take_append_of_le_length (by rw [List.length_drop]; omega)]
    exact h1
  · rename_i hge
    have hk0 : k = rs.length := by
      have := (List.getElem?_eq_some_iff.1 hk).1
      simp at this; omega
    subst hk0
    rw [Nat.sub_self] at hk
    simp at hk
    subst hk
    exact ⟨A, c, by rw [← hl, List.drop_left' rfl]; rfl, ho, h3⟩
end Go.Proofs.Ytndkhlafpcedbaa
