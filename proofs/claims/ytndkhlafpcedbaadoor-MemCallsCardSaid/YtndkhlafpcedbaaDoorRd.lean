/- Readers: how data of Lean stand in memory. No program in sight. -/
import Derived.Test.YtndkhlafpcedbaaDoorBase
import Derived.Test.YtndkhlafpcedbaaDoorMem
import Derived.Test.YtndkhlafpcedbaaDoorShapeP
import Derived.Test.YtndkhlafpcedbaaDoorOpen
import Derived.ChangeArms
import Derived.ChangeSame
namespace Go.Proofs.YtndkhlafpcedbaaDoor
set_option linter.unusedVariables false
open Go.RowKit
/-- How a datum is read off cells: in blocks 'lo' to 'hi' of the world. -/
structure Rd (α : Type) where
  z : Nat
  R : World → Nat → Nat → List Value → α → Prop
  len : ∀ {W : World} {lo hi : Nat} {cs : List Value} {x : α}, R W lo hi cs x → cs.length = z
  keep : ∀ {W W' : World} {lo hi : Nat} {cs : List Value} {x : α}, (∀ p : Addr, lo ≤ p.block → p.block < hi → W'.cell? p = W.cell? p) → R W lo hi cs x → R W' lo hi cs x
  more : ∀ {W : World} {lo hi lo' hi' : Nat} {cs : List Value} {x : α}, lo' ≤ lo → hi ≤ hi' → R W lo hi cs x → R W lo' hi' cs x
namespace Rd
variable {α β γ : Type}
def at_ (r : Rd α) (W : World) (lo hi b o : Nat) (x : α) : Prop := ∃ cs, (∀ (j : Nat) u, cs[j]? = some u → W.cell? ⟨b, o + j, none⟩ = some u) ∧ r.R W lo hi cs x
theorem at_.keep {r : Rd α} {W W' : World} {lo hi b o : Nat} {x : α} (hb : lo ≤ b ∧ b < hi) (hk : ∀ p : Addr, lo ≤ p.block → p.block < hi → W'.cell? p = W.cell? p) (h : r.at_ W lo hi b o x) : r.at_ W' lo hi b o x := by
  obtain ⟨cs, hc, hr⟩ := h
  exact ⟨cs, fun j u hu => (hk _ hb.1 hb.2).trans (hc j u hu), r.keep hk hr⟩
theorem at_.more {r : Rd α} {W : World} {lo hi lo' hi' b o : Nat} {x : α} (h1 : lo' ≤ lo) (h2 : hi ≤ hi') (h : r.at_ W lo hi b o x) : r.at_ W lo' hi' b o x := by
  obtain ⟨cs, hc, hr⟩ := h
  exact ⟨cs, hc, r.more h1 h2 hr⟩
/-- One cell. -/
def one (f : α → Value) (ok : α → Prop) : Rd α where
  z := 1
  R _ _ _ cs x := cs = [f x] ∧ ok x
  len h := by rw [h.1]; rfl
  keep _ h := h
  more _ _ h := h
def B64 (n : Nat) : Prop := n < 18446744073709551616
def B63 (n : Int) : Prop := -9223372036854775808 ≤ n ∧ n < 9223372036854775808
def B8 (n : Int) : Prop := -128 ≤ n ∧ n < 128
def SOk (s : ByteArray) : Prop := s.size ≤ 140737488351232
def u64 : Rd Nat := one uv B64
def i64 : Rd Int := one (Value.int .i64) B63
def i8 : Rd Int := one (Value.int .i8) B8
def u8 : Rd UInt8 := one bv fun _ => True
def bool : Rd Bool := one Value.bool fun _ => True
def str : Rd ByteArray := one Value.string SOk
/-- A slice ('sp': its address is a plain one, even of an empty one). -/
def sl (sp : Bool) (r : Rd α) : Rd (List α) where
  z := 1
  R W lo hi cs xs := ∃ A c, cs = [.slice A xs.length c] ∧ (sp = true → ∀ a, A = some a → a.spot = none) ∧ (0 < xs.length → ∃ b o, A = some ⟨b, o, none⟩ ∧ lo ≤ b ∧ b < hi ∧ ∀ (k : Nat) x, xs[k]? = some x → r.at_ W lo hi b (o + k * r.z) x)
  len h := by obtain ⟨A, c, rfl, _⟩ := h; rfl
  keep hk h := by
    obtain ⟨A, c, rfl, hs, h⟩ := h
    refine ⟨A, c, rfl, hs, fun hn => ?_⟩
    obtain ⟨b, o, e, h1, h2, hx⟩ := h hn
    exact ⟨b, o, e, h1, h2, fun k x hkx => (hx k x hkx).keep ⟨h1, h2⟩ hk⟩
  more h1 h2 h := by
    obtain ⟨A, c, rfl, hs, h⟩ := h
    refine ⟨A, c, rfl, hs, fun hn => ?_⟩
    obtain ⟨b, o, e, h3, h4, hx⟩ := h hn
    exact ⟨b, o, e, by omega, by omega, fun k x hkx => (hx k x hkx).more h1 h2⟩
/-- One behind the other. -/
def pair (r : Rd α) (s : Rd β) : Rd (α × β) where
  z := r.z + s.z
  R W lo hi cs x := ∃ c1 c2, cs = c1 ++ c2 ∧ r.R W lo hi c1 x.1 ∧ s.R W lo hi c2 x.2
  len h := by obtain ⟨c1, c2, rfl, h1, h2⟩ := h; rw [List.length_append, r.len h1, s.len h2]
  keep hk h := by obtain ⟨c1, c2, e, h1, h2⟩ := h; exact ⟨c1, c2, e, r.keep hk h1, s.keep hk h2⟩
  more h1 h2 h := by obtain ⟨c1, c2, e, h3, h4⟩ := h; exact ⟨c1, c2, e, r.more h1 h2 h3, s.more h1 h2 h4⟩
def unit : Rd Unit where
  z := 0
  R _ _ _ cs _ := cs = []
  len h := by rw [h]; rfl
  keep _ h := h
  more _ _ h := h
/-- Seen through a map. -/
def via (r : Rd α) (f : β → α) : Rd β where
  z := r.z
  R W lo hi cs x := r.R W lo hi cs (f x)
  len h := r.len h
  keep hk h := r.keep hk h
  more h1 h2 h := r.more h1 h2 h
variable {r : Rd α} {W W' : World} {lo hi : Nat} {cs : List Value} {x : α}
theorem below (h : r.R W lo hi cs x) {B : Nat} (hb : Below B W W') (hB : hi ≤ B) : r.R W' lo hi cs x :=
  r.keep (fun p _ h2 => hb.cell (Nat.lt_of_lt_of_le h2 hB)) h
theorem grown (h : r.R W lo hi cs x) {row : Option Nat} (hg : W.grownBy W' row) (hB : hi ≤ W.heap.size) (hr : ∀ k, row = some k → k < lo ∨ hi ≤ k) : r.R W' lo hi cs x :=
  r.keep (fun p h1 h2 => by
    have hb := hg.block p.block (by omega) (fun e => by have := hr _ e.symm; omega)
    simp [World.cell?, hb]) h
theorem sl_row {sp : Bool} {f : α → Value} {ok : α → Prop} {A : Option Addr} {n c : Nat} {xs : List α} (h : (sl sp (one f ok)).R W lo hi [.slice A n c] xs) : n = xs.length ∧ Row W hi A (xs.map f) := by
  obtain ⟨A', c', he, _, h⟩ := h
  injection he with he _
  injection he with h1 h2 h3
  subst h1 h2
  refine ⟨rfl, fun hn => ?_⟩
  rw [List.length_map] at hn
  obtain ⟨b, o, e, _, hlt, hx⟩ := h hn
  refine ⟨b, o, e, hlt, fun j u hu => ?_⟩
  rw [List.getElem?_map] at hu
  cases hxj : xs[j]? with
  | none => rw [hxj] at hu; cases hu
  | some y =>
    rw [hxj] at hu
    obtain ⟨cs, hc, hcs, _⟩ := hx j y hxj
    subst hcs
    have := hc 0 (f y) rfl
    rw [show (one f ok).z = 1 from rfl, Nat.mul_one, Nat.add_zero] at this
    rw [this]
    simpa using hu
theorem sl_ok {sp : Bool} {f : α → Value} {ok : α → Prop} {A : Option Addr} {n c : Nat} {xs : List α} (h : (sl sp (one f ok)).R W lo hi [.slice A n c] xs) : ∀ x ∈ xs, ok x := by
  obtain ⟨A', c', he, _, h⟩ := h
  intro x hx
  obtain ⟨k, hk, rfl⟩ := List.getElem_of_mem hx
  obtain ⟨b, o, e, _, hlt, hx⟩ := h (by omega)
  obtain ⟨cs, hc, hcs, hok⟩ := hx k _ (List.getElem?_eq_getElem hk)
  exact hok
end Rd
theorem Row.spotless {W : World} {base : Nat} {e : TypeId} {A : Option Addr} {n c m size : Nat} {xs : List Value} (h : W.ownsRow base e size (.slice A n c) m xs) : ∀ a, A = some a → a.spot = none := by
  rintro a rfl
  rcases h.2 with ⟨hv, _⟩ | ⟨g, cap, cur, hv, _⟩
  · injection hv with h1; cases h1
  · injection hv with h1; injection h1 with h1; rw [h1]
/-- A row of the call's own reads as a slice. -/
theorem Rd.own {α : Type} (sp : Bool) {r : Rd α} {W : World} {base : Nat} {e : TypeId} {A : Option Addr} {n c : Nat} {vs : List Value} {xs : List α} (h : W.ownsRow base e r.z (.slice A n c) n vs) (hn : n = xs.length)
    (hx : ∀ (k : Nat) x, xs[k]? = some x → r.R W base W.heap.size ((vs.drop (k * r.z)).take r.z) x) : (r.sl sp).R W base W.heap.size [.slice A n c] xs := by
  subst hn
  refine ⟨A, c, rfl, fun _ => Row.spotless h, fun hn => ?_⟩
  rcases h.2 with ⟨_, h0⟩ | ⟨g, cap, cur, hv, hb, hg, _⟩
  · omega
  · have hA : A = some ⟨g, 0, none⟩ := by injection hv
    subst hA
    refine ⟨g, 0, rfl, hb, (Array.getElem?_eq_some_iff.1 hg).1, fun k x hk => ⟨_, fun j u hu => ?_, hx k x hk⟩⟩
    rw [List.getElem?_take] at hu
    split at hu
    · rw [List.getElem?_drop] at hu
      have := h.cells (g := g) rfl (k * r.z + j) u hu
      rw [Addr.add_lit] at this
      simpa [Nat.add_assoc] using this
    · cases hu
/-! ### arguments opened -/
section
variable {α β : Type}
/-- A type's data, opened by a reader. -/
def Opens (P : Program) (t : TypeId) (r : Rd α) (ok : α → Prop) : Prop := P.cellsOf t = r.z ∧
  ∀ {H : Type} {enc : TypeId × Value → H} {W : World} {base : Nat} {spare : Nat → Bool} {held : Bool} {n : Nat} {cs : List Value} {x : DataW H × List MemPlace},
    DataW.trod enc P W base spare held n t cs = some x → (∀ m ∈ x.1.weights P t, m ≤ 140737488351232) → ∃ y, r.R W 0 W.heap.size cs y ∧ ok y
theorem opens_int {P : Program} {t : TypeId} {k : IntKind} (ht : P.underlying t = some (.int k)) (hc : P.cellsOf t = 1) {f : α → Value} {ok : α → Prop} (hf : ∀ n : Int, (Lit.int k n).wf = true → ∃ x, f x = .int k n ∧ ok x) : Opens P t (Rd.one f ok) ok := by
  refine ⟨hc, fun h _ => ?_⟩
  obtain ⟨n, rfl, _, hw⟩ := DataW.trod_int ht h
  obtain ⟨x, hx, hok⟩ := hf n hw
  exact ⟨x, ⟨by rw [hx], hok⟩, hok⟩
theorem opens_u64 {P : Program} {t : TypeId} (ht : P.underlying t = some (.int .u64)) (hc : P.cellsOf t = 1) : Opens P t Rd.u64 Rd.B64 :=
  opens_int ht hc fun n hn => ⟨n.toNat, by have := bd_u64 hn; unfold uv; rw [Int.toNat_of_nonneg this.1], by have := bd_u64 hn; unfold Rd.B64; omega⟩
theorem opens_i64 {P : Program} {t : TypeId} (ht : P.underlying t = some (.int .i64)) (hc : P.cellsOf t = 1) : Opens P t Rd.i64 Rd.B63 :=
  opens_int ht hc fun n hn => ⟨n, rfl, bd_i64 hn⟩
theorem opens_i8 {P : Program} {t : TypeId} (ht : P.underlying t = some (.int .i8)) (hc : P.cellsOf t = 1) : Opens P t Rd.i8 Rd.B8 :=
  opens_int ht hc fun n hn => ⟨n, rfl, by
    simp only [Lit.wf, Bool.and_eq_true, decide_eq_true_eq] at hn
    have hmin : IntKind.i8.min = -128 := rfl
    have hmax : IntKind.i8.max = 127 := rfl
    unfold Rd.B8
    omega⟩
theorem opens_u8 {P : Program} {t : TypeId} (ht : P.underlying t = some (.int .u8)) (hc : P.cellsOf t = 1) : Opens P t Rd.u8 (fun _ => True) :=
  opens_int ht hc fun n hn => ⟨UInt8.ofNat n.toNat, by
    have := bd_u8 hn
    unfold bv
    rw [UInt8.toNat_ofNat_of_lt' (by simp only [UInt8.size]; omega), Int.toNat_of_nonneg this.1], trivial⟩
theorem opens_bool {P : Program} {t : TypeId} (ht : P.underlying t = some .bool) (hc : P.cellsOf t = 1) : Opens P t Rd.bool (fun _ => True) := by
  refine ⟨hc, fun h _ => ?_⟩
  obtain ⟨b, rfl, _⟩ := DataW.trod_bool ht h
  exact ⟨b, ⟨rfl, trivial⟩, trivial⟩
theorem opens_str {P : Program} {t : TypeId} (ht : P.underlying t = some .string) (hc : P.cellsOf t = 1) : Opens P t Rd.str Rd.SOk := by
  refine ⟨hc, fun h hw => ?_⟩
  obtain ⟨s, rfl, rfl, _⟩ := DataW.trod_string ht h
  have := hw s.data.toList.length (by simp [DataW.weights])
  exact ⟨s, ⟨rfl, by simpa [Rd.SOk] using this⟩, by simpa [Rd.SOk] using this⟩
theorem weightsAll_mem {H : Type} {P : Program} {e : TypeId} : ∀ {xs : List (DataW H)} {d : DataW H}, d ∈ xs → ∀ m ∈ d.weights P e, m ∈ DataW.weightsAll P e xs
  | x :: xs, d, h, m, hm => by
    rw [DataW.weightsAll, List.mem_append]
    rcases List.mem_cons.1 h with rfl | h
    · exact .inl hm
    · exact .inr (weightsAll_mem h m hm)
theorem opens_sl {P : Program} {t e : TypeId} {r : Rd α} {ok : α → Prop} (ht : P.underlying t = some (.slice e)) (hc : P.cellsOf t = 1) (he : Opens P e r ok) {by_ : Nat} (hby : P.bytesOf e = by_) (hz : 0 < P.cellsOf e) :
    Opens P t (r.sl false) (fun xs => xs.length * by_ ≤ 140737488351232 ∧ ∀ x ∈ xs, ok x) := by
  refine ⟨hc, ?_⟩
  intro H enc W base spare held n cs x h hw
  rcases DataW.trod_slice ht h with ⟨rfl, rfl⟩ | ⟨a, len, cap, elems, rest, m, rfl, rfl, rfl, _, hlc, hcm, hel, hget, _⟩
  · exact ⟨[], ⟨none, 0, rfl, fun h => (by cases h), fun h => absurd h (by simp)⟩, by simp, by simp⟩
  · have key : ∀ (k : Nat), k < len → ∃ y : α, ok y ∧ ∃ cs : List Value, W.cells? base (a.add (k * P.cellsOf e)) (P.cellsOf e) = some cs ∧ r.R W 0 W.heap.size cs y := by
      intro k hk
      have hg := hget k hk
      have hkl : k < elems.length := by omega
      rw [List.getElem?_eq_getElem hkl] at hg
      obtain ⟨cs, hcs, htr⟩ := Option.bind_eq_some_iff.1 hg
      obtain ⟨y, hy, hok⟩ := he.2 htr (fun q hq => hw q (by
        simp only [DataW.weights, ht, List.mem_cons, List.mem_append]
        exact .inr (.inl (weightsAll_mem (List.mem_map_of_mem (List.getElem_mem hkl)) q hq))))
      exact ⟨y, hok, cs, hcs, hy⟩
    have hlist : ∀ m : Nat, m ≤ len → ∃ xs : List α, xs.length = m ∧ ∀ (k : Nat) y, xs[k]? = some y → ok y ∧ ∃ cs : List Value, W.cells? base (a.add (k * P.cellsOf e)) (P.cellsOf e) = some cs ∧ r.R W 0 W.heap.size cs y := by
      intro m
      induction m with
      | zero => exact fun _ => ⟨[], rfl, by simp⟩
      | succ m ih =>
        intro hm
        obtain ⟨xs, hl, hx⟩ := ih (by omega)
        obtain ⟨y, hok, cs, hcs, hy⟩ := key m (by omega)
        refine ⟨xs ++ [y], by simp [hl], fun k u hu => ?_⟩
        rw [List.getElem?_append] at hu
        split at hu
        · exact hx k u hu
        · rename_i hge
          have hk : k = m := by
            have := (List.getElem?_eq_some_iff.1 hu).1
            simp at this; omega
          subst hk
          rw [hl, Nat.sub_self] at hu
          simp at hu
          subst hu
          exact ⟨hok, cs, hcs, hy⟩
    obtain ⟨xs, hl, hx⟩ := hlist len (Nat.le_refl _)
    have hlen : len * by_ ≤ 140737488351232 := by
      have := hw _ (by simp only [DataW.weights, ht]; exact List.mem_cons_self ..)
      rw [hby, List.length_map, List.length_map, hel] at this
      exact Nat.le_trans (Nat.mul_le_mul_right _ (by omega)) this
    subst hl
    refine ⟨xs, ⟨some a, cap, rfl, (fun h => by cases h), fun hn => ?_⟩, hlen, fun y hy => ?_⟩
    · obtain ⟨_, cs0, hcs0, _⟩ := hx 0 _ (List.getElem?_eq_getElem hn)
      have hb := World.cells?_block hcs0 hz
      obtain ⟨_, hl0, hg0⟩ := World.cells?_some hcs0
      have h0 := hg0 0 hz
      rw [List.getElem?_eq_getElem (by omega)] at h0
      have hs0 := World.cell?_spot h0
      obtain ⟨b, o, spot⟩ := a
      have hspot : spot = none := by simpa [Addr.add] using hs0
      subst hspot
      have hbl : b < W.heap.size := by simpa [Addr.add] using hb
      refine ⟨b, o, rfl, Nat.zero_le _, hbl, fun k x hk => ?_⟩
      obtain ⟨_, cs, hcs, hr⟩ := hx k x hk
      obtain ⟨_, hl1, hg1⟩ := World.cells?_some hcs
      refine ⟨cs, fun j u hu => ?_, hr⟩
      have hj := (List.getElem?_eq_some_iff.1 hu).1
      have := hg1 j (by omega)
      rw [Addr.add_lit, Addr.add_lit, he.1, hu] at this
      rw [← this]
    · obtain ⟨k, hk, rfl⟩ := List.getElem_of_mem hy
      exact (hx k _ (List.getElem?_eq_getElem hk)).1
/-- The fields of a struct from an offset on, opened by a reader. -/
structure OpensF (P : Program) (fs : List Field) (off : Nat) (r : Rd α) (ok : α → Prop) : Prop where
  out : ∀ {H : Type} {enc : TypeId × Value → H} {W : World} {base : Nat} {spare : Nat → Bool} {held : Bool} {n : Nat} {cs : List Value} {xs : List (DataW H × List MemPlace)},
    cs.length = off + r.z → fs.map (fun f => DataW.trod enc P W base spare held n f.type ((cs.drop f.offset).take (P.cellsOf f.type))) = xs.map some →
    (∀ m ∈ DataW.weightsEach P (fs.map (·.type)) (xs.map (·.1)), m ≤ 140737488351232) → ∃ y, r.R W 0 W.heap.size (cs.drop off) y ∧ ok y
theorem opensF_nil {P : Program} {off : Nat} : OpensF P [] off Rd.unit (fun _ => True) := by
  constructor
  intro H enc W base spare held n cs xs hl _ _
  exact ⟨(), by show cs.drop off = []; exact List.drop_eq_nil_of_le (by rw [hl]; exact Nat.le_refl _), trivial⟩
theorem opensF_cons {P : Program} {f : Field} {fs : List Field} {off : Nat} {r : Rd α} {s : Rd β} {ok : α → Prop} {ok2 : β → Prop} (hf : f.offset = off) (h1 : Opens P f.type r ok) (h2 : OpensF P fs (off + r.z) s ok2) :
    OpensF P (f :: fs) off (r.pair s) (fun x => ok x.1 ∧ ok2 x.2) := by
  constructor
  intro H enc W base spare held n cs xs hl hx hw
  cases xs with
  | nil => cases hx
  | cons x xs =>
    simp only [List.map_cons, List.cons.injEq] at hx
    obtain ⟨hx, hxs⟩ := hx
    simp only [List.map_cons, DataW.weightsEach, List.mem_append] at hw
    have hlen : cs.length = off + (r.z + s.z) := hl
    obtain ⟨y, hy, hok⟩ := h1.2 hx (fun m hm => hw m (.inl hm))
    obtain ⟨y2, hy2, hok2⟩ := h2.out (cs := cs) (by rw [hlen, Nat.add_assoc]) hxs (fun m hm => hw m (.inr hm))
    refine ⟨(y, y2), ⟨_, _, ?_, hy, hy2⟩, hok, hok2⟩
    rw [hf, h1.1, ← List.drop_drop, List.take_append_drop]
theorem opens_struct {P : Program} {t : TypeId} {fs : Array Field} {r : Rd α} {ok : α → Prop} (ht : P.underlying t = some (.struct fs)) (hc : P.cellsOf t = r.z) (h : OpensF P fs.toList 0 r ok) : Opens P t r ok := by
  refine ⟨hc, ?_⟩
  intro H enc W base spare held n cs x hx hw
  obtain ⟨xs, m, rfl, rfl, hl, hlen, hf⟩ := DataW.trod_struct ht hx
  obtain ⟨y, hy, hok⟩ := h.out (enc := enc) (W := W) (base := base) (spare := spare) (held := held) (n := m) (cs := cs) (xs := xs) (by rw [hl, hc, Nat.zero_add]) (by
      refine List.ext_getElem? fun i => ?_
      rw [List.getElem?_map, List.getElem?_map]
      cases hi : fs.toList[i]? with
      | none =>
        have hge : fs.size ≤ i := by simpa using List.getElem?_eq_none_iff.1 hi
        rw [List.getElem?_eq_none (by omega)]; rfl
      | some f =>
        have hfi : fs[i]? = some f := by simpa using hi
        have hlt : i < xs.length := by rw [hlen]; exact (Array.getElem?_eq_some_iff.1 hfi).1
        have := hf i f hfi
        rw [List.getElem?_eq_getElem hlt] at this ⊢
        simpa using this) (by
      intro q hq
      apply hw q
      simp only [DataW.weights, ht]
      exact hq)
  exact ⟨y, by simpa using hy, hok⟩
theorem opens_via {P : Program} {t : TypeId} {r : Rd α} {ok : α → Prop} (h : Opens P t r ok) (f : β → α) (g : α → β) (hfg : ∀ a, f (g a) = a) : Opens P t (r.via f) (fun b => ok (f b)) := by
  refine ⟨h.1, fun hx hw => ?_⟩
  obtain ⟨y, hy, hok⟩ := h.2 hx hw
  exact ⟨g y, by show r.R _ _ _ _ (f (g y)); rw [hfg]; exact hy, by show ok (f (g y)); rw [hfg]; exact hok⟩
/-- An argument, opened. -/
theorem opens_arg {P : Program} {t : TypeId} {r : Rd α} {ok : α → Prop} (h : Opens P t r ok) {H : Type} {enc : TypeId × Value → H} {W : World} {base : Nat} {spare : Nat → Bool} {held : Bool} {v : Value} {d : DataW H} {p : List MemPlace}
    (hv : DataW.Trod enc P W base spare held t v d p) {ts : List TypeId} {ds : List (DataW H)} {j : Nat} (hs : (DataW.weightsEach P ts ds).all (· ≤ reachBytes) = true) (ht : ts[j]? = some t) (hd : ds[j]? = some d) :
    ∃ y, r.R W 0 W.heap.size v.cells.toList y ∧ ok y := by
  obtain ⟨n, hv⟩ := hv
  refine h.2 hv fun m hm => ?_
  have := List.all_eq_true.1 hs m (DataW.weights_mem_each ht hd m hm)
  exact of_decide_eq_true this
end
end Go.Proofs.YtndkhlafpcedbaaDoor
