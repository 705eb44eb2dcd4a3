/- flagonref00: EqPages, SizePages. -/
import Derived.Test.YtndkhlafpcedbaaDoorPagesA
import Derived.Test.YtndkhlafpcedbaaDoorEq
import Derived.Deep.RegionHeld3
namespace Go.Proofs.YtndkhlafpcedbaaDoor
set_option linter.unusedVariables false
open Go.RowKit
/-- A list of lists of bytes, as it can be read. -/
structure PV (w : World) (B : Nat) (A : Option Addr) (L : List (List UInt8)) : Prop where
  at_ : ∀ (k : Nat) l, L[k]? = some l → ∃ b o A' c', A = some ⟨b, o, none⟩ ∧ b < B ∧ w.cell? ⟨b, o + k, none⟩ = some (.slice A' l.length c') ∧ Row w B A' (l.map bv)
theorem PV.below {w w' : World} {B B' : Nat} {A : Option Addr} {L : List (List UInt8)} (h : PV w B A L) (hb : Below B' w w') (hB : B ≤ B') : PV w' B A L := ⟨fun k l hk => by
  obtain ⟨b, o, A', c', h1, h2, h3, h4⟩ := h.at_ k l hk
  exact ⟨b, o, A', c', h1, h2, (hb.cell (p := ⟨b, o + k, none⟩) (show b < B' by omega)).trans h3, h4.below' hb hB⟩⟩
theorem PV.drewN {w : World} {B : Nat} {A : Option Addr} {L : List (List UInt8)} (h : PV w B A L) (k : Nat) : PV (w.drewN k) B A L := ⟨fun k l hk => h.at_ k l hk⟩
theorem pgs_get (B : List UInt8) (n k : Nat) : (pgs B n)[k]? = if k < n then some ((pageOf B k).map bv) else none := by
  unfold pgs
  rw [List.getElem?_map]
  by_cases h : k < n
  · rw [List.getElem?_range h, if_pos h]; rfl
  · rw [List.getElem?_eq_none (by simpa using Nat.le_of_not_lt h), if_neg h]; rfl
/-- The pages of B. -/
def pgl (B : List UInt8) (n : Nat) : List (List UInt8) := (List.range n).map (pageOf B)
theorem pgl_len (B : List UInt8) (n : Nat) : (pgl B n).length = n := by simp [pgl]
theorem PgsAt.pv {base : Nat} {w : World} {A : Option Addr} {k c : Nat} {gl : List (Hd × List Value)} {B : List UInt8} (h : PgsAt base w A k c gl B) (hB : ∀ i, i < k → (pageOf B i).length = 4096) : PV w w.heap.size A (pgl B k) := ⟨fun i l hi => by
  have hik : i < k := by have := (List.getElem?_eq_some_iff.1 hi).1; rwa [pgl_len] at this
  have hl : l = pageOf B i := by
    unfold pgl at hi
    rw [List.getElem?_map, List.getElem?_range hik] at hi
    simpa using hi.symm
  subst hl
  have hgl : (gl.map (·.2))[i]? = some ((pageOf B i).map bv) := by rw [h.told, pgs_get, if_pos hik]
  rw [List.getElem?_map] at hgl
  obtain ⟨⟨⟨A', n', c'⟩, xs⟩, hg, hx⟩ := Option.map_eq_some_iff.1 hgl
  have hx' : xs = (pageOf B i).map bv := hx
  subst hx'
  have hn' : n' = 4096 := h.len _ (List.mem_of_getElem? hg)
  subst hn'
  obtain ⟨b, hA, hc⟩ := own_hdr h.row (k := i) (u := .slice A' 4096 c') (by rw [List.getElem?_map, hg]; rfl)
  refine ⟨b, 0, A', c', hA, (h.row.lt b (by rw [hA]; rfl)).2, ?_, h.made.row hg⟩
  rw [Nat.zero_add, hc, hB i hik]⟩
def EpRel (L L' : List (List UInt8)) (w : World) (n : Nat) (i : Value) (wr : World) : Prop :=
  ∃ k : Nat, k ≤ n ∧ i = .int .i64 k ∧ Below w.heap.size w wr ∧ L.take k = L'.take k
set_option maxRecDepth 100000 in
set_option maxHeartbeats 1000000 in
theorem eq_pages (A A' : Option Addr) (n n' c c' B B' : Nat) (w : World) (L L' : List (List UInt8)) (hn : n = L.length) (hn' : n' = L'.length) (h47 : n ≤ 1000000000) (hl : ∀ l ∈ L, l.length ≤ 140737488351232) (h : PV w B A L) (h' : PV w B' A' L') (hB : B ≤ w.heap.size) (hB' : B' ≤ w.heap.size) :
    Calls Tryd.prog 24 #[.slice A n c, .slice A' n' c'] w fun e w' => Below w.heap.size w w' ∧ e = .returned (.bool (decide (L = L'))) := by
  have Hn := Lib.hid hn; clear hn
  have Hn' := Lib.hid hn'; clear hn'
  have Hh := Lib.hid h; clear h
  have Hh' := Lib.hid h'; clear h'
  have Hl := Lib.hid hl; clear hl
  by_cases hnn : n = n'
  · subst hnn
    go_enter Tryd.func24, Tryd.ntmps24
    go_wp2_with fail
    go_loopw [5] (fun i wr => EpRel L L' w n i wr) (fun i _ => n - (intOf i).toNat)
    case atStart => exact ⟨0, by omega, rfl, Below.refl _ _, rfl⟩
    case round =>
      obtain ⟨k, hk, rfl, hbel, hR⟩ := hrel
      have HR := Lib.hid hR; clear hR
      have Hbel := Lib.hid hbel; clear hbel
      by_cases hlt : k < n
      · obtain ⟨l, hlk⟩ : ∃ l, L[k]? = some l := ⟨_, List.getElem?_eq_getElem (by rw [← Hn.out]; exact hlt)⟩
        obtain ⟨l', hlk'⟩ : ∃ l, L'[k]? = some l := ⟨_, List.getElem?_eq_getElem (by rw [← Hn'.out]; exact hlt)⟩
        obtain ⟨b, o, A2, c2, rfl, hb, hcell, hrow⟩ := (Hh.out.below Hbel.out hB).at_ k l hlk
        obtain ⟨b', o', A2', c2', rfl, hb', hcell', hrow'⟩ := (Hh'.out.below Hbel.out hB').at_ k l' hlk'
        have Hrow := Lib.hid hrow; clear hrow
        have Hrow' := Lib.hid hrow'; clear hrow'
        have hl8 := Hl.out l (List.mem_of_getElem? hlk)
        have hi0 : (0 : Int) ≤ k := by omega
        have hsz : w.heap.size ≤ wr.heap.size := Hbel.out.size
        have hs1 : b < wr.heap.size := by omega
        have hs2 : b' < wr.heap.size := by omega
        have hs3 : B ≤ wr.heap.size := by omega
        have hs4 : B' ≤ wr.heap.size := by omega
        have HT : Hid (l = l' → L.take (k + 1) = L'.take (k + 1)) := Lib.hid (fun e => by rw [List.take_add_one, List.take_add_one, HR.out, hlk, hlk', e])
        have HF : Hid (l ≠ l' → decide (L = L') = false) := Lib.hid (fun e => decide_eq_false fun he => e (by
          have h1 := hlk
          rw [he, hlk'] at h1
          injection h1 with h1; exact h1.symm))
        have HC := Lib.hid (fun W (hW : Below wr.heap.size wr W) => eq_bytes A2 A2' l.length l'.length c2 c2' B B' W l l' rfl rfl hl8 (Hrow.out.below' hW hs3) (Hrow'.out.below' hW hs4))
        clear hlk hlk'
        by_cases hq : l = l'
        case' pos =>
          have HT2 := Lib.hid (HT.out hq)
          have HD : Hid (decide (l = l') = true) := Lib.hid (decide_eq_true hq)
        case' neg =>
          have HF2 := Lib.hid (HF.out hq)
          have HD : Hid (decide (l = l') = false) := Lib.hid (decide_eq_false hq)
        all_goals
          rw [HD.out] at HC
          clear hq HT HF HD
          go_wp2_with fail
          go_region_held3 (fun w' => w'.cell? ⟨b, o + k, none⟩ = some (.slice A2 l.length c2) ∧ w'.cell? ⟨b', o' + k, none⟩ = some (.slice A2' l'.length c2') ∧ Below wr.heap.size wr w')
            (first | exact ⟨hcell, hcell', Below.refl _ _⟩ | exact ⟨hcell, hcell', (Below.refl _ _).drew⟩ | exact ⟨g0, g1, hS1⟩)
            (first | (go_at_call 12; refine (HC.out _ (by exact (Below.refl _ _).drew)).mono ?_; rintro e W1 ⟨⟨kk, rfl⟩, rfl⟩; have hS1 : Below wr.heap.size wr (wr.drewN (1 + kk)) := below_drewN (Below.refl _ _) (1 + kk); have g0 : (wr.drewN (1 + kk)).cell? ⟨b, o + k, none⟩ = some (.slice A2 l.length c2) := hcell; have g1 : (wr.drewN (1 + kk)).cell? ⟨b', o' + k, none⟩ = some (.slice A2' l'.length c2') := hcell'))
          have hS2 : Hid (Below w.heap.size w (wr.drewN (1 + kk))) := Lib.hid (Hbel.out.trans (hS1.mono hsz))
          clear hS1 g0 g1
          generalize wr.drewN (1 + kk) = W1 at *
          go_wp2_with fail
        · go_ret
          exact ⟨hS2.out, by rw [HF2.out]; rfl⟩
        · exact ⟨⟨k + 1, by omega, by go_num, hS2.out, HT2.out⟩, by simp [intOf]; omega⟩
      · obtain rfl : k = n := by omega
        have hT : Hid (decide (L = L') = true) := by
          have h1 := HR.out
          rw [List.take_of_length_le (by rw [Hn.out]; exact Nat.le_refl _), List.take_of_length_le (by rw [Hn'.out]; exact Nat.le_refl _)] at h1
          exact Lib.hid (decide_eq_true h1)
        go_wp2_with fail
        go_ret
        exact ⟨Hbel.out, by rw [hT.out]; rfl⟩
  · have hF : Hid (decide (L = L') = false) := Lib.hid (decide_eq_false fun h => hnn (by rw [Hn.out, Hn'.out, h]))
    have hne : ((n : Int) != n') = true := by simp; omega
    go_enter Tryd.func24, Tryd.ntmps24
    go_wp2_with fail
    go_ret
    exact ⟨Below.refl _ _, by rw [hF.out]; rfl⟩
def szP (L : List (List UInt8)) : Nat := (L.map List.length).sum
def SpRel (L : List (List UInt8)) (n0 : Nat) (w : World) (x i : Value) (wr : World) : Prop :=
  ∃ k m : Nat, k ≤ L.length ∧ i = .int .i64 k ∧ x = .int .i64 m ∧ wr = w ∧ m = n0 + szP (L.take k)
set_option maxRecDepth 100000 in
set_option maxHeartbeats 1000000 in
theorem size_pages (A : Option Addr) (n c B : Nat) (L : List (List UInt8)) (w : World) (hn : n = L.length) (h : PV w B A L) (h47 : n ≤ 140737488351232) (hl : ∀ l ∈ L, l.length ≤ 140737488351232) :
    Calls Tryd.prog 18 #[.slice A n c] w fun e w' => w = w' ∧ ∃ m : Nat, e = .returned (.int .i64 m) ∧ (m ≤ 2147483647 ↔ L.length + szP L ≤ 2147483647) ∧ (m ≤ 2147483647 → m = L.length + szP L) := by
  have Hn := Lib.hid hn; clear hn
  have Hh := Lib.hid h; clear h
  have Hl := Lib.hid hl; clear hl
  go_enter Tryd.func18, Tryd.ntmps18
  go_wp2_with fail
  go_loopw [3, 4] (fun x i wr => SpRel L n w x i wr) (fun _ i _ => n - (intOf i).toNat)
  case atStart => exact ⟨0, n, Nat.zero_le _, rfl, rfl, rfl, by simp [szP]⟩
  case round =>
    obtain ⟨k, m, hk, rfl, rfl, rfl, hm⟩ := hrel
    rw [← Hn.out] at hk
    have Hm := Lib.hid hm; clear hm
    have hmono : ∀ j, szP (L.take j) ≤ szP L := fun j => by
      have := List.take_append_drop j L
      conv => rhs; rw [← this]
      unfold szP
      rw [List.map_append, List.sum_append]
      omega
    have Hmono := Lib.hid hmono; clear hmono
    by_cases hlt : k < n
    · by_cases hm2 : m ≤ 2147483647
      · obtain ⟨l, hr⟩ : ∃ l, L[k]? = some l := ⟨_, List.getElem?_eq_getElem (by rw [← Hn.out]; exact hlt)⟩
        have Hrk := Lib.hid hr; clear hr
        obtain ⟨b, o, A2, c2, rfl, hb, hcell, hrow⟩ := Hh.out.at_ k l Hrk.out
        clear hrow
        have hr8 := Hl.out l (List.mem_of_getElem? Hrk.out)
        have hm3 : decide ((m : Int) ≤ 2147483647) = true := decide_eq_true (by omega)
        have hi0 : (0 : Int) ≤ k := by omega
        go_wp2_with fail
        exact ⟨⟨k + 1, m + l.length, by rw [← Hn.out]; omega, by go_num, by go_num, rfl, by
          rw [Hm.out, List.take_add_one, Hrk.out]
          unfold szP
          simp
          omega⟩, by simp [intOf]; omega⟩
      · have hm3 : decide ((m : Int) ≤ 2147483647) = false := decide_eq_false (by omega)
        go_wp2_with fail
        go_ret
        exact ⟨rfl, m, rfl, by have := Hmono.out k; have := Hm.out; rw [← Hn.out]; omega, fun h => absurd h hm2⟩
    · obtain rfl : k = n := by omega
      go_wp2_with fail
      go_ret
      exact ⟨rfl, m, rfl, by have := Hm.out; rw [List.take_of_length_le (by rw [← Hn.out]; exact Nat.le_refl _)] at this; rw [← Hn.out]; omega, fun _ => by have := Hm.out; rw [List.take_of_length_le (by rw [← Hn.out]; exact Nat.le_refl _)] at this; rw [← Hn.out]; omega⟩
end Go.Proofs.YtndkhlafpcedbaaDoor
