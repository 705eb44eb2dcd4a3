/- flagonref00.Bag: AddBytes. -/
import Derived.Test.YtndkhlafpcedbaaDoorBagB
namespace Go.Proofs.YtndkhlafpcedbaaDoor
set_option linter.unusedVariables false
open Go.RowKit
theorem own_nb {w : World} {base size g n : Nat} {t e : TypeId} {xs ys : List Value} {v : Value} (h : w.ownsRow base e size v n ys) (h' : Blk w g t xs) (hne : e ≠ t) : v.ownBlock ≠ some g := by
  rcases h.2 with ⟨rfl, _⟩ | ⟨g', cap, cur, rfl, _, hh, _⟩
  · simp [Value.ownBlock]
  · intro he
    have : g' = g := by simpa [Value.ownBlock] using he
    subst this
    unfold Blk at h'
    rw [hh] at h'
    injection h' with h'
    injection h' with _ ht
    exact hne ht
set_option maxRecDepth 100000 in
set_option maxHeartbeats 1000000 in
theorem bag_AddBytes (g base B N n c cH : Nat) (A AH : Option Addr) (cells hs : List Value) (w : World) (hb : Blk w g 47 cells) (hc0 : cells[0]? = some (.slice AH N cH)) (hH : w.ownsRow base 24 1 (.slice AH N cH) N hs) (hN : N < 300) (hbase : base ≤ w.heap.size) (hB : B ≤ g ∧ B ≤ base) :
    Calls Tryd.prog 11 #[.pointer (some ⟨g, 0, none⟩), .slice A n c] w fun e w' => (∃ x, e = .returned x) ∧ (∃ AH' cH', Blk w' g 47 (cells.set 0 (.slice AH' (N + 1) cH')) ∧ w'.ownsRow base 24 1 (.slice AH' (N + 1) cH') (N + 1) (hs ++ [.slice A n c])) ∧
      (∀ e', 24 ≠ e' → 47 ≠ e' → EKeep e' w w') ∧ Below B w w' := by
  have hc1 : w.cell? ⟨g, 0, none⟩ = some (.slice AH N cH) := (hb.cell 0).trans hc0
  have Hb := Lib.hid hb; clear hb
  have HH := Lib.hid hH; clear hH
  have hcx : (w.alloc (.cells #[.slice A n c] 24)).cell? ⟨w.heap.size, 0, none⟩ = some (.slice A n c) := (Blk.new w 24 [.slice A n c]).cell 0
  have Hcx := Lib.hid hcx; clear hcx
  have Hne := Lib.hid (own_nb HH.out Hb.out (by decide))
  have Hc0 := Lib.hid hc0; clear hc0
  go_enter Tryd.func11, Tryd.ntmps11
  go_wp2_with (at_builtin; refine app1_bs _ rfl (.tmp 14) (.tmp 16) rfl base AH N cH hs rfl (HH.out.alloc _) w.heap.size 1 (.slice A n c) rfl Hcx.out rfl (by omega) (by simp; omega) ?_; intro A3 c3 w3 h2 h3 h4; have hne3 : (Value.slice A3 (N + 1) c3).ownBlock ≠ some g := (fun e => by rcases h4 with h4 | h4; exact Hne.out (h4 ▸ e); rw [h4] at e; injection e with e; have := Hb.out.lt; simp at e; omega); have hb3 := grown_blk h3 (Hb.out.alloc _) hne3; have hc3 := (hb3.cell 0).trans Hc0.out; have hf3 := hb3.frozen 0; have Hb3 := Lib.hid hb3; have Hne3 := Lib.hid hne3; have H2 := Lib.hid h2; have H3 := Lib.hid h3; have H4 := Lib.hid h4; clear h2 h3 h4 hb3 hne3)
  go_end0
  have hE : ∀ e', 24 ≠ e' → 47 ≠ e' → EKeep e' w (w3.setCell ⟨g, 0, none⟩ (.slice A3 (N + 1) c3)) := fun e' h1 h2 =>
    ((EKeep.alloc _ _ _).trans (EKeep.app (HH.out.alloc _) H3.out H4.out h1)).trans ⟨by simp [World.setCell], fun b cur hb' => by
      have : b ≠ g := by
        rintro rfl
        have h5 := Hb3.out
        unfold Blk at h5
        rw [h5] at hb'
        injection hb' with hb'
        injection hb' with _ ht
        exact h2 ht
      exact (Below.heap_setCell _ _ _ _ this).trans hb'⟩
  refine ⟨⟨_, rfl⟩, ⟨A3, c3, Hb3.out.set 0 _, H2.out.kept (row := some g) ⟨rfl, rfl, rfl, by simp [World.setCell], fun b _ hn => Below.heap_setCell _ _ _ _ (fun e => hn (by rw [e]))⟩ (.inr Hne3.out)⟩, hE, ?_⟩
  have h1 := Below.grown ((Below.refl B w).alloc (by omega) (.cells #[.slice A n c] 24)) H3.out (by simp; omega) (fun b hb' => by
    rcases H4.out with h4 | h4
    · rw [h4] at hb'
      have := (HH.out.lt b hb').1
      omega
    · rw [h4] at hb'
      injection hb' with hb'
      simp at hb'
      omega)
  exact h1.setCell (p := ⟨g, 0, none⟩) hB.1 _
end Go.Proofs.YtndkhlafpcedbaaDoor
