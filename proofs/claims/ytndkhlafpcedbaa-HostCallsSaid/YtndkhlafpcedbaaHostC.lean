/- host.New. -/
import Derived.Test.YtndkhlafpcedbaaHostB
import Derived.Test.YtndkhlafpcedbaaShelf
namespace Go.Proofs.Ytndkhlafpcedbaa
set_option linter.unusedVariables false
open Go.RowKit
theorem Try.sizeOf_w (w : World) : (Go.sizeOf 22).run Try.prog w = .ok 1 w := by
  obtain ⟨i0, hi, hz, hs', hb⟩ := info_parts Try.info_w
  simp [sizeOf, typeInfo, hi, hs']
set_option maxRecDepth 100000 in
theorem clone_words (A : Option Addr) (n c lo hi : Nat) (l : List Nat) (w : World) (h : (Rd.u64.sl true).R w lo hi [.slice A n c] l) (h47 : n * 8 ≤ 140737488351232) :
    Calls Try.prog 70 #[.slice A n c] w fun e w' => ∃ A' c', e = .returned (.slice A' n c') ∧ w'.ownsRow w.heap.size 22 1 (.slice A' n c') n (l.map uv) ∧ Below w.heap.size w w' := by
  obtain ⟨hn, hr⟩ := Rd.sl_row h
  obtain ⟨A0, c0, he, hsp, hx⟩ := h
  injection he with he _
  injection he with e1 e2 e3
  subst e1
  have hu := uv_cells l
  rcases A with _ | ⟨b, o, spot⟩
  · have h0 : l.length = 0 := by
      rcases Nat.eq_zero_or_pos l.length with h0 | h0
      · exact h0
      · obtain ⟨b, o, e, _⟩ := hx h0
        cases e
    have hl : l = [] := List.eq_nil_of_length_eq_zero h0
    subst hl
    simp at hn
    subst hn
    refine (Try.slices_Clone_nil 0 c w).mono ?_
    rintro e w' ⟨rfl, rfl⟩
    exact ⟨none, 0, rfl, World.ownsRow_nil _ _ _ _, Below.refl _ _⟩
  · obtain rfl : spot = none := hsp rfl _ rfl
    obtain ⟨i0, hi, hz, hs', hb⟩ := info_parts Try.info_w
    refine (Try.slices_Clone i0 (.int .u64 0) 1 8 hi hz hs' hb rfl (by omega) Try.sizeOf_w b o n c (l.map uv) w (by rw [List.length_map]; omega) (by unfold maxLen; omega) (by omega) (fun j u hu' => ?_) hu).mono ?_
    · have hj := (List.getElem?_eq_some_iff.1 hu').1
      obtain ⟨b', o', e, _, hc⟩ := hr (by omega)
      injection e with e
      injection e with e1 e2
      subst e1 e2
      exact hc j u hu'
    · rintro e w' ⟨v', rfl, ho, _, hb⟩
      obtain ⟨A', c', rfl⟩ := own_formz ho
      exact ⟨A', c', rfl, ho, hb⟩
/-- A host in memory: its script, how much of it was taken. -/
def HostAt (W : World) (h hi : Nat) (rs : List Rep) (t : Int) : Prop :=
  ∃ A c, Blk W h 64 [.bool true, .slice A rs.length c, .int .i64 t] ∧ (rScr true).R W (h + 1) hi [.slice A rs.length c] rs
def HnRel (rs : List Rep) (t : Int) (w : World) (i : Value) (wr : World) : Prop :=
  ∃ (k : Nat) (A : Option Addr) (c : Nat) (cells : List Value), k ≤ rs.length ∧ i = .int .i64 k ∧ Blk wr w.heap.size 64 [.bool true, .slice A k c, .int .i64 t] ∧ wr.ownsRow (w.heap.size + 1) 54 2 (.slice A k c) k cells ∧ RepsOwn 22 wr (w.heap.size + 1) cells (rs.take k) ∧ Below w.heap.size w wr
set_option maxRecDepth 100000 in
set_option maxHeartbeats 1000000 in
theorem host_New (A : Option Addr) (n c lo hi : Nat) (rs : List Rep) (t : Int) (w : World) (h : (rScr true).R w lo hi [.slice A n c] rs) (hhi : hi ≤ w.heap.size) (hle : RepsLe rs) (ht : -9223372036854775808 ≤ t ∧ t < 9223372036854775808) :
    Calls Try.prog 33 #[.slice A n c, .int .i64 t] w fun e w' => e = .returned (.pointer (some ⟨w.heap.size, 0, none⟩)) ∧ HostAt w' w.heap.size w'.heap.size rs (max t 0) ∧ Below w.heap.size w w' := by
  have Hn := Lib.hid (scr_len h)
  have Hh := Lib.hid h; clear h
  have Hle := Lib.hid hle.2
  have hle1 := hle.1; clear hle
  rw [← Hn.out] at hle1
  go_enter Try.func33, Try.ntmps33
  go_wp2_with fail
  go_loopw [14] (fun i wr => HnRel rs (max t 0) w i wr) (fun i _ => n - (intOf i).toNat)
  case atStart => exact ⟨0, none, 0, [], Nat.zero_le _, rfl, Blk.new w 64 [.bool true, .slice none 0 0, .int .i64 (max t 0)], World.ownsRow_nil _ _ _ _, RepsOwn.nil, (Below.refl _ _).alloc (Nat.le_refl _) _⟩
  case round =>
    obtain ⟨k, A1, c1, cells, hk, rfl, hblk, hown, hreps, hbel⟩ := hrel
    have Hblk := Lib.hid hblk; clear hblk
    have Hown := Lib.hid hown; clear hown
    have Hreps := Lib.hid hreps; clear hreps
    have Hbel := Lib.hid hbel; clear hbel
    rw [← Hn.out] at hk
    by_cases hlt : k < n
    · obtain ⟨r, hr⟩ : ∃ r, rs[k]? = some r := ⟨_, List.getElem?_eq_getElem (by rw [← Hn.out]; exact hlt)⟩
      have Hrk := Lib.hid hr; clear hr
      obtain ⟨b, o, A2, c2, rfl, hlo, hbhi, hcell0, hcell1, hw⟩ := scr_cell ((rScr true).below Hh.out Hbel.out hhi) Hrk.out
      have Hw := Lib.hid hw; clear hw
      have hr8 := Hle.out r (List.mem_of_getElem? Hrk.out)
      have HB64 := Lib.hid (Rd.sl_ok Hw.out)
      have hsz : w.heap.size < wr.heap.size := Hblk.out.lt
      have hi0 : (0 : Int) ≤ k := by omega
      go_wp2_with fail
      obtain ⟨h, hh⟩ : ∃ h, h = w.heap.size := ⟨_, rfl⟩
      rw [← hh] at hsz ⊢
      have Hhh := Lib.hid hh; clear hh
      obtain ⟨g, hg⟩ : ∃ g, g = wr.heap.size := ⟨_, rfl⟩
      generalize hw2 : wr.alloc (.cells #[.slice A2 r.1.length c2, .bool r.2] 54) = w2
      have Hblk2 : Hid (Blk w2 h 64 [.bool true, .slice A1 k c1, .int .i64 (max t 0)]) := Lib.hid (by rw [← hw2, Hhh.out]; exact Hblk.out.alloc _)
      have Hown2 : Hid (w2.ownsRow (h + 1) 54 2 (.slice A1 k c1) k cells) := Lib.hid (by rw [← hw2, Hhh.out]; exact Hown.out.alloc _)
      have Hreps2 : Hid (RepsOwn 22 w2 (h + 1) cells (rs.take k)) := Lib.hid (by rw [← hw2, Hhh.out]; exact Hreps.out.below ((Below.refl _ _).alloc (Nat.le_refl _) _))
      have Hbel2 : Hid (Below h w w2) := Lib.hid (by rw [← hw2, Hhh.out]; exact Hbel.out.alloc Hbel.out.size _)
      have Hbox : Hid (Blk w2 g 54 [.slice A2 r.1.length c2, .bool r.2]) := Lib.hid (by rw [← hw2, hg]; exact Blk.new wr 54 [.slice A2 r.1.length c2, .bool r.2])
      have Hw2 : Hid ((Rd.u64.sl true).R w2 lo hi [.slice A2 r.1.length c2] r.1) := Lib.hid (by rw [← hw2]; exact (Rd.u64.sl true).below Hw.out ((Below.refl wr.heap.size _).alloc (Nat.le_refl _) _) (by have := Hhh.out; omega))
      have hno : (Value.slice A1 k c1).ownBlock ≠ some h ∧ (Value.slice A1 k c1).ownBlock ≠ some g := ⟨fun e => by have := (Hown.out.lt _ e).1; have := Hhh.out; omega, fun e => by have := (Hown.out.lt _ e).2; omega⟩
      have Hno := Lib.hid hno; clear hno
      rw [← hg] at hsz ⊢
      have hg2 : g < w2.heap.size := Hbox.out.lt
      have hhg : h ≠ g := by omega
      clear hw2 hg Hblk Hown Hreps Hbel Hw hcell0 hcell1
      have hc1 : w2.cell? ⟨h, 1, none⟩ = some (.slice A1 k c1) := Hblk2.out.cell 1
      have hb0 : w2.cell? ⟨g, 0, none⟩ = some (.slice A2 r.1.length c2) := Hbox.out.cell 0
      have hb1 : w2.cell? ⟨g, 1, none⟩ = some (.bool r.2) := Hbox.out.cell 1
      obtain ⟨i0, hi1, hz, hs', hby⟩ := info_parts Try.info_rep
      go_region_law
        (first
          | (refine step_appz rfl (.tmp 22) (.tmp 29) 44 rfl (h + 1) 54 i0 _ 2 32 Try.underlying44 hi1 hz hs' hby rfl (by omega) _ k cells rfl (Hown3.out.alloc _) (w3.heap.size + 1) _ 1 1 [.slice A3 r.1.length c3, .bool r.2] rfl rfl Hrow.out (by intro u hu; simp at hu; rcases hu with rfl | rfl <;> rfl) (by unfold maxLen; omega) (by omega) (by simp; omega) ?_; intro A4 c4 w4 h2 h3 h4; have g4 := (grown_cell h3 (p := ⟨h, 1, none⟩) (by simp; omega) Hno.out.1).trans (((Below.refl _ _).alloc (Nat.le_refl _) _).cell (p := ⟨h, 1, none⟩) (show h < w3.heap.size by omega)) |>.trans g0; have g5 := (grown_cell h3 (p := ⟨g, 0, none⟩) (by simp; omega) Hno.out.2).trans (((Below.refl _ _).alloc (Nat.le_refl _) _).cell (p := ⟨g, 0, none⟩) (show g < w3.heap.size by omega)) |>.trans g1; have g6 := (grown_cell h3 (p := ⟨g, 1, none⟩) (by simp; omega) Hno.out.2).trans (((Below.refl _ _).alloc (Nat.le_refl _) _).cell (p := ⟨g, 1, none⟩) (show g < w3.heap.size by omega)) |>.trans g2; have hbl4 := grown_blk h3 (Hblk3.out.alloc _) Hno.out.1; have hf4 := hbl4.frozen 1; have Hblk4 := Lib.hid hbl4; have H2 := Lib.hid h2; have H3 := Lib.hid h3; clear h2 h3 h4 hbl4)
          | (go_simp; go_at_call 70; refine (clone_words A2 r.1.length c2 lo hi r.1 _ (by exact Hw2.out) hr8).mono ?_; rintro e w3 ⟨A3, c3, rfl, ho, hb⟩; have hS := below_of_drew hb; have Ho3 := Lib.hid ho; have g0 := (hS.cell (p := ⟨h, 1, none⟩) (show h < w2.heap.size by omega)).trans hc1; have g1 := (hS.cell (p := ⟨g, 0, none⟩) (show g < w2.heap.size by omega)).trans hb0; have g2 := (hS.cell (p := ⟨g, 1, none⟩) (show g < w2.heap.size by omega)).trans hb1; have HS := Lib.hid hS; have Hown3 := Lib.hid (own_keptz Hown2.out hS); have Hblk3 := Lib.hid (Hblk2.out.below hS Hblk2.out.lt); have hsz3 : w2.heap.size ≤ w3.heap.size := hS.size; have g0a := (((Below.refl w3.heap.size w3).alloc (Nat.le_refl _) (.cells #[.slice A3 r.1.length c3, .bool r.2] 54)).cell (p := ⟨h, 1, none⟩) (show h < w3.heap.size by omega)).trans g0; have Hrow := Lib.hid (row_cells w3 [.slice A3 r.1.length c3, .bool r.2] 54); clear hb ho hS))
      all_goals
        have HF : Hid (HnRel rs (max t 0) w (.int .i64 ((k + 1 : Nat) : Int)) (w4.setCell ⟨h, 1, none⟩ (.slice A4 (k + 1) c4))) := Lib.hid (by
          have hrt : rs.take (k + 1) = rs.take k ++ [r] := by rw [List.take_add_one, Hrk.out]; rfl
          have hne4 : (Value.slice A4 (k + 1) c4).ownBlock ≠ some h := fun e => by have := (H2.out.lt _ e).1; omega
          have hown4 := H2.out.kept (w' := w4.setCell ⟨h, 1, none⟩ (.slice A4 (k + 1) c4)) (row := some h) ⟨rfl, rfl, rfl, by simp [World.setCell], fun q _ hn => Below.heap_setCell _ _ _ _ (fun e => hn (by rw [e]))⟩ (.inr hne4)
          refine ⟨k + 1, A4, c4, _, by rw [← Hn.out]; omega, rfl, ?_, by rw [← Hhh.out]; exact hown4, ?_, ?_⟩
          · have := Hblk4.out.set 1 (.slice A4 (k + 1) c4)
            rw [← Hhh.out]
            exact this
          · rw [hrt, ← Hhh.out]
            have hr3 : RepsOwn 22 w3 (h + 1) cells (rs.take k) := Hreps2.out.below HS.out
            have hr4 := RepsOwn.snoc (w' := w3) (base' := 0) (r := r) (hr3.below ((Below.refl _ _).alloc (Nat.le_refl _) (.cells #[.slice A3 r.1.length c3, .bool r.2] 54))) (by
              have := Hown3.out.1
              rw [this, List.length_take, ← Hn.out]; omega) ((World.ownsRow.mono Ho3.out (show h + 1 ≤ w2.heap.size by omega)).alloc _) HB64.out
            refine RepsOwn.kept (RepsOwn.kept hr4 H3.out ?_) (row := some h) ⟨rfl, rfl, rfl, by simp [World.setCell], fun q _ hn => Below.heap_setCell _ _ _ _ (fun e => hn (by rw [e]))⟩ ?_
            · intro q hq cur fr he
              have := Hown3.out.alloc (.cells #[.slice A3 r.1.length c3, .bool r.2] 54)
              rcases this.2 with ⟨hv, _⟩ | ⟨g', cap, cur2, hv, _, hg2, _⟩
              · rw [hv] at hq; cases hq
              · rw [hv] at hq
                injection hq with hq
                subst hq
                rw [hg2] at he
                injection he with he
                injection he with _ ht
                exact absurd ht (by decide)
            · intro q hq cur fr he
              injection hq with hq
              subst hq
              have := Hblk4.out
              unfold Blk at this
              rw [this] at he
              injection he with he
              injection he with _ ht
              exact absurd ht (by decide)
          · rw [← Hhh.out]
            have hw3 : Below h w w3 := Hbel2.out.trans (HS.out.mono (by omega))
            have hw3a := hw3.alloc (show h ≤ w3.heap.size by omega) (.cells #[.slice A3 r.1.length c3, .bool r.2] 54)
            exact (hw3a.trans ((own_belowz (Hown3.out.alloc _) H3.out (by simp; omega)).mono (by omega))).setCell (p := ⟨h, 1, none⟩) (Nat.le_refl _) _)
        obtain rfl := Hhh.out
        go_wp2_with fail
        exact ⟨HF.out, by simp [intOf]; omega⟩
    · obtain rfl : k = n := by omega
      go_wp2_with fail
      go_ret
      have := Hreps.out
      rw [List.take_of_length_le (by rw [← Hn.out]; exact Nat.le_refl _)] at this
      exact ⟨rfl, ⟨A1, c1, by rw [← Hn.out]; exact Hblk.out, by rw [← Hn.out]; exact this.reads true Hown.out Hn.out⟩, Hbel.out⟩
end Go.Proofs.Ytndkhlafpcedbaa
