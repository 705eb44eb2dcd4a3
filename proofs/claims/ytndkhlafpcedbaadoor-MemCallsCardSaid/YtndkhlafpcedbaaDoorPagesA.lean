/- mem: Pages, with its bytes told. -/
import Derived.Test.YtndkhlafpcedbaaDoorMemL
import Derived.Test.YtndkhlafpcedbaaDoorBagF
namespace Go.Proofs.YtndkhlafpcedbaaDoor
set_option linter.unusedVariables false
open Go.RowKit
theorem EKeep.of_own {e t : TypeId} {W W' : World} {base n : Nat} {v : Value} {xs : List Value} (h : W.ownsRow base t 1 v n xs) (hg : W.grownBy W' v.ownBlock) (hne : t ≠ e) : EKeep e W W' :=
  EKeep.grown hg fun b hb' cur hc => by
    rcases h.2 with ⟨hv, _⟩ | ⟨g', cap, cur', hv, _, hg', _⟩
    · rw [hv] at hb'; cases hb'
    · rw [hv] at hb'
      have : g' = b := by simpa [Value.ownBlock] using hb'
      subst this
      rw [hg'] at hc
      injection hc with hc
      injection hc with _ ht
      exact hne ht
/-- The bytes of the first k pages. -/
def pgs (B : List UInt8) (k : Nat) : List (List Value) := (List.range k).map fun i => (pageOf B i).map bv
theorem pgs_succ (B : List UInt8) (k : Nat) : pgs B (k + 1) = pgs B k ++ [(pageOf B k).map bv] := by unfold pgs; rw [List.range_succ, List.map_append]; rfl
/-- Pages told: a list of them, each in a block of its own. -/
structure PgsAt (base : Nat) (w : World) (A : Option Addr) (k c : Nat) (gl : List (Hd × List Value)) (B : List UInt8) : Prop where
  row : w.ownsRow base 24 1 (.slice A k c) k (gl.map fun x => hdV x.1)
  made : Made 5 base w gl
  told : gl.map (·.2) = pgs B k
  len : ∀ x ∈ gl, x.1.2.1 = 4096
def PgRel2 (B : List UInt8) (w : World) (n : Nat) (l i : Value) (wr : World) : Prop :=
  ∃ (k : Nat) (A : Option Addr) (c : Nat) (gl : List (Hd × List Value)), k ≤ n ∧ i = .int .i64 k ∧ l = .slice A k c ∧ PgsAt w.heap.size wr A k c gl B ∧ Below w.heap.size w wr
set_option maxRecDepth 100000 in
set_option maxHeartbeats 1000000 in
theorem mem_PagesT (base : Nat) (m : MemV) (w : World) (hm : MAt base w m) :
    Calls Tryd.prog 28 #[.pointer (some ⟨m.p, 0, none⟩)] w fun e w' => ∃ A c, e = .returned (.slice A m.bs.length c) ∧ (∃ gl, PgsAt w.heap.size w' A m.bs.length c gl m.B) ∧ Below w.heap.size w w' := by
  have HO := Lib.hid (mem_ok base m w hm)
  have HM := Lib.hid hm
  have hc1 := hm.cell1
  have hn64 : m.bs.length ≤ 64 := by have := hm.np; have := hm.most; omega
  clear hm
  go_enter Tryd.func28, Tryd.ntmps28
  go_wp2_with fail
  refine HO.out.mono ?_
  rintro e w' ⟨rfl, rfl⟩
  go_wp2_with fail
  go_loopw [3, 14] (fun l i wr => PgRel2 m.B w m.bs.length l i wr) (fun _ i _ => m.bs.length - (intOf i).toNat)
  case atStart => exact ⟨0, none, 0, [], Nat.zero_le _, rfl, rfl, ⟨World.ownsRow_nil _ _ _ _, Made.nil, rfl, fun x hx => by cases hx⟩, Below.refl _ _⟩
  case round =>
    obtain ⟨k, A, c, gl, hk, rfl, rfl, hpg, hbel⟩ := hrel
    have Hpgs := Lib.hid hpg; clear hpg
    have Hown := Lib.hid Hpgs.out.row
    have Hbel := Lib.hid hbel; clear hbel
    by_cases hlt : k < m.bs.length
    · have HMr := Lib.hid (HM.out.below Hbel.out)
      obtain ⟨g, hA, hcell⟩ := HMr.out.pg hlt
      unfold ptrV at hcell
      have Hpg := Lib.hid (HMr.out.page k _ (bsGet m hlt))
      have Hpl : Hid ((pageOf m.B k).length = 4096) := Lib.hid (by unfold pageOf; rw [List.length_take, List.length_drop, HM.out.len]; omega)
      have Hrow : Hid (Row wr (m.bs[k]?.getD 0 + 1) (some ⟨m.bs[k]?.getD 0, 0, none⟩) ((pageOf m.B k).map bv)) := Lib.hid (by
        have := Hpg.out.row 0 4096
        rw [List.drop_zero, List.take_of_length_le (by rw [List.length_map, Hpl.out]; exact Nat.le_refl _)] at this
        exact this)
      generalize m.bs[k]?.getD 0 = pb at *
      obtain ⟨pg, hpgd⟩ : ∃ pg, pageOf m.B k = pg := ⟨_, rfl⟩
      rw [hpgd] at Hpg Hpl Hrow
      have Hpgd := Lib.hid hpgd; clear hpgd
      have hsz : w.heap.size ≤ wr.heap.size := Hbel.out.size
      rw [hA]
      go_wp2_with (at_builtin; first | (refine app_bytes _ rfl (.const (.slice none 0 0)) (.tmp 21) rfl wr.heap.size none 0 0 [] rfl (World.ownsRow_nil _ _ _ _) _ _ 4096 4096 (pg.map bv) rfl (by rw [List.length_map, Hpl.out]) Hrow.out (bv_one pg) (by omega) (Nat.le_refl _) ?_; intro A1 c1 w2 h2 h3 h4; have Hnew := Lib.hid h2; have Hst := Lib.hid h4; have Hown2 := Lib.hid (own_below_kept Hown.out h4); have Hbel2 := Lib.hid (Hbel.out.trans (h4.mono hsz)); have hsz2 : w.heap.size ≤ w2.heap.size := Hbel2.out.size; have Hone := Lib.hid (row_one w2 (.slice A1 4096 c1) 24); clear h2 h3 h4) | (refine app_bss _ rfl (.tmp 18) (.tmp 23) rfl w.heap.size A k c (gl.map fun x => hdV x.1) rfl (Hown2.out.alloc _) (w2.heap.size + 1) _ 1 1 [.slice A1 4096 c1] rfl rfl Hone.out (fun u hu => by rw [List.mem_singleton] at hu; subst hu; rfl) (by omega) (by simp; omega) ?_; intro A2 c2 w3 h2 h3; have H2 := Lib.hid h2; have H3 := Lib.hid h3; clear h2 h3))
      have hmade := Hpgs.out.made.add hsz (A := A1) (n := 4096) (c := c1) (xs := pg.map bv) (by have := Hnew.out; simpa using this) Hst.out
      have hmade2 := hmade.ekeep ((EKeep.alloc _ w2 (.cells #[.slice A1 4096 c1] 24)).trans (EKeep.of_own (Hown2.out.alloc _) H3.out (by decide)))
      refine ⟨⟨k + 1, A2, c2, gl ++ [((A1, 4096, c1), pg.map bv)], by omega, by go_num, rfl, ⟨?_, hmade2, ?_, ?_⟩, (Hbel2.out.alloc hsz2 _).trans (own_below (Hown2.out.alloc _) H3.out (by simp; omega))⟩, by simp [intOf]; omega⟩
      · have := H2.out
        rw [List.map_append]
        exact this
      · rw [List.map_append, Hpgs.out.told, pgs_succ, Hpgd.out]
        rfl
      · intro x hx
        rcases List.mem_append.1 hx with hx | hx
        · exact Hpgs.out.len x hx
        · rw [List.mem_singleton] at hx
          subst hx
          rfl
    · obtain rfl : k = m.bs.length := by omega
      go_wp2_with fail
      go_ret
      exact ⟨A, c, rfl, ⟨gl, Hpgs.out⟩, Hbel.out⟩
end Go.Proofs.YtndkhlafpcedbaaDoor
