/- flagonref00.Bag: words alone: gathered, Apart. -/
import Derived.Test.YtndkhlafpcedbaaDoorBagWA
import Derived.Test.YtndkhlafpcedbaaDoorBagF
namespace Go.Proofs.YtndkhlafpcedbaaDoor
set_option linter.unusedVariables false
open Go.RowKit
set_option maxRecDepth 100000 in
set_option maxHeartbeats 4000000 in
theorem bag_Apart_words (g base N cH : Nat) (AH : Option Addr) (bl : List Hd) (w : World) (hb : Blk w g 47 (bagC (.slice none 0 0) (.slice none 0 0) (.slice AH N cH))) (hN : N = bl.length) (hN300 : N ≤ 300)
    (hH : w.ownsRow base 82 1 (.slice AH N cH) N (bl.map hdV)) (hown : ∀ (q : Nat) A n c, bl[q]? = some (A, n, c) → ∃ xs, w.ownsRow base 22 1 (.slice A n c) n xs) (hd : Dist bl)
    (hL : ∀ (q : Nat) A n c, bl[q]? = some (A, n, c) → n ≤ 9000000) (hbase : base ≤ w.heap.size) :
    Calls Tryd.prog 16 #[.pointer (some ⟨g, 0, none⟩)] w fun e w' => e = .returned (.bool true) ∧ KeptB w w' (Foot bl) := by
  have HC := Lib.hid (apart_words g base N cH (bagC (.slice none 0 0) (.slice none 0 0) (.slice AH N cH)) AH bl w hb rfl hN hN300 hH hown hd hL hbase)
  have hng := foot_blk hown hb (by decide)
  have Hb := Lib.hid hb; clear hb
  have Hng := Lib.hid hng; clear hng hN hH hown hd hL
  go_enter Tryd.func16, Tryd.ntmps16
  go_wp2_with (first | (go_at_call 64; refine (apart_Bytes_no g 0 none _ _ Hb.out rfl).mono ?_; rintro e w' ⟨rfl, rfl⟩) | (go_at_call 65; refine (apart_Ints_no g 0 none _ _ Hb.out rfl).mono ?_; rintro e w' ⟨rfl, rfl⟩) | (go_at_call 66; refine (apart_Longs_no g 0 none _ _ Hb.out rfl).mono ?_; rintro e w' ⟨rfl, rfl⟩))
  refine HC.out.mono ?_
  rintro e w1 ⟨rfl, hk⟩
  have Hk := Lib.hid hk
  have Hb1 := Lib.hid (hk.blk Hb.out Hng.out); clear hk
  go_wp2_with (first | (go_at_call 68; refine (apart_Bools_no g 0 none _ _ Hb1.out rfl).mono ?_; rintro e w' ⟨rfl, rfl⟩) | (go_at_call 69; refine (apart_Texts_no g 0 none _ _ Hb1.out rfl).mono ?_; rintro e w' ⟨rfl, rfl⟩) | (go_at_call 70; refine (apart_Sigs_no g 0 none _ _ Hb1.out rfl).mono ?_; rintro e w' ⟨rfl, rfl⟩) | (go_at_call 71; refine (apart_Globals_no g 0 none _ _ Hb1.out rfl).mono ?_; rintro e w' ⟨rfl, rfl⟩) | (go_at_call 72; refine (apart_Exports_no g 0 none _ _ Hb1.out rfl).mono ?_; rintro e w' ⟨rfl, rfl⟩) | (go_at_call 73; refine (apart_Code_no g 0 none _ _ Hb1.out rfl).mono ?_; rintro e w' ⟨rfl, rfl⟩) | (go_at_call 74; refine (apart_Functions_no g 0 none _ _ Hb1.out rfl).mono ?_; rintro e w' ⟨rfl, rfl⟩) | (go_at_call 75; refine (apart_Datas_no g 0 none _ _ Hb1.out rfl).mono ?_; rintro e w' ⟨rfl, rfl⟩) | (go_at_call 76; refine (apart_Tables_no g 0 none _ _ Hb1.out rfl).mono ?_; rintro e w' ⟨rfl, rfl⟩) | (go_at_call 77; refine (apart_Frames_no g 0 none _ _ Hb1.out rfl).mono ?_; rintro e w' ⟨rfl, rfl⟩) | (go_at_call 78; refine (apart_Replies_no g 0 none _ _ Hb1.out rfl).mono ?_; rintro e w' ⟨rfl, rfl⟩) | (go_at_call 79; refine (apart_Pages_no g 0 none _ _ Hb1.out rfl).mono ?_; rintro e w' ⟨rfl, rfl⟩) | (go_at_call 80; refine (apart_Rows_no g 0 none _ _ Hb1.out rfl).mono ?_; rintro e w' ⟨rfl, rfl⟩))
  go_ret
  exact ⟨rfl, Hk.out⟩
/-- The bag of these words. -/
def BagW (g base : Nat) (w : World) (bl : List Hd) : Prop := ∃ AH cH, Blk w g 47 (bagC (.slice none 0 0) (.slice none 0 0) (.slice AH bl.length cH)) ∧ w.ownsRow base 82 1 (.slice AH bl.length cH) bl.length (bl.map hdV)
theorem BagW.keep {g base : Nat} {w w' : World} {bl : List Hd} (h : BagW g base w bl) (hb : Below w.heap.size w w') : BagW g base w' bl := by
  obtain ⟨AH, cH, h1, h2⟩ := h
  exact ⟨AH, cH, (hb.block g h1.lt).trans h1, own_keptz h2 hb⟩
theorem BagW.drewN {g base : Nat} {w : World} {bl : List Hd} (h : BagW g base w bl) (k : Nat) : BagW g base (w.drewN k) bl := h
theorem bag_addW (g base B n c : Nat) (A : Option Addr) (bl : List Hd) (w : World) (h : BagW g base w bl) (hN : bl.length < 300) (hbase : base ≤ w.heap.size) (hB : B ≤ g ∧ B ≤ base) :
    Calls Tryd.prog 56 #[.pointer (some ⟨g, 0, none⟩), .slice A n c] w fun e w' => (∃ x, e = .returned x) ∧ BagW g base w' (bl ++ [(A, n, c)]) ∧ EKeep 22 w w' ∧ Below B w w' := by
  obtain ⟨AH, cH, h1, h2⟩ := h
  refine (bag_AddWords g base B bl.length n c cH A AH (bagC (.slice none 0 0) (.slice none 0 0) (.slice AH bl.length cH)) (bl.map hdV) w h1 rfl h2 hN hbase hB).mono ?_
  rintro e w' ⟨hx, ⟨AH', cH', h3, h4⟩, h5, h6⟩
  refine ⟨hx, ⟨AH', cH', ?_, ?_⟩, h5 _ (by decide) (by decide), h6⟩
  · simpa [bagC] using h3
  · simpa [hdV] using h4
theorem bag_apartW (g base : Nat) (gl : List (Hd × List Value)) (w : World) (hB : BagW g base w (gl.map (·.1))) (hM : Made 22 base w gl) (hN : gl.length ≤ 300) (hL : ∀ x ∈ gl, x.1.2.1 ≤ 9000000) (hbase : base ≤ w.heap.size) :
    Calls Tryd.prog 16 #[.pointer (some ⟨g, 0, none⟩)] w fun e w' => e = .returned (.bool true) ∧ Below base w w' := by
  obtain ⟨AH, cH, h1, h2⟩ := hB
  have ho : ∀ (q : Nat) A n c, (gl.map (·.1))[q]? = some (A, n, c) → ∃ xs, w.ownsRow base 22 1 (.slice A n c) n xs := fun q A n c hq => by
    rw [List.getElem?_map] at hq
    obtain ⟨⟨h1, xs⟩, e1, rfl⟩ := Option.map_eq_some_iff.1 hq
    exact ⟨xs, hM.own q A n c xs e1⟩
  refine (bag_Apart_words g base (gl.map (·.1)).length cH AH (gl.map (·.1)) w h1 rfl (by simpa using hN) h2 ho hM.dist (fun q A n c hq => ?_) hbase).mono ?_
  · rw [List.getElem?_map] at hq
    obtain ⟨⟨h1, xs⟩, e1, rfl⟩ := Option.map_eq_some_iff.1 hq
    exact hL _ (List.mem_of_getElem? e1)
  · rintro e w' ⟨rfl, hk⟩
    exact ⟨rfl, hk.below (fun b hf => (foot_type ho hf).1) hbase⟩
end Go.Proofs.YtndkhlafpcedbaaDoor
