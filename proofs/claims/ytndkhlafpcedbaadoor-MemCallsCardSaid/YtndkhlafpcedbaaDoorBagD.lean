/- flagonref00.Bag: Apart where bytes alone were gathered. -/
import Derived.Test.YtndkhlafpcedbaaDoorBagC
import Derived.Test.YtndkhlafpcedbaaDoorBagE
namespace Go.Proofs.YtndkhlafpcedbaaDoor
set_option linter.unusedVariables false
open Go.RowKit
def nilS : Value := .slice none 0 0
def bagC (b i w : Value) : List Value := [b, i, .slice none 0 0, w, .slice none 0 0, .slice none 0 0, .slice none 0 0, .slice none 0 0, .slice none 0 0, .slice none 0 0, .slice none 0 0, .slice none 0 0, .slice none 0 0, .slice none 0 0, .slice none 0 0, .slice none 0 0, .slice none 0 0]
set_option maxRecDepth 100000 in
set_option maxHeartbeats 4000000 in
theorem bag_Apart_bytes (g base N cH : Nat) (AH : Option Addr) (bl : List Hd) (w : World) (hb : Blk w g 47 (bagC (.slice AH N cH) (.slice none 0 0) (.slice none 0 0))) (hN : N = bl.length) (hN300 : N ≤ 300)
    (hH : w.ownsRow base 24 1 (.slice AH N cH) N (bl.map hdV)) (hown : ∀ (q : Nat) A n c, bl[q]? = some (A, n, c) → ∃ xs, w.ownsRow base 5 1 (.slice A n c) n xs) (hd : Dist bl)
    (hL : ∀ (q : Nat) A n c, bl[q]? = some (A, n, c) → n ≤ 70368744177000) (hbase : base ≤ w.heap.size) :
    Calls Tryd.prog 16 #[.pointer (some ⟨g, 0, none⟩)] w fun e w' => e = .returned (.bool true) ∧ KeptB w w' (Foot bl) := by
  have HC := Lib.hid (apart_bytes g base N cH (bagC (.slice AH N cH) (.slice none 0 0) (.slice none 0 0)) AH bl w hb rfl hN hN300 hH hown hd hL hbase)
  have hng := foot_blk hown hb (by decide)
  have Hb := Lib.hid hb; clear hb
  have Hng := Lib.hid hng; clear hng hN hH hown hd hL
  go_enter Tryd.func16, Tryd.ntmps16
  go_wp2_with fail
  refine HC.out.mono ?_
  rintro e w1 ⟨rfl, hk⟩
  have Hk := Lib.hid hk
  have Hb1 := Lib.hid (hk.blk Hb.out Hng.out); clear hk
  go_wp2_with (first | (go_at_call 65; refine (apart_Ints_no g 0 none _ _ Hb1.out rfl).mono ?_; rintro e w' ⟨rfl, rfl⟩) | (go_at_call 66; refine (apart_Longs_no g 0 none _ _ Hb1.out rfl).mono ?_; rintro e w' ⟨rfl, rfl⟩) | (go_at_call 67; refine (apart_Words_no g 0 none _ _ Hb1.out rfl).mono ?_; rintro e w' ⟨rfl, rfl⟩) | (go_at_call 68; refine (apart_Bools_no g 0 none _ _ Hb1.out rfl).mono ?_; rintro e w' ⟨rfl, rfl⟩) | (go_at_call 69; refine (apart_Texts_no g 0 none _ _ Hb1.out rfl).mono ?_; rintro e w' ⟨rfl, rfl⟩) | (go_at_call 70; refine (apart_Sigs_no g 0 none _ _ Hb1.out rfl).mono ?_; rintro e w' ⟨rfl, rfl⟩) | (go_at_call 71; refine (apart_Globals_no g 0 none _ _ Hb1.out rfl).mono ?_; rintro e w' ⟨rfl, rfl⟩) | (go_at_call 72; refine (apart_Exports_no g 0 none _ _ Hb1.out rfl).mono ?_; rintro e w' ⟨rfl, rfl⟩) | (go_at_call 73; refine (apart_Code_no g 0 none _ _ Hb1.out rfl).mono ?_; rintro e w' ⟨rfl, rfl⟩) | (go_at_call 74; refine (apart_Functions_no g 0 none _ _ Hb1.out rfl).mono ?_; rintro e w' ⟨rfl, rfl⟩) | (go_at_call 75; refine (apart_Datas_no g 0 none _ _ Hb1.out rfl).mono ?_; rintro e w' ⟨rfl, rfl⟩) | (go_at_call 76; refine (apart_Tables_no g 0 none _ _ Hb1.out rfl).mono ?_; rintro e w' ⟨rfl, rfl⟩) | (go_at_call 77; refine (apart_Frames_no g 0 none _ _ Hb1.out rfl).mono ?_; rintro e w' ⟨rfl, rfl⟩) | (go_at_call 78; refine (apart_Replies_no g 0 none _ _ Hb1.out rfl).mono ?_; rintro e w' ⟨rfl, rfl⟩) | (go_at_call 79; refine (apart_Pages_no g 0 none _ _ Hb1.out rfl).mono ?_; rintro e w' ⟨rfl, rfl⟩) | (go_at_call 80; refine (apart_Rows_no g 0 none _ _ Hb1.out rfl).mono ?_; rintro e w' ⟨rfl, rfl⟩))
  go_ret
  exact ⟨rfl, Hk.out⟩
end Go.Proofs.YtndkhlafpcedbaaDoor
