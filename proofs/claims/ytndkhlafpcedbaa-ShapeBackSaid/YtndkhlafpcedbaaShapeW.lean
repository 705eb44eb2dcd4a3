/- The laws ShapeCalls and ShapeBack, walked. -/
import Derived.Test.YtndkhlafpcedbaaShapeE
import Derived.Test.YtndkhlafpcedbaaShapeQ
import Derived.Test.YtndkhlafpcedbaaLists
namespace Go.Proofs.Ytndkhlafpcedbaa
set_option linter.unusedVariables false
open Go.RowKit
theorem push_w : pushS ⟨#[119]⟩ ⟨#[108, 119]⟩ = (⟨#[119, 108, 119]⟩, 0) := by decide +kernel
theorem pop_w : popS ⟨#[119, 108, 119]⟩ ⟨#[119]⟩ = (⟨#[119, 108]⟩, 0) := by decide +kernel
theorem keep_w : keepS ⟨#[119, 108, 119, 119]⟩ 1 ⟨#[119]⟩ = (⟨#[119, 119]⟩, 0) := by decide +kernel
theorem top_w : topS ⟨#[119, 108, 119]⟩ ⟨#[108, 119]⟩ = true := by decide +kernel
theorem top_x : topS ⟨#[119, 108, 119]⟩ ⟨#[108]⟩ = false := by decide +kernel
set_option maxRecDepth 100000 in
set_option maxHeartbeats 400000 in
theorem works08 (w : World) : Calls Try.prog 41 #[] w fun e w' => e = .returned (.bool true) ∧ Below w.heap.size w w' := by
  go_enter Try.func41, Try.ntmps41
  go_wp2_with fail
  refine (shape_Push ⟨#[119]⟩ ⟨#[108, 119]⟩ (by decide) (by decide) w).mono ?_
  rw [push_w]
  rintro e w1 ⟨h1, rfl⟩
  have H1 := Lib.hid h1; clear h1
  go_wp2_with fail
  refine (shape_Pop ⟨#[119, 108, 119]⟩ ⟨#[119]⟩ (by decide) (by decide) w1).mono ?_
  rw [pop_w]
  rintro e w2 ⟨h2, rfl⟩
  have H2 := Lib.hid (H1.out.trans (h2.mono H1.out.size)); clear h2
  go_wp2_with fail
  refine (shape_Keep ⟨#[119, 108, 119, 119]⟩ ⟨#[119]⟩ 1 (by decide) (by decide) w2).mono ?_
  rw [keep_w]
  rintro e w3 ⟨h3, rfl⟩
  have H3 := Lib.hid (H2.out.trans (h3.mono H2.out.size)); clear h3
  go_wp2_with fail
  refine (shape_Top ⟨#[119, 108, 119]⟩ ⟨#[108, 119]⟩ (by decide) (by decide) w3).mono ?_
  rw [top_w]
  rintro e w4 ⟨h4, rfl⟩
  have H4 := Lib.hid (H3.out.trans (h4.mono H3.out.size)); clear h4
  go_wp2_with fail
  refine (shape_Top ⟨#[119, 108, 119]⟩ ⟨#[108]⟩ (by decide) (by decide) w4).mono ?_
  rw [top_x]
  rintro e w5 ⟨h5, rfl⟩
  have H5 := Lib.hid (H4.out.trans (h5.mono H4.out.size)); clear h5
  go_wp2_with fail
  go_ret
  exact ⟨rfl, H5.out⟩
def ScRel (S : Nat) (w0 : World) (i : Value) (wr : World) : Prop := ∃ k : Nat, k ≤ 7 ∧ i = .int .i64 k ∧ Below S w0 wr
set_option maxRecDepth 100000 in
set_option maxHeartbeats 1000000 in
theorem walk_ShapeCalls (s t : ByteArray) (f : Int) (w : World) (hs : s.size ≤ 140737488351232) (ht : t.size ≤ 140737488351232) (hf : -9223372036854775808 ≤ f ∧ f < 9223372036854775808) :
    Calls Try.prog 7 #[.string s, .string t, .int .i64 f] w fun e w' => e = .returned (.bool true) ∧ Below w.heap.size w w' := by
  by_cases hbig : 1048576 < s.size + t.size
  · go_enter Try.func7, Try.ntmps7
    go_wp2_with fail
    refine (works08 w).mono ?_
    rintro e w1 ⟨rfl, h1⟩
    have H1 := Lib.hid h1; clear h1
    go_wp2_with fail
    go_ret
    exact ⟨rfl, H1.out⟩
  · have HP := Lib.hid (fun W => shape_Push s t hs ht W)
    have HP' := Lib.hid (fun W => ref_Push s t hs ht W)
    have HO := Lib.hid (fun W => shape_Pop s t hs ht W)
    have HO' := Lib.hid (fun W => ref_Pop s t hs ht W)
    have HT := Lib.hid (fun W => shape_Top s t hs ht W)
    have HT' := Lib.hid (fun W => ref_Top s t hs ht W)
    generalize pushS s t = pu at *
    generalize popS s t = po at *
    generalize topS s t = to at *
    obtain ⟨pu1, pu2⟩ := pu
    obtain ⟨po1, po2⟩ := po
    simp only at HP HP' HO HO'
    have hto : (to != to) = false := by simp
    go_enter Try.func7, Try.ntmps7
    go_wp2_with fail
    refine (works08 w).mono ?_
    rintro e w1 ⟨rfl, h1⟩
    have H1 := Lib.hid h1; clear h1
    go_wp2_with fail
    refine (HP.out w1).mono ?_
    rintro e w2 ⟨h2, rfl⟩
    have H2 := Lib.hid (H1.out.trans (h2.mono H1.out.size)); clear h2
    go_wp2_with fail
    refine (HP'.out w2).mono ?_
    rintro e w' ⟨rfl, rfl⟩
    go_wp2_with fail
    refine (HO.out w2).mono ?_
    rintro e w3 ⟨h3, rfl⟩
    have H3 := Lib.hid (H2.out.trans (h3.mono H2.out.size)); clear h3
    go_wp2_with fail
    refine (HO'.out w3).mono ?_
    rintro e w' ⟨rfl, rfl⟩
    go_wp2_with fail
    refine (HT.out w3).mono ?_
    rintro e w4 ⟨h4, rfl⟩
    have H4 := Lib.hid (H3.out.trans (h4.mono H3.out.size)); clear h4
    go_wp2_with fail
    refine (HT'.out w4).mono ?_
    rintro e w' ⟨rfl, rfl⟩
    go_wp2_with fail
    obtain ⟨ps, hps, hpl⟩ : ∃ ps : List Int, w4.alloc (.cells #[.int .i64 f, .int .i64 0, .int .i64 (-1), .int .i64 ((s.size : Int) - t.size), .int .i64 ((s.size : Int) - t.size + 1), .int .i64 9223372036854775807, .int .i64 (-9223372036854775808)] 3) = w4.alloc (.cells (ivals ps).toArray 3) ∧ ps.length = 7 :=
      ⟨[f, 0, -1, (s.size : Int) - t.size, (s.size : Int) - t.size + 1, 9223372036854775807, -9223372036854775808], rfl, rfl⟩
    rw [hps]
    clear hps
    have Hpl := Lib.hid hpl; clear hpl
    generalize hw : w4.alloc (.cells (ivals ps).toArray 3) = w5
    have HR5 : Hid (Row w5 (w4.heap.size + 1) (some ⟨w4.heap.size, 0, none⟩) (ivals ps)) := by rw [← hw]; exact Lib.hid (row_lit w4 (ivals ps) 3)
    have H45 : Hid (Below w4.heap.size w4 w5) := by rw [← hw]; exact Lib.hid ((Below.refl _ _).alloc (Nat.le_refl _) _)
    have hsz : Hid (w5.heap.size = w4.heap.size + 1) := by rw [← hw]; exact Lib.hid (by simp)
    clear hw
    have H5 : Hid (Below w.heap.size w w5) := Lib.hid (H4.out.trans (H45.out.mono H4.out.size))
    clear HP HP' HO HO' HT HT'
    go_loopw [17] (fun i wr => ScRel w5.heap.size w5 i wr) (fun i _ => 7 - (intOf i).toNat)
    case atStart => exact ⟨0, by omega, rfl, Below.refl _ _⟩
    case round =>
      obtain ⟨k, hk, rfl, hbel⟩ := hrel
      have Hbel := Lib.hid hbel; clear hbel
      by_cases hlt : k < 7
      · obtain ⟨bp, op, hbp, _, hcell0⟩ := ivals_cell HR5.out (k := k) (by rw [Hpl.out]; exact hlt)
        have hcell : wr.cell? ⟨w4.heap.size, k, none⟩ = some (.int .i64 (ps[k]?.getD 0)) := by
          injection hbp with hbp; injection hbp with h1 h2; subst h1; subst h2
          rw [Nat.zero_add] at hcell0
          exact (Hbel.out.cell (by show w4.heap.size < _; have := hsz.out; omega)).trans hcell0
        clear hbp hcell0
        generalize ps[k]?.getD 0 = q at *
        have hi : (0 : Int) ≤ k := by omega
        have HK := Lib.hid (fun W => shape_Keep s t q hs ht W)
        have HK' := Lib.hid (fun W => ref_Keep s t q hs ht W)
        generalize keepS s q t = ke at *
        obtain ⟨ke1, ke2⟩ := ke
        simp only at HK HK'
        go_wp2_with fail
        refine (HK.out _).mono ?_
        rintro e w6 ⟨h6, rfl⟩
        have H6 := Lib.hid (Hbel.out.trans (h6.mono Hbel.out.size)); clear h6
        have hcell6 : w6.cell? ⟨w4.heap.size, k, none⟩ = some (.int .i64 q) := by
          have h1 := Hbel.out.cell (p := ⟨w4.heap.size, k, none⟩) (by show w4.heap.size < _; have := hsz.out; omega)
          have h2 := H6.out.cell (p := ⟨w4.heap.size, k, none⟩) (by show w4.heap.size < _; have := hsz.out; omega)
          rw [h2, ← h1]; exact hcell
        go_wp2_with fail
        refine (HK'.out _).mono ?_
        rintro e w' ⟨rfl, rfl⟩
        go_wp2_with fail
        exact ⟨⟨k + 1, by omega, by go_num, H6.out⟩, by simp [intOf]; omega⟩
      · obtain rfl : k = 7 := by omega
        go_wp2_with fail
        go_ret
        exact ⟨rfl, H5.out.trans (Hbel.out.mono H5.out.size)⟩
set_option maxRecDepth 100000 in
set_option maxHeartbeats 2000000 in
theorem walk_ShapeBack (s t : ByteArray) (f : Int) (w : World) (hs : s.size ≤ 140737488351232) (ht : t.size ≤ 140737488351232) (hf : -9223372036854775808 ≤ f ∧ f < 9223372036854775808) :
    Calls Try.prog 8 #[.string s, .string t, .int .i64 f] w fun e w' => e = .returned (.bool true) ∧ Below w.heap.size w w' := by
  by_cases hbig : 1048576 < s.size + t.size
  · go_enter Try.func8, Try.ntmps8
    go_wp2_with fail
    refine (works08 w).mono ?_
    rintro e w1 ⟨rfl, h1⟩
    have H1 := Lib.hid h1; clear h1
    go_wp2_with fail
    go_ret
    exact ⟨rfl, H1.out⟩
  · have HP := Lib.hid (fun W => shape_Push s t hs ht W)
    have HO := Lib.hid (fun W => shape_Pop s t hs ht W)
    have HK := Lib.hid (fun W => shape_Keep s t f hs ht W)
    have HPb := Lib.hid (fun (a : ByteArray) (h : pushS s t = (a, 0)) => push_back h)
    have HOb := Lib.hid (fun (a : ByteArray) (h : popS s t = (a, 0)) => pop_back h)
    have HKb := Lib.hid (fun (a : ByteArray) (h : keepS s f t = (a, 0)) => keep_back h)
    have HZ := Lib.hid (sizes s t f (by omega) (by omega))
    generalize pushS s t = pu at *
    generalize popS s t = po at *
    generalize keepS s f t = ke at *
    obtain ⟨pu1, pu2⟩ := pu
    obtain ⟨po1, po2⟩ := po
    obtain ⟨ke1, ke2⟩ := ke
    simp only at HP HO HK HZ
    obtain ⟨z1, z2, z3⟩ := HZ.out
    go_enter Try.func8, Try.ntmps8
    go_wp2_with fail
    refine (works08 w).mono ?_
    rintro e w1 ⟨rfl, h1⟩
    have H1 := Lib.hid h1; clear h1
    go_wp2_with fail
    refine (HP.out w1).mono ?_
    rintro e w2 ⟨h2, rfl⟩
    have H2 := Lib.hid (H1.out.trans (h2.mono H1.out.size)); clear h2
    by_cases hp2 : pu2 = 0
    case' pos =>
      subst hp2
      obtain ⟨b1, b2, b3⟩ := HPb.out pu1 rfl
      have K1 := shape_Pop pu1 t (by omega) ht w2
      rw [b1] at K1
      have HK1 := Lib.hid K1; clear K1
      have HK2 := Lib.hid (fun W => shape_Top pu1 t (by omega) ht W)
      rw [b2] at HK2
      have HK3 := Lib.hid (fun W => shape_Keep pu1 t s.size (by omega) ht W)
      rw [b3] at HK3
      clear b1 b2 b3
      go_wp2_with fail
      refine HK1.out.mono ?_
      rintro e w3 ⟨h3, rfl⟩
      have H3 := Lib.hid (H2.out.trans (h3.mono H2.out.size)); clear h3
      go_wp2_with fail
      refine (HK2.out w3).mono ?_
      rintro e w4 ⟨h4, rfl⟩
      have H4 := Lib.hid (H3.out.trans (h4.mono H3.out.size)); clear h4
      go_wp2_with fail
      refine (HK3.out w4).mono ?_
      rintro e wA ⟨h5, rfl⟩
      have HA := Lib.hid (H4.out.trans (h5.mono H4.out.size)); clear h5
      go_wp2_with fail
    case' neg =>
      have hp3 : ((pu2 : Int) == 0) = false := by simp; omega
      obtain ⟨wA, rfl⟩ : ∃ wA : World, wA = w2 := ⟨_, rfl⟩
      have HA := Lib.hid H2.out
      go_wp2_with fail
    all_goals
      refine (HO.out wA).mono ?_
      rintro e w6 ⟨h6, rfl⟩
      have H6 := Lib.hid (HA.out.trans (h6.mono HA.out.size)); clear h6
      by_cases ho2 : po2 = 0
      case' pos =>
        subst ho2
        have K1 := shape_Push po1 t (by omega) ht w6
        rw [HOb.out po1 rfl] at K1
        have HK1 := Lib.hid K1; clear K1
        go_wp2_with fail
        refine HK1.out.mono ?_
        rintro e wB ⟨h7, rfl⟩
        have HB := Lib.hid (H6.out.trans (h7.mono H6.out.size)); clear h7
        go_wp2_with fail
      case' neg =>
        have ho3 : ((po2 : Int) == 0) = false := by simp; omega
        obtain ⟨wB, rfl⟩ : ∃ wB : World, wB = w6 := ⟨_, rfl⟩
        have HB := Lib.hid H6.out
        go_wp2_with fail
      all_goals
        refine (HK.out wB).mono ?_
        rintro e w8 ⟨h8, rfl⟩
        have H8 := Lib.hid (HB.out.trans (h8.mono HB.out.size)); clear h8
        by_cases hk2 : ke2 = 0
        · subst hk2
          obtain ⟨b1, b2, b3⟩ := HKb.out ke1 rfl
          have K1 := shape_Keep ke1 t f (by omega) ht w8
          rw [b1] at K1
          have HK1 := Lib.hid K1; clear K1
          have HK2 := Lib.hid (fun W => shape_Top ke1 t (by omega) ht W)
          rw [b2] at HK2
          clear b1 b2
          have hf0 : f ≤ 140737488351232 := by omega
          have hf1 : -140737488351232 ≤ f := by omega
          have hq : ((ke1.size : Int) == f + t.size) = true := by simp; omega
          clear b3
          go_wp2_with fail
          refine HK1.out.mono ?_
          rintro e w9 ⟨h9, rfl⟩
          have H9 := Lib.hid (H8.out.trans (h9.mono H8.out.size)); clear h9
          go_wp2_with fail
          refine (HK2.out w9).mono ?_
          rintro e w10 ⟨h10, rfl⟩
          have H10 := Lib.hid (H9.out.trans (h10.mono H9.out.size)); clear h10
          go_wp2_with fail
          go_ret
          exact ⟨rfl, H10.out⟩
        · have hk3 : ((ke2 : Int) != 0) = true := by simp; omega
          go_wp2_with fail
          go_ret
          exact ⟨rfl, H8.out⟩
end Go.Proofs.Ytndkhlafpcedbaa
