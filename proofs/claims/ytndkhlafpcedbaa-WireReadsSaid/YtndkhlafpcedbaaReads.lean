/- The law WireReads, walked. -/
import Derived.Test.YtndkhlafpcedbaaWireG
namespace Go.Proofs.Ytndkhlafpcedbaa
set_option linter.unusedVariables false
open Go.RowKit
theorem getD_mem_range (ps : List Int) (h : ∀ x ∈ ps, -9223372036854775808 ≤ x ∧ x < 9223372036854775808) (k : Nat) (hk : k < ps.length) : -9223372036854775808 ≤ ps[k]?.getD 0 ∧ ps[k]?.getD 0 < 9223372036854775808 := by
  rw [List.getElem?_eq_getElem hk]
  exact h _ (List.getElem_mem hk)
def ivals (ps : List Int) : List Value := ps.map (Value.int .i64)
theorem ivals_cell {w : World} {B : Nat} {A : Option Addr} {ps : List Int} (h : Row w B A (ivals ps)) {k : Nat} (hk : k < ps.length) :
    ∃ b o, A = some ⟨b, o, none⟩ ∧ b < B ∧ w.cell? ⟨b, o + k, none⟩ = some (.int .i64 (ps[k]?.getD 0)) := by
  refine h.at ?_
  unfold ivals
  rw [List.getElem?_map, List.getElem?_eq_getElem hk]
  rfl
def OutRel (S : Nat) (w3 : World) (i : Value) (wr : World) : Prop := ∃ k : Nat, k ≤ 7 ∧ i = .int .i64 k ∧ Below S w3 wr
def InRel (j : Value) : Prop := ∃ k : Nat, k ≤ 5 ∧ j = .int .i64 k
set_option maxRecDepth 100000 in
set_option maxHeartbeats 1000000 in
theorem walk_WireReads (A : Option Addr) (n c B : Nat) (p0 most : Int) (w : World) (l : List UInt8) (hn : n = l.length) (hc : n ≤ c) (h47 : n ≤ 140737488351232) (hr : Row w B A (l.map bv)) (hB : B ≤ w.heap.size)
    (hp : -9223372036854775808 ≤ p0 ∧ p0 < 9223372036854775808) (hm : -9223372036854775808 ≤ most ∧ most < 9223372036854775808) :
    Calls Try.prog 4 #[.slice A n c, .int .i64 p0, .int .i64 most] w fun e w' => e = .returned (.bool true) ∧ Below w.heap.size w w' := by
  have Hn := Lib.hid hn; clear hn
  have Hr := Lib.hid hr; clear hr
  have Hp := Lib.hid hp; clear hp
  have Hm := Lib.hid hm; clear hm
  by_cases hbig : 1048576 < n
  · go_enter Try.func4, Try.ntmps4
    go_wp2_with fail
    refine (works01 w).mono ?_
    rintro e w1 ⟨rfl, h1⟩
    have H1 := Lib.hid h1; clear h1
    go_wp2_with fail
    go_ret
    exact ⟨rfl, H1.out⟩
  · go_enter Try.func4, Try.ntmps4
    go_wp2_with fail
    refine (works01 w).mono ?_
    rintro e w1 ⟨rfl, h1⟩
    have H1 := Lib.hid h1; clear h1
    go_wp2_with fail
    refine (wide_bytes A n c B w1 l Hn.out (by omega) (Hr.out.below' H1.out hB) (by have := H1.out.size; omega)).mono ?_
    rintro e w2 ⟨g, rfl, hblk, h2, hg⟩
    have Hb := Lib.hid hblk; clear hblk
    have H2 := Lib.hid (H1.out.trans (h2.mono H1.out.size))
    have HA : Hid (Row w2 B A (l.map bv)) := Lib.hid (Hr.out.below' H2.out hB)
    have HK : Hid (Row w2 (g + 1) (some ⟨g, 0, none⟩) (l.map bv)) := Lib.hid (by have := Hb.out.row 0 n; simpa [Hn.out] using this)
    have HB2 : B ≤ w2.heap.size := by have := H2.out.size; omega
    have hg2 : g + 1 ≤ w2.heap.size := Hb.out.lt
    clear h2 hg hB Hr
    go_wp2_with fail
    obtain ⟨ps, hps, hpr, hpl⟩ : ∃ ps : List Int, w2.alloc (.cells #[.int .i64 p0, .int .i64 0, .int .i64 (-1), .int .i64 n, .int .i64 (n + 1), .int .i64 9223372036854775807, .int .i64 (-9223372036854775808)] 3) = w2.alloc (.cells (ivals ps).toArray 3) ∧ (∀ x ∈ ps, -9223372036854775808 ≤ x ∧ x < 9223372036854775808) ∧ ps.length = 7 :=
      ⟨[p0, 0, -1, n, n + 1, 9223372036854775807, -9223372036854775808], rfl, by
        intro x hx
        have := Hp.out
        simp only [List.mem_cons, List.not_mem_nil, or_false] at hx
        omega, rfl⟩
    rw [hps]
    clear hps
    have Hpr := Lib.hid hpr; clear hpr
    have Hpl := Lib.hid hpl; clear hpl
    generalize hw : w2.alloc (.cells (ivals ps).toArray 3) = w3
    have HP : Hid (Row w3 (w2.heap.size + 1) (some ⟨w2.heap.size, 0, none⟩) (ivals ps)) := by rw [← hw]; exact Lib.hid (row_lit w2 (ivals ps) 3)
    have H23 : Hid (Below w2.heap.size w2 w3) := by rw [← hw]; exact Lib.hid ((Below.refl _ _).alloc (Nat.le_refl _) _)
    have hsz : Hid (w3.heap.size = w2.heap.size + 1) := by rw [← hw]; exact Lib.hid (by simp)
    clear hw
    have HA3 : Hid (Row w3 B A (l.map bv)) := Lib.hid (HA.out.below' H23.out HB2)
    have HK3 : Hid (Row w3 (g + 1) (some ⟨g, 0, none⟩) (l.map bv)) := Lib.hid (HK.out.below' H23.out hg2)
    have Hb3 : Hid (Blk w3 g 5 (l.map bv ++ marksB l.length)) := Lib.hid (Hb.out.below H23.out hg2)
    have H3 : Hid (Below w.heap.size w w3) := Lib.hid (H2.out.trans (H23.out.mono H2.out.size))
    clear HA HK Hb
    go_loopw [10] (fun i wr => OutRel w3.heap.size w3 i wr) (fun i _ => 7 - (intOf i).toNat)
    case atStart => exact ⟨0, by omega, rfl, Below.refl _ _⟩
    case round =>
      obtain ⟨k, hk, rfl, hbel⟩ := hrel
      obtain ⟨wo, rfl⟩ : ∃ wo : World, wo = wr := ⟨_, rfl⟩
      have Hbel := Lib.hid hbel; clear hbel
      by_cases hlt : k < 7
      · obtain ⟨bp, op, hbp, _, hcell0⟩ := ivals_cell HP.out (k := k) (by rw [Hpl.out]; exact hlt)
        have hcell : wo.cell? ⟨w2.heap.size, k, none⟩ = some (.int .i64 (ps[k]?.getD 0)) := by
          injection hbp with hbp; injection hbp with h1 h2; subst h1; subst h2
          rw [Nat.zero_add] at hcell0
          exact (Hbel.out.cell (by show w2.heap.size < _; have := hsz.out; omega)).trans hcell0
        have Hrange := Lib.hid (getD_mem_range ps Hpr.out k (by rw [Hpl.out]; exact hlt))
        clear hbp hcell0
        generalize ps[k]?.getD 0 = p at *
        have hi : (0 : Int) ≤ k := by omega
        have HA4 : Hid (Row wo B A (l.map bv)) := Lib.hid (HA3.out.below' Hbel.out (by have := hsz.out; omega))
        have HK4 : Hid (Row wo (g + 1) (some ⟨g, 0, none⟩) (l.map bv)) := Lib.hid (HK3.out.below' Hbel.out (by have := hsz.out; omega))
        have HC1 := Lib.hid (wire_ReadUvar (some ⟨g, 0, none⟩) n (n + 64) _ p wo l Hn.out h47 HK4.out)
        have HC2 := Lib.hid (ref_ReadUvar A n c _ p wo l Hn.out h47 HA4.out)
        have HC3 := Lib.hid (wire_ReadSvar (some ⟨g, 0, none⟩) n (n + 64) _ p wo l Hn.out h47 HK4.out)
        have HC4 := Lib.hid (ref_ReadSvar A n c _ p wo l Hn.out h47 HA4.out)
        generalize uvar l p = r at *
        obtain ⟨v, nx, er⟩ := r
        simp only at HC1 HC2 HC3 HC4
        generalize unfolded v = sv at *
        go_wp2_with fail
        refine HC1.out.mono ?_
        rintro e w' ⟨rfl, rfl⟩
        go_wp2_with fail
        refine HC2.out.mono ?_
        rintro e w' ⟨rfl, rfl⟩
        go_wp2_with fail
        refine HC3.out.mono ?_
        rintro e w' ⟨rfl, rfl⟩
        go_wp2_with fail
        refine HC4.out.mono ?_
        rintro e w' ⟨rfl, rfl⟩
        go_wp2_with fail
        obtain ⟨qs, hqs, hqr, hql⟩ : ∃ qs : List Int, wo.alloc (.cells #[.int .i64 most, .int .i64 0, .int .i64 (-1), .int .i64 9223372036854775807, .int .i64 (-9223372036854775808)] 3) = wo.alloc (.cells (ivals qs).toArray 3) ∧ (∀ x ∈ qs, -9223372036854775808 ≤ x ∧ x < 9223372036854775808) ∧ qs.length = 5 :=
          ⟨[most, 0, -1, 9223372036854775807, -9223372036854775808], rfl, by
            intro x hx
            have := Hm.out
            simp only [List.mem_cons, List.not_mem_nil, or_false] at hx
            omega, rfl⟩
        rw [hqs]
        clear hqs
        have Hqr := Lib.hid hqr; clear hqr
        have Hql := Lib.hid hql; clear hql
        generalize hw : wo.alloc (.cells (ivals qs).toArray 3) = w5
        have HQ : Hid (Row w5 (wo.heap.size + 1) (some ⟨wo.heap.size, 0, none⟩) (ivals qs)) := by rw [← hw]; exact Lib.hid (row_lit wo (ivals qs) 3)
        have H5 : Hid (Below wo.heap.size wo w5) := by rw [← hw]; exact Lib.hid ((Below.refl _ _).alloc (Nat.le_refl _) _)
        clear hw
        have hwr : Hid (w3.heap.size ≤ wo.heap.size) := Lib.hid Hbel.out.size
        have HA5 : Hid (Row w5 B A (l.map bv)) := Lib.hid (HA4.out.below' H5.out (by have := hwr.out; have := hsz.out; omega))
        have HK5 : Hid (Row w5 (g + 1) (some ⟨g, 0, none⟩) (l.map bv)) := Lib.hid (HK4.out.below' H5.out (by have := hwr.out; have := hsz.out; omega))
        clear HA4 HK4 HC1 HC2 HC3 HC4
        go_loopw [21] (fun j wq => InRel j ∧ wq = w5) (fun j _ => 5 - (intOf j).toNat)
        case atStart => exact ⟨⟨0, by omega, rfl⟩, rfl⟩
        case round =>
          obtain ⟨⟨j, hj, rfl⟩, rfl⟩ := hrel
          by_cases hlt2 : j < 5
          · obtain ⟨bq, oq, hbq, _, hcellq⟩ := ivals_cell HQ.out (k := j) (by rw [Hql.out]; exact hlt2)
            have hcell5 : wr.cell? ⟨wo.heap.size, j, none⟩ = some (.int .i64 (qs[j]?.getD 0)) := by
              injection hbq with hbq; injection hbq with h1 h2; subst h1; subst h2
              rwa [Nat.zero_add] at hcellq
            have Hrange2 := Lib.hid (getD_mem_range qs Hqr.out j (by rw [Hql.out]; exact hlt2))
            clear hbq hcellq
            generalize qs[j]?.getD 0 = q at *
            have hj0 : (0 : Int) ≤ j := by omega
            have HC1 := Lib.hid (wire_ReadCount (some ⟨g, 0, none⟩) n (n + 64) _ p q _ l Hn.out h47 HK5.out Hrange2.out.2)
            have HC2 := Lib.hid (ref_ReadCount A n c _ p q _ l Hn.out h47 HA5.out Hrange2.out.2)
            have HC3 := Lib.hid (wire_ReadText (some ⟨g, 0, none⟩) n (n + 64) _ p q _ l Hn.out (by omega) h47 HK5.out Hrange2.out.2)
            have HC4 := Lib.hid (ref_ReadText A n c _ p q _ l Hn.out hc h47 HA5.out Hrange2.out.2)
            generalize cnt l p q 20 = r1 at *
            generalize txt l p q = r2 at *
            obtain ⟨v1, n1, e1⟩ := r1
            obtain ⟨v2, n2, e2⟩ := r2
            simp only at HC1 HC2 HC3 HC4
            generalize ByteArray.mk v2.toArray = s2 at *
            go_wp2_with fail
            refine HC1.out.mono ?_
            rintro e w' ⟨rfl, rfl⟩
            go_wp2_with fail
            refine HC2.out.mono ?_
            rintro e w' ⟨rfl, rfl⟩
            go_wp2_with fail
            refine HC3.out.mono ?_
            rintro e w' ⟨rfl, rfl⟩
            go_wp2_with fail
            refine HC4.out.mono ?_
            rintro e w' ⟨rfl, rfl⟩
            go_wp2_with fail
            exact ⟨⟨⟨j + 1, by omega, by go_num⟩, by first | rfl | trivial⟩, by simp [intOf]; omega⟩
          · obtain rfl : j = 5 := by omega
            go_wp2_with fail
            exact ⟨⟨k + 1, by omega, by go_num, Hbel.out.trans (H5.out.mono Hbel.out.size)⟩, by simp [intOf]; omega⟩
      · obtain rfl : k = 7 := by omega
        go_wp2_with fail
        have HA4 : Hid (Row wo B A (l.map bv)) := Lib.hid (HA3.out.below' Hbel.out (by have := hsz.out; omega))
        have HK4 : Hid (Row wo (g + 1) (some ⟨g, 0, none⟩) (l.map bv)) := Lib.hid (HK3.out.below' Hbel.out (by have := hsz.out; omega))
        have Hb4 : Hid (Blk wo g 5 (l.map bv ++ marksB l.length)) := Lib.hid (Hb3.out.below Hbel.out (by have := hsz.out; omega))
        refine (eq_bytes _ _ n n _ _ _ _ wo l l Hn.out Hn.out (by omega) HK4.out HA4.out).mono ?_
        rintro e w' ⟨⟨m, rfl⟩, rfl⟩
        rw [show decide (l = l) = true from decide_eq_true rfl]
        go_wp2_with fail
        refine (spare_bytes g 0 n (n + 64) _ (by omega) (by omega) (fun j hj1 hj2 => ?_)).mono ?_
        · have := (Hb4.out.drewN m).cell j
          rw [Nat.zero_add, this, wide_get l j (by rw [← Hn.out]; omega), if_neg (by rw [← Hn.out]; omega)]
        rintro e w' ⟨rfl, rfl⟩
        go_wp2_with fail
        go_ret
        exact ⟨rfl, below_drewN (H3.out.trans (Hbel.out.mono H3.out.size)) m⟩
end Go.Proofs.Ytndkhlafpcedbaa
