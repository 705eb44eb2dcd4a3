/- flagonlaw15.left, flagonref15.Call. -/
import Derived.Test.YtndkhlafpcedbaaHostF
import Derived.Test.YtndkhlafpcedbaaRef14
namespace Go.Proofs.Ytndkhlafpcedbaa
set_option linter.unusedVariables false
open Go.RowKit
theorem own_nez {w : World} {base size g n : Nat} {t e : TypeId} {xs ys : List Value} {v : Value} (h : w.ownsRow base e size v n ys) (h' : Blk w g t xs) (hne : e ≠ t) : v.ownBlock ≠ some g := by
  rcases h.2 with ⟨rfl, _⟩ | ⟨g', cap, cur, rfl, _, hh, _⟩
  · simp [Value.ownBlock]
  · intro he
    have : g' = g := by simpa [Value.ownBlock] using he
    subst this
    unfold Blk at h'
    rw [hh] at h'
    injection h' with h'
    injection h' with _ ht
    exact hne ht
theorem law_left (A : Option Addr) (n c t : Nat) (w : World) (hn : n * 32 ≤ 140737488351232) (ht : t < 9223372036854775808) :
    Calls Try.prog 37 #[.slice A n c, .int .i64 t] w fun e w' => w = w' ∧ e = .returned (.int .i64 ((n - t : Nat) : Int)) := by
  have ht0 : decide ((t : Int) < 0) = false := decide_eq_false (by omega)
  by_cases h : n ≤ t
  · have hd : decide (n ≤ t) = true := decide_eq_true h
    have HE : Hid (((n - t : Nat) : Int) = 0) := Lib.hid (by omega)
    go_enter Try.func37, Try.ntmps37
    go_wp2
    go_ret
    exact ⟨rfl, by rw [HE.out]; rfl⟩
  · have hd : decide (n ≤ t) = false := decide_eq_false h
    have HE : Hid (((n - t : Nat) : Int) = (n : Int) - t) := Lib.hid (by omega)
    have h0 : (0 : Int) ≤ (n : Int) - t := by omega
    go_enter Try.func37, Try.ntmps37
    go_wp2
    go_ret
    exact ⟨rfl, by rw [HE.out]; rfl⟩
def RcRel (ws : List Nat) (g : Nat) (b : Bool) (A2 : Option Addr) (c2 : Nat) (w : World) (l i : Value) (wr : World) : Prop :=
  ∃ (k : Nat) (A : Option Addr) (c : Nat), k ≤ ws.length ∧ i = .int .i64 k ∧ l = .slice A k c ∧ wr.ownsRow w.heap.size 22 1 (.slice A k c) k ((ws.take k).map uv) ∧ Blk wr g 54 [.slice A2 ws.length c2, .bool b] ∧ Below w.heap.size w wr
set_option maxRecDepth 100000 in
set_option maxHeartbeats 2000000 in
theorem ref_Call (A : Option Addr) (n c lo hi : Nat) (sp : Bool) (rs : List Rep) (t : Nat) (s : ByteArray) (w : World) (h : (rScr sp).R w lo hi [.slice A n c] rs) (hhi : hi ≤ w.heap.size) (hle : RepsLe rs) (ht : t < 9223372036854775808) (h47 : s.size ≤ 140737488351232) :
    Calls Try.prog 39 #[.slice A n c, .int .i64 t, .string s] w fun e w' => ∃ A' c', e = .returned (.tuple #[.slice A' (callR rs t s).1.1.length c', .bool (callR rs t s).1.2, .int .i64 (callR rs t s).2]) ∧
      w'.ownsRow w.heap.size 22 1 (.slice A' (callR rs t s).1.1.length c') (callR rs t s).1.1.length ((callR rs t s).1.1.map uv) ∧ Below w.heap.size w w' := by
  have ht0 : decide ((t : Int) < 0) = false := decide_eq_false (by omega)
  have Hn := Lib.hid (scr_len h)
  have Hh := Lib.hid h; clear h
  have Hle := Lib.hid hle.2
  have hle1 := hle.1; clear hle
  rw [← Hn.out] at hle1
  by_cases hnt : n ≤ t
  · have hd : decide (n ≤ t) = true := decide_eq_true hnt
    have Hcr : Hid (callR rs t s = (([], false), t)) := Lib.hid (by unfold callR; rw [List.getElem?_eq_none (by rw [← Hn.out]; exact hnt)])
    go_enter Try.func39, Try.ntmps39
    go_wp2_with fail
    go_ret3
    rw [Hcr.out]
    exact ⟨none, 0, rfl, World.ownsRow_nil _ _ _ _, Below.refl _ _⟩
  · have hd : decide (n ≤ t) = false := decide_eq_false hnt
    obtain ⟨r, hr⟩ : ∃ r, rs[t]? = some r := ⟨_, List.getElem?_eq_getElem (by rw [← Hn.out]; omega)⟩
    have Hrk := Lib.hid hr; clear hr
    obtain ⟨b, o, A2, c2, rfl, hlo, hbhi, hcell0, hcell1, hw⟩ := scr_cell Hh.out Hrk.out
    have hr8 := Hle.out r (List.mem_of_getElem? Hrk.out)
    have Hcr : Hid (callR rs t s = (repR r s, t + 1)) := Lib.hid (by
      unfold callR repR
      rw [Hrk.out]
      simp only
      split <;> rfl)
    have HW := Lib.hid hw; clear hw
    obtain ⟨ws, tr⟩ := r
    simp only at hcell0 hcell1 HW hr8
    have hti : (t : Int) < 4398046511102 := by omega
    have ht0' : (0 : Int) ≤ t := by omega
    cases tr with
    | true =>
      have Hrr : Hid (repR (ws, true) s = ([], false)) := Lib.hid rfl
      go_enter Try.func39, Try.ntmps39
      go_wp2_with fail
      go_ret3
      rw [Hcr.out, Hrr.out]
      exact ⟨none, 0, by simp, World.ownsRow_nil _ _ _ _, (Below.refl _ _).alloc (Nat.le_refl _) _⟩
    | false =>
      have Hrr : Hid (repR (ws, false) s = if allB ws s.data.toList = false then ([], false) else (ws, true)) := Lib.hid (by unfold repR; simp)
      have HQ := Lib.hid (fun W (hW : Row W hi A2 (ws.map uv)) => ref_Lies A2 ws.length c2 hi s W ws rfl h47 (by omega) hW)
      go_enter Try.func39, Try.ntmps39
      go_wp2_with fail
      generalize hw1 : w.alloc (.cells #[.slice A2 ws.length c2, .bool false] 54) = w1
      have Hb : Hid (Blk w1 w.heap.size 54 [.slice A2 ws.length c2, .bool false]) := Lib.hid (by rw [← hw1]; exact Blk.new w 54 [_, _])
      have HB : Hid (Below w.heap.size w w1) := Lib.hid (by rw [← hw1]; exact (Below.refl _ _).alloc (Nat.le_refl _) _)
      have Hrow : Hid (Row w1 hi A2 (ws.map uv)) := Lib.hid (by
        have := Rd.below HW.out HB.out hhi
        exact (Rd.sl_row this).2)
      clear hw1
      have hsz1 : w.heap.size < w1.heap.size := Hb.out.lt
      have HQ1 := Lib.hid (HQ.out w1 Hrow.out)
      clear HQ
      cases hq : allB ws s.data.toList with
      | false =>
        have Hrr2 : Hid (repR (ws, false) s = ([], false)) := Lib.hid (by rw [Hrr.out, hq]; rfl)
        rw [hq] at HQ1
        clear hq Hrr
        refine HQ1.out.mono ?_
        rintro e w' ⟨⟨k, rfl⟩, rfl⟩
        go_wp2_with fail
        go_ret3
        rw [Hcr.out, Hrr2.out]
        exact ⟨none, 0, by simp, World.ownsRow_nil _ _ _ _, below_drewN HB.out k⟩
      | true =>
        have Hrr2 : Hid (repR (ws, false) s = (ws, true)) := Lib.hid (by rw [Hrr.out, hq]; rfl)
        rw [hq] at HQ1
        clear hq Hrr
        refine HQ1.out.mono ?_
        rintro e w' ⟨⟨q, rfl⟩, rfl⟩
        have Hb2 := Lib.hid (Hb.out.drewN q)
        have HB2 := Lib.hid (below_drewN HB.out q)
        have Hrow2 : Hid (Row (w1.drewN q) hi A2 (ws.map uv)) := Lib.hid (Hrow.out.drewN q)
        have hsz2 : w.heap.size < (w1.drewN q).heap.size := hsz1
        generalize w1.drewN q = w2 at *
        clear Hb HB Hrow HQ1 hsz1
        have hbc : w2.cell? ⟨w.heap.size, 0, none⟩ = some (.slice A2 ws.length c2) := Hb2.out.cell 0
        go_wp2_with fail
        go_loopw [11, 12] (fun l i wr => RcRel ws w.heap.size false A2 c2 w l i wr) (fun _ i _ => ws.length - (intOf i).toNat)
        case atStart => exact ⟨0, none, 0, Nat.zero_le _, rfl, rfl, World.ownsRow_nil _ _ _ _, Hb2.out, HB2.out⟩
        case round =>
          obtain ⟨k, A3, c3, hk, rfl, rfl, hown, hblk, hbel⟩ := hrel
          have Hown := Lib.hid hown; clear hown
          have Hblk := Lib.hid hblk; clear hblk
          have Hbel := Lib.hid hbel; clear hbel
          have hbc' : wr.cell? ⟨w.heap.size, 0, none⟩ = some (.slice A2 ws.length c2) := Hblk.out.cell 0
          have hszr : w.heap.size < wr.heap.size := Hblk.out.lt
          by_cases hlt : k < ws.length
          · have hrow3 : Row wr hi A2 (ws.map uv) := (Rd.sl_row (Rd.below HW.out Hbel.out hhi)).2
            obtain ⟨b', o', rfl, _, hcell⟩ := hrow3.word hlt
            have hk0 : (0 : Int) ≤ k := by omega
            have Htk : Hid (ws.take (k + 1) = ws.take k ++ [ws[k]?.getD 0]) := Lib.hid (by rw [List.take_add_one, List.getElem?_eq_getElem hlt]; rfl)
            clear hrow3
            generalize ws[k]?.getD 0 = x at *
            have Hone := Lib.hid (row_cells wr [.int .u64 x] 22)
            go_wp2_with (at_builtin; refine app_w _ rfl (.tmp 43) (.tmp 49) rfl w.heap.size A3 k c3 ((ws.take k).map uv) rfl (Hown.out.alloc _) (wr.heap.size + 1) _ 1 1 [.int .u64 x] rfl rfl Hone.out (fun u hu => by rw [List.mem_singleton] at hu; subst hu; rfl) (by omega) (by simp; omega) ?_; intro A4 c4 w4 h2 h3; have H2 := Lib.hid h2; have H3 := Lib.hid h3; clear h2 h3)
            refine ⟨⟨k + 1, A4, c4, by omega, by go_num, rfl, ?_, ?_, (Hbel.out.alloc (by omega) _).trans (own_belowz (Hown.out.alloc _) H3.out (by simp; omega))⟩, by simp [intOf]; omega⟩
            · rw [Htk.out, List.map_append]; exact H2.out
            · refine grown_blk H3.out (Hblk.out.alloc _) (own_nez Hown.out Hblk.out (by decide))
          · obtain rfl : k = ws.length := by omega
            go_wp2_with fail
            go_ret3
            rw [Hcr.out, Hrr2.out]
            have := Hown.out
            rw [List.take_of_length_le (Nat.le_refl _)] at this
            exact ⟨A3, c3, by simp, this, Hbel.out⟩
end Go.Proofs.Ytndkhlafpcedbaa
