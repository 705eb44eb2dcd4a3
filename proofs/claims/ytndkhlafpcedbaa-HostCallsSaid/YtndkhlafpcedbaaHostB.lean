/- flagonref00: EqReply, EqReplies, SizeReplies, Long. -/
import Derived.Test.YtndkhlafpcedbaaHostA
namespace Go.Proofs.Ytndkhlafpcedbaa
set_option linter.unusedVariables false
open Go.RowKit
set_option maxRecDepth 100000 in
set_option maxHeartbeats 400000 in
theorem eq_reply (A A' : Option Addr) (c c' lo hi lo' hi' : Nat) (sp sp' : Bool) (r r' : Rep) (w : World) (h : (Rd.u64.sl sp).R w lo hi [.slice A r.1.length c] r.1) (h' : (Rd.u64.sl sp').R w lo' hi' [.slice A' r'.1.length c'] r'.1) (hhi : hi ≤ w.heap.size) (hhi' : hi' ≤ w.heap.size) (h47 : r.1.length * 8 ≤ 140737488351232) :
    Calls Try.prog 71 #[.agg #[.slice A r.1.length c, .bool r.2], .agg #[.slice A' r'.1.length c', .bool r'.2]] w fun e w' => Below w.heap.size w w' ∧ e = .returned (.bool (decide (r = r'))) := by
  obtain ⟨l, t⟩ := r
  obtain ⟨l', t'⟩ := r'
  simp only at h h' h47 ⊢
  have Hr := Lib.hid (Rd.sl_row h).2; clear h
  have Hr' := Lib.hid (Rd.sl_row h').2; clear h'
  have HE : Hid (decide ((l, t) = (l', t')) = ((t == t') && decide (l = l'))) := Lib.hid (by
    rw [Bool.eq_iff_iff]; simp [and_comm])
  have HQ := Lib.hid (fun W hh hh' => eq_words A A' l.length l'.length c c' hi hi' W l l' rfl rfl (by omega) hh hh')
  generalize decide (l = l') = q at *
  generalize l.length = n at *
  generalize l'.length = n' at *
  cases htt : (t == t')
  all_goals
    rw [htt] at HE
    go_enter Try.func71, Try.ntmps71
    go_wp2_with fail
  · go_ret
    exact ⟨((Below.refl _ _).alloc (Nat.le_refl _) _).alloc (by simp) _, by rw [HE.out]; rfl⟩
  · generalize hw : (w.alloc _).alloc _ = w1
    have H1 : Hid (Below w.heap.size w w1) := by rw [← hw]; exact Lib.hid (((Below.refl _ _).alloc (Nat.le_refl _) _).alloc (by simp) _)
    clear hw
    refine (HQ.out w1 (Hr.out.below' H1.out hhi) (Hr'.out.below' H1.out hhi')).mono ?_
    rintro e w' ⟨⟨k, rfl⟩, rfl⟩
    go_wp2_with fail
    go_ret
    exact ⟨below_drewN H1.out k, by rw [HE.out, Bool.true_and]; rfl⟩
def ErRel (rs rs' : List Rep) (w : World) (n : Nat) (i : Value) (wr : World) : Prop :=
  ∃ k : Nat, k ≤ n ∧ i = .int .i64 k ∧ Below w.heap.size w wr ∧ rs.take k = rs'.take k
set_option maxRecDepth 100000 in
set_option maxHeartbeats 1000000 in
theorem eq_replies (A A' : Option Addr) (n n' c c' lo hi lo' hi' : Nat) (sp sp' : Bool) (rs rs' : List Rep) (w : World) (h : (rScr sp).R w lo hi [.slice A n c] rs) (h' : (rScr sp').R w lo' hi' [.slice A' n' c'] rs') (hhi : hi ≤ w.heap.size) (hhi' : hi' ≤ w.heap.size) (hle : RepsLe rs) :
    Calls Try.prog 34 #[.slice A n c, .slice A' n' c'] w fun e w' => Below w.heap.size w w' ∧ e = .returned (.bool (decide (rs = rs'))) := by
  have Hn := Lib.hid (scr_len h)
  have Hn' := Lib.hid (scr_len h')
  have Hh := Lib.hid h; clear h
  have Hh' := Lib.hid h'; clear h'
  have Hle := Lib.hid hle.2
  have hle1 := hle.1; clear hle
  rw [← Hn.out] at hle1
  by_cases hnn : n = n'
  · subst hnn
    go_enter Try.func34, Try.ntmps34
    go_wp2_with fail
    go_loopw [5] (fun i wr => ErRel rs rs' w n i wr) (fun i _ => n - (intOf i).toNat)
    case atStart => exact ⟨0, by omega, rfl, Below.refl _ _, rfl⟩
    case round =>
      obtain ⟨k, hk, rfl, hbel, hR⟩ := hrel
      have HR := Lib.hid hR; clear hR
      have Hbel := Lib.hid hbel; clear hbel
      by_cases hlt : k < n
      · obtain ⟨r, hr⟩ : ∃ r, rs[k]? = some r := ⟨_, List.getElem?_eq_getElem (by rw [← Hn.out]; exact hlt)⟩
        obtain ⟨r', hr'⟩ : ∃ r, rs'[k]? = some r := ⟨_, List.getElem?_eq_getElem (by rw [← Hn'.out]; exact hlt)⟩
        have Hrk := Lib.hid hr; clear hr
        have Hrk' := Lib.hid hr'; clear hr'
        obtain ⟨b, o, A2, c2, rfl, hlo, hbhi, hcell0, hcell1, hw⟩ := scr_cell ((rScr sp).below Hh.out Hbel.out hhi) Hrk.out
        obtain ⟨b', o', A2', c2', rfl, hlo', hbhi', hcell0', hcell1', hw'⟩ := scr_cell ((rScr sp').below Hh'.out Hbel.out hhi') Hrk'.out
        have Hw := Lib.hid hw; clear hw
        have Hw' := Lib.hid hw'; clear hw'
        have hr8 := Hle.out r (List.mem_of_getElem? Hrk.out)
        have hi0 : (0 : Int) ≤ k := by omega
        have hsz : w.heap.size ≤ wr.heap.size := Hbel.out.size
        have hs1 : hi ≤ wr.heap.size := by omega
        have hs2 : hi' ≤ wr.heap.size := by omega
        have HT : Hid (r = r' → rs.take (k + 1) = rs'.take (k + 1)) := Lib.hid (fun e => by rw [List.take_add_one, List.take_add_one, HR.out, Hrk.out, Hrk'.out, e])
        have HF : Hid (r ≠ r' → decide (rs = rs') = false) := Lib.hid (fun e => decide_eq_false fun he => e (by
          have := Hrk.out
          rw [he, Hrk'.out] at this
          injection this with this; exact this.symm))
        have HC := Lib.hid (fun W hh hh' a b => eq_reply A2 A2' c2 c2' lo hi lo' hi' sp sp' r r' W hh hh' a b hr8)
        by_cases hq : r = r'
        case' pos =>
          have HT2 := Lib.hid (HT.out hq)
          have HD : Hid (decide (r = r') = true) := Lib.hid (decide_eq_true hq)
        case' neg =>
          have HF2 := Lib.hid (HF.out hq)
          have HD : Hid (decide (r = r') = false) := Lib.hid (decide_eq_false hq)
        all_goals
          rw [HD.out] at HC
          clear hq HT HF HD
          go_wp2_with fail
          go_region_held3 (fun w' => w'.cell? ⟨b, o + k * 2, none⟩ = some (.slice A2 r.1.length c2) ∧ w'.cell? ⟨b, o + k * 2 + 1, none⟩ = some (.bool r.2) ∧ w'.cell? ⟨b', o' + k * 2, none⟩ = some (.slice A2' r'.1.length c2') ∧ w'.cell? ⟨b', o' + k * 2 + 1, none⟩ = some (.bool r'.2) ∧ Below wr.heap.size wr w')
            (first | exact ⟨hcell0, hcell1, hcell0', hcell1', Below.refl _ _⟩ | exact ⟨hcell0, hcell1, hcell0', hcell1', (Below.refl _ _).drew⟩ | exact ⟨g0, g1, g0', g1', hS1⟩)
            (first | (go_at_call 71; refine (HC.out _ (by exact Hw.out) (by exact Hw'.out) (by exact hs1) (by exact hs2)).mono ?_; rintro e W1 ⟨hb, rfl⟩; have hS1 := below_of_drew hb; clear hb; have g0 := (hS1.cell (p := ⟨b, o + k * 2, none⟩) (show b < wr.heap.size by omega)).trans hcell0; have g1 := (hS1.cell (p := ⟨b, o + k * 2 + 1, none⟩) (show b < wr.heap.size by omega)).trans hcell1; have g0' := (hS1.cell (p := ⟨b', o' + k * 2, none⟩) (show b' < wr.heap.size by omega)).trans hcell0'; have g1' := (hS1.cell (p := ⟨b', o' + k * 2 + 1, none⟩) (show b' < wr.heap.size by omega)).trans hcell1'))
          have hS2 : Hid (Below w.heap.size w W1) := Lib.hid (Hbel.out.trans (hS1.mono hsz))
          clear hS1
          go_wp2_with fail
        · go_ret
          exact ⟨hS2.out, by rw [HF2.out]; rfl⟩
        · exact ⟨⟨k + 1, by omega, by go_num, hS2.out, HT2.out⟩, by simp [intOf]; omega⟩
      · obtain rfl : k = n := by omega
        have hT : Hid (decide (rs = rs') = true) := by
          have := HR.out
          rw [List.take_of_length_le (by rw [Hn.out]; exact Nat.le_refl _), List.take_of_length_le (by rw [Hn'.out]; exact Nat.le_refl _)] at this
          exact Lib.hid (decide_eq_true this)
        go_wp2_with fail
        go_ret
        exact ⟨Hbel.out, by rw [hT.out]; rfl⟩
  · have hF : Hid (decide (rs = rs') = false) := Lib.hid (decide_eq_false fun h => hnn (by rw [Hn.out, Hn'.out, h]))
    have hne : ((n : Int) != n') = true := by simp; omega
    go_enter Try.func34, Try.ntmps34
    go_wp2_with fail
    go_ret
    exact ⟨Below.refl _ _, by rw [hF.out]; rfl⟩
theorem long_any (n : Int) (w : World) : Calls Try.prog 29 #[.int .i64 n] w fun e w' => w = w' ∧ e = .returned (.bool (decide (2147483647 < n))) := by
  go_enter Try.func29, Try.ntmps29
  go_wp2
  go_ret
  exact ⟨rfl, rfl⟩
def szReps (rs : List Rep) : Nat := (rs.map fun r => r.1.length).sum
/-- What SizeReplies answers: no further than the bound. -/
def SzRel (rs : List Rep) (n0 : Nat) (w : World) (x i : Value) (wr : World) : Prop :=
  ∃ k m : Nat, k ≤ rs.length ∧ i = .int .i64 k ∧ x = .int .i64 m ∧ wr = w ∧ m = n0 + szReps (rs.take k)
set_option maxRecDepth 100000 in
set_option maxHeartbeats 1000000 in
theorem size_replies (A : Option Addr) (n c lo hi : Nat) (sp : Bool) (rs : List Rep) (w : World) (h : (rScr sp).R w lo hi [.slice A n c] rs) (hle : RepsLe rs) :
    Calls Try.prog 30 #[.slice A n c] w fun e w' => w = w' ∧ ∃ m : Nat, e = .returned (.int .i64 m) ∧ (m ≤ 2147483647 ↔ rs.length + szReps rs ≤ 2147483647) := by
  have Hn := Lib.hid (scr_len h)
  have Hh := Lib.hid h; clear h
  have Hle := Lib.hid hle.2
  have hle1 := hle.1; clear hle
  rw [← Hn.out] at hle1
  go_enter Try.func30, Try.ntmps30
  go_wp2_with fail
  go_loopw [3, 4] (fun x i wr => SzRel rs n w x i wr) (fun _ i _ => n - (intOf i).toNat)
  case atStart => exact ⟨0, n, Nat.zero_le _, rfl, rfl, rfl, by simp [szReps]⟩
  case round =>
    obtain ⟨k, m, hk, rfl, rfl, rfl, hm⟩ := hrel
    rw [← Hn.out] at hk
    have Hm := Lib.hid hm; clear hm
    have hmono : ∀ j, szReps (rs.take j) ≤ szReps rs := fun j => by
      have := List.take_append_drop j rs
      conv => rhs; rw [← this]
      unfold szReps
      rw [List.map_append, List.sum_append]
      omega
    have Hmono := Lib.hid hmono; clear hmono
    by_cases hlt : k < n
    · by_cases hm2 : m ≤ 2147483647
      · obtain ⟨r, hr⟩ : ∃ r, rs[k]? = some r := ⟨_, List.getElem?_eq_getElem (by rw [← Hn.out]; exact hlt)⟩
        have Hrk := Lib.hid hr; clear hr
        obtain ⟨b, o, A2, c2, rfl, hlo, hbhi, hcell0, hcell1, hw⟩ := scr_cell Hh.out Hrk.out
        clear hw
        have hr8 := Hle.out r (List.mem_of_getElem? Hrk.out)
        have hm3 : decide ((m : Int) ≤ 2147483647) = true := decide_eq_true (by omega)
        go_wp2_with fail
        exact ⟨⟨k + 1, m + r.1.length, by rw [← Hn.out]; omega, by go_num, by go_num, rfl, by
          rw [Hm.out, List.take_add_one, Hrk.out]
          unfold szReps
          simp
          omega⟩, by simp [intOf]; omega⟩
      · have hm3 : decide ((m : Int) ≤ 2147483647) = false := decide_eq_false (by omega)
        go_wp2_with fail
        go_ret
        exact ⟨rfl, m, rfl, by have := Hmono.out k; have := Hm.out; rw [← Hn.out]; omega⟩
    · obtain rfl : k = n := by omega
      go_wp2_with fail
      go_ret
      exact ⟨rfl, m, rfl, by have := Hm.out; rw [List.take_of_length_le (by rw [← Hn.out]; exact Nat.le_refl _)] at this; rw [← Hn.out]; omega⟩
end Go.Proofs.Ytndkhlafpcedbaa
