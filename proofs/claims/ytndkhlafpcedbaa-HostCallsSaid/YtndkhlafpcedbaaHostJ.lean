/- The law HostCalls, walked. -/
import Derived.Test.YtndkhlafpcedbaaHostI
import Derived.Test.YtndkhlafpcedbaaHostK
import Derived.Test.YtndkhlafpcedbaaHostG
namespace Go.Proofs.Ytndkhlafpcedbaa
set_option linter.unusedVariables false
open Go.RowKit
theorem Junk.keep {tr tw lo hi b : Nat} {W W' : World} {hs : List (Option Addr × Nat × Nat)} (h : Junk tr tw lo hi W b hs) (hb : Below hi W W') : Junk tr tw lo hi W' b hs := by
  refine ⟨h.lob, h.hib, h.small, ?_, fun i A n c hi' hn => ?_⟩
  · obtain ⟨cur, h1, h2⟩ := h.arr
    exact ⟨cur, (hb.block b h.hib).trans h1, h2⟩
  · obtain ⟨g', cur, hA, h1, h2, h3, h4⟩ := h.row i A n c hi' hn
    exact ⟨g', cur, hA, h1, h2, (hb.block g' h2).trans h3, h4⟩
theorem strs_cell {sp : Bool} {W : World} {lo hi : Nat} {A : Option Addr} {n c : Nat} {cs : List ByteArray} (h : (Rd.str.sl sp).R W lo hi [.slice A n c] cs) {k : Nat} {s : ByteArray} (hk : cs[k]? = some s) :
    ∃ b o, A = some ⟨b, o, none⟩ ∧ b < hi ∧ W.cell? ⟨b, o + k, none⟩ = some (.string s) ∧ Rd.SOk s := by
  obtain ⟨_, hr⟩ := Rd.sl_row h
  obtain ⟨b, o, e, hb, hc⟩ := hr.at (j := k) (u := .string s) (by rw [List.getElem?_map, hk]; rfl)
  exact ⟨b, o, e, hb, hc, Rd.sl_ok h _ (List.mem_of_getElem? hk)⟩
theorem callR_le (rs : List Rep) (t : Nat) (s : ByteArray) : (callR rs t s).2 ≤ max t rs.length := by
  unfold callR
  split
  · simp only; omega
  · rename_i r hr
    have := (List.getElem?_eq_some_iff.1 hr).1
    split <;> (simp only; omega)
/-- How the copy is scribbled over. -/
def MutRel (tr tw n lo hi : Nat) (A : Option Addr) (w3 : World) (i : Value) (wr : World) : Prop :=
  ∃ k : Nat, k ≤ n ∧ i = .int .i64 k ∧ Win lo hi w3 wr ∧ (0 < n → ∃ b hs, A = some ⟨b, 0, none⟩ ∧ hs.length = n ∧ Junk tr tw lo hi wr b hs)
def MutIn (tr tw m lo hi b : Nat) (hs : List (Option Addr × Nat × Nat)) (w3 : World) (i : Value) (wr : World) : Prop :=
  ∃ k : Nat, k ≤ m ∧ i = .int .i64 k ∧ Win lo hi w3 wr ∧ Junk tr tw lo hi wr b hs
def CallsRel (rs : List Rep) (cs : List ByteArray) (h hi : Nat) (w : World) (tk i : Value) (wr : World) : Prop :=
  ∃ k t : Nat, k ≤ cs.length ∧ i = .int .i64 k ∧ tk = .int .i64 t ∧ t < 9223372036854775808 ∧ HostAt wr h hi rs t ∧ hi ≤ wr.heap.size ∧ Below w.heap.size w wr
set_option maxRecDepth 100000 in
set_option maxHeartbeats 4000000 in
theorem walk_HostCalls (A1 A2 : Option Addr) (n1 c1 n2 c2 : Nat) (rs : List Rep) (cs : List ByteArray) (tk : Int) (w : World) (h1 : (rScr false).R w 0 w.heap.size [.slice A1 n1 c1] rs) (h2 : (Rd.str.sl false).R w 0 w.heap.size [.slice A2 n2 c2] cs)
    (hle : RepsLe rs) (h47 : n2 * 16 ≤ 140737488351232) (htk : -9223372036854775808 ≤ tk ∧ tk < 9223372036854775808) :
    Calls Try.prog 5 #[.slice A1 n1 c1, .int .i64 tk, .slice A2 n2 c2] w fun e w' => e = .returned (.bool true) ∧ Below w.heap.size w w' := by
  have hn1 := scr_len h1
  have hn2 := (Rd.sl_row h2).1
  have H1 := Lib.hid h1
  have H2 := Lib.hid h2
  have HL := Lib.hid hle
  have Hn1 := Lib.hid hn1
  have Hn2 := Lib.hid hn2
  have hle1 := hle.1
  rw [← hn1] at hle1
  have HSz := Lib.hid (size_replies A1 n1 c1 0 w.heap.size false rs w h1 hle)
  clear h1 h2 hle hn1 hn2
  by_cases hb1 : 2000 < n1
  · have hb1' : (2000 : Int) < n1 := by omega
    go_enter Try.func5, Try.ntmps5
    go_wp2_with fail
    refine (works15 _).mono ?_
    rintro e w1 ⟨rfl, h⟩
    have H := Lib.hid h; clear h
    go_wp2_with fail
    go_ret
    exact ⟨rfl, H.out⟩
  · have hb1' : decide ((2000 : Int) < n1) = false := decide_eq_false (by omega)
    clear hb1
    by_cases hb2 : rs.length + szReps rs ≤ 2147483647
    · by_cases hb3 : 2000 < n2
      · have hb3' : (2000 : Int) < n2 := by omega
        go_enter Try.func5, Try.ntmps5
        go_wp2_with fail
        refine HSz.out.mono ?_
        rintro e w' ⟨rfl, m, rfl, hm⟩
        have hm' : decide (2147483647 < (m : Int)) = false := decide_eq_false (by have := hm.2 hb2; omega)
        clear hm
        go_wp2_with fail
        refine (long_any _ _).mono ?_
        rintro e w' ⟨rfl, rfl⟩
        go_wp2_with fail
        refine (works15 _).mono ?_
        rintro e w1 ⟨rfl, h⟩
        have H := Lib.hid h; clear h
        go_wp2_with fail
        go_ret
        exact ⟨rfl, H.out⟩
      · have hb3' : decide ((2000 : Int) < n2) = false := decide_eq_false (by omega)
        go_enter Try.func5, Try.ntmps5
        go_wp2_with fail
        refine HSz.out.mono ?_
        rintro e w' ⟨rfl, m, rfl, hm⟩
        have hm' : decide (2147483647 < (m : Int)) = false := decide_eq_false (by have := hm.2 hb2; omega)
        clear hm
        go_wp2_with fail
        refine (long_any _ _).mono ?_
        rintro e w' ⟨rfl, rfl⟩
        go_wp2_with fail
        refine (copy_replies A1 n1 c1 0 w.heap.size false rs w H1.out (Nat.le_refl _) HL.out).mono ?_
        rintro e w1 ⟨Ag, cg, cells, rfl, hown, hreps, hb1⟩
        have HB1 := Lib.hid hb1
        have hrd := hreps.reads true hown Hn1.out
        have HJ : Hid (0 < n1 → ∃ b hs, Ag = some ⟨b, 0, none⟩ ∧ hs.length = n1 ∧ Junk 54 22 w.heap.size w1.heap.size w1 b hs) := Lib.hid (fun h0 => by
          rcases hown.2 with ⟨_, h0'⟩ | ⟨b, cap, cur, hv, _⟩
          · omega
          · injection hv with hv _ _
            subst hv
            obtain ⟨hs, hl, hj⟩ := hreps.junk hown Hn1.out HL.out.2
            exact ⟨b, hs, rfl, hl, hj⟩)
        have Hrd := Lib.hid hrd; clear hrd hown hreps hb1
        go_wp2_with fail
        refine (host_New Ag n1 cg w.heap.size w1.heap.size rs tk w1 Hrd.out (Nat.le_refl _) HL.out htk).mono ?_
        rintro e w2 ⟨rfl, hh, hb2⟩
        have Hh2 := Lib.hid hh; clear hh
        have Hb12 := Lib.hid hb2
        have HB2 := Lib.hid (HB1.out.trans (hb2.mono HB1.out.size)); clear hb2
        go_wp2_with fail
        refine (eq_replies Ag A1 n1 n1 cg c1 w.heap.size w1.heap.size 0 w.heap.size true false rs rs w2 (Rd.below Hrd.out Hb12.out (Nat.le_refl _)) (Rd.below H1.out HB2.out (Nat.le_refl _)) Hb12.out.size HB2.out.size HL.out).mono ?_
        rw [decide_eq_true (rfl : rs = rs)]
        rintro e w3 ⟨hb3, rfl⟩
        have Hb13 := Lib.hid (Hb12.out.trans (hb3.mono Hb12.out.size))
        have HB3 := Lib.hid (HB2.out.trans (hb3.mono HB2.out.size))
        have hkeep : HostAt w3 w1.heap.size w2.heap.size rs (max tk 0) := by
          obtain ⟨A, c, e1, e2⟩ := Hh2.out
          exact ⟨A, c, e1.below hb3 e1.lt, Rd.below e2 hb3 (Nat.le_refl _)⟩
        have Hh3 := Lib.hid hkeep
        have hsz23 : w2.heap.size ≤ w3.heap.size := hb3.size
        have hsz12 : w1.heap.size ≤ w2.heap.size := Hb12.out.size
        have hsz01 : w.heap.size ≤ w1.heap.size := HB1.out.size
        clear hkeep hb3 Hh2 Hb12 HB2 HB1 Hrd
        go_wp2_with fail
        go_loopw [9] (fun i wr => MutRel 54 22 n1 w.heap.size w1.heap.size Ag w3 i wr) (fun i _ => n1 - (intOf i).toNat)
        case atStart => exact ⟨0, Nat.zero_le _, rfl, Win.refl _ _ _, fun h0 => by
          obtain ⟨b, hs, e1, e2, e3⟩ := HJ.out h0
          exact ⟨b, hs, e1, e2, e3.keep Hb13.out⟩⟩
        case round =>
          obtain ⟨k, hk, rfl, hwin, hj⟩ := hrel
          have Hwin := Lib.hid hwin; clear hwin
          have Hj := Lib.hid hj; clear hj
          by_cases hlt : k < n1
          · obtain ⟨b, hs, rfl, hl, hj⟩ := Hj.out (by omega)
            obtain ⟨⟨Ak, nk, ck⟩, hsk⟩ : ∃ x, hs[k]? = some x := ⟨_, List.getElem?_eq_getElem (by omega)⟩
            have Hsk := Lib.hid hsk; clear hsk
            have HJk := Lib.hid hj; clear hj
            have Hl := Lib.hid hl; clear hl Hj HJ
            have hk0 : (0 : Int) ≤ k := by omega
            obtain ⟨wo, hwo⟩ : ∃ wo : World, wo = wr := ⟨_, rfl⟩
            subst hwo
            go_wp2_with fail
            go_loopw [10] (fun j wr => MutIn 54 22 nk w.heap.size w1.heap.size b hs w3 j wr) (fun j _ => nk - (intOf j).toNat)
            case atStart => exact ⟨0, Nat.zero_le _, rfl, Hwin.out, HJk.out⟩
            case round =>
              obtain ⟨j, hj, rfl, hwin, hjk⟩ := hrel
              have Hwin2 := Lib.hid hwin; clear hwin
              have HJj := Lib.hid hjk; clear hjk
              obtain ⟨hhd, xb, htrap⟩ := HJj.out.hdr Hsk.out
              have hj0 : (0 : Int) ≤ j := by omega
              by_cases hjl : j < nk
              · obtain ⟨g, rfl, hg1, hg2, hfr, x, hcx, hx64⟩ := HJj.out.word Hsk.out hjl
                unfold uv at hcx
                obtain ⟨y, hy, hy64⟩ : ∃ y : Nat, IntKind.u64.wrap ((x : Int) + 1) = (y : Int) ∧ Rd.B64 y := ⟨((x + 1) % 18446744073709551616 : Nat), by rw [IntKind.wrap_u64]; omega, by unfold Rd.B64; omega⟩
                obtain ⟨cur0, hcur0⟩ : ∃ cur0, wr.heap[g]? = some (.cells cur0 22 (0, 0)) := by
                  obtain ⟨g', cur, hA, _, _, h3, _⟩ := HJj.out.row k _ _ _ Hsk.out (by omega)
                  injection hA with hA
                  injection hA with hA
                  subst hA
                  exact ⟨cur, h3⟩
                have Hcur0 := Lib.hid hcur0; clear hcur0
                have hnk := HJj.out.small k _ _ _ Hsk.out
                go_wp2_with fail
                exact ⟨⟨j + 1, by omega, by go_num, Hwin2.out.trans (Win.setCell _ g j _ hg1 hg2), HJj.out.setWord (by decide) Hcur0.out y hy64⟩, by simp [intOf]; omega⟩
              · obtain rfl : j = nk := by omega
                have hfr1 := HJj.out.fro (k * 2 + 1)
                go_wp2_with fail
                exact ⟨⟨k + 1, by omega, by go_num, Hwin2.out.trans (Win.setCell _ b (k * 2 + 1) _ HJj.out.lob HJj.out.hib), fun _ => ⟨b, hs, rfl, Hl.out, HJj.out.setTrap (by decide) k _⟩⟩, by simp [intOf]; omega⟩
          · obtain rfl : n1 = k := by omega
            have hb4 : Below w.heap.size w wr := HB3.out.trans Hwin.out.below
            have HB4 := Lib.hid hb4; clear hb4
            have hsz34 : wr.heap.size = w3.heap.size := Hwin.out.size
            have hkeep : HostAt wr w1.heap.size w2.heap.size rs (max tk 0) := by
              obtain ⟨A, c, e1, e2⟩ := Hh3.out
              exact ⟨A, c, (Hwin.out.block _ (.inr (Nat.le_refl _))).trans e1, (rScr true).keep (fun p hp _ => by
                have := Hwin.out.block p.block (.inr (by omega))
                simp [World.cell?, this]) e2⟩
            obtain ⟨t0, ht0⟩ : ∃ t0 : Nat, max tk 0 = (t0 : Int) := ⟨(max tk 0).toNat, by omega⟩
            rw [ht0] at hkeep
            have Hh4 := Lib.hid hkeep; clear hkeep
            have ht0b : t0 < 9223372036854775808 := by omega
            clear Hj Hh3 HJ Hwin HB3 Hb13
            have Hstart : Hid (CallsRel rs cs w1.heap.size w2.heap.size w (.int .i64 t0) (.int .i64 0) wr) := Lib.hid ⟨0, t0, Nat.zero_le _, rfl, rfl, ht0b, Hh4.out, by omega, HB4.out⟩
            by_cases htn : tk < 0
            case' neg =>
              have htk2 : tk = (t0 : Int) := by omega
              have htd : decide (tk < 0) = false := decide_eq_false htn
              subst htk2
            case' pos =>
              have ht00 : t0 = 0 := by omega
              subst ht00
            all_goals
              clear ht0
              go_wp2_with fail
              obtain ⟨wo, hwo⟩ : ∃ wo : World, wo = wr := ⟨_, rfl⟩
              subst hwo
              go_loopw [1, 11] (fun tv i wr => CallsRel rs cs w1.heap.size w2.heap.size w tv i wr) (fun _ i _ => n2 - (intOf i).toNat)
              case atStart => exact Hstart.out
              case round =>
                obtain ⟨k, t, hk, rfl, rfl, htb, hh, hhi, hbel⟩ := hrel
                have Hh := Lib.hid hh; clear hh
                have Hbel := Lib.hid hbel; clear hbel
                rw [← Hn2.out] at hk
                obtain ⟨A, c, hblk, _⟩ := Hh.out
                rw [← Hn1.out] at hblk
                have Hblk := Lib.hid hblk; clear hblk
                by_cases hlt : k < n2
                · obtain ⟨s, hs⟩ : ∃ s, cs[k]? = some s := ⟨_, List.getElem?_eq_getElem (by rw [← Hn2.out]; exact hlt)⟩
                  have Hsk := Lib.hid hs; clear hs
                  have hk0 : (0 : Int) ≤ k := by omega
                  have hsz0 : w.heap.size ≤ wr.heap.size := Hbel.out.size
                  go_wp2_with (first | (go_at_call 35; refine (host_Taken w1.heap.size true _ _ _ Hblk.out).mono ?_; rintro e w' ⟨rfl, rfl⟩) | (go_at_call 36; refine (host_Left w1.heap.size true _ n1 _ t _ Hblk.out (by omega) htb).mono ?_; rintro e w' ⟨⟨d, rfl⟩, rfl⟩) | (go_at_call 37; refine (law_left A1 n1 c1 t _ (by omega) htb).mono ?_; rintro e w' ⟨rfl, rfl⟩))
                  have Hh0 : Hid (HostAt (wr.drewN d) w1.heap.size w2.heap.size rs t) := Lib.hid Hh.out
                  have Hbel0 : Hid (Below w.heap.size w (wr.drewN d)) := Lib.hid (below_drewN Hbel.out d)
                  have hhi0 : w2.heap.size ≤ (wr.drewN d).heap.size := hhi
                  generalize wr.drewN d = v0 at *
                  clear Hh Hbel hhi Hblk hsz0
                  have hsv0 : w.heap.size ≤ v0.heap.size := Hbel0.out.size
                  refine (copy_replies A1 n1 c1 0 w.heap.size false rs v0 (Rd.below H1.out Hbel0.out (Nat.le_refl _)) hsv0 HL.out).mono ?_
                  rintro e v1 ⟨Aq, cq, cells1, rfl, hown, hreps, hbv1⟩
                  have Hrd1 := Lib.hid (hreps.reads true hown Hn1.out)
                  have Hbv1 := Lib.hid hbv1
                  have hsv1 : v0.heap.size ≤ v1.heap.size := hbv1.size
                  clear hreps hown hbv1
                  go_wp2_with fail
                  refine (host_New Aq n1 cq v0.heap.size v1.heap.size rs t v1 Hrd1.out (Nat.le_refl _) HL.out (by omega)).mono ?_
                  rw [show max (t : Int) 0 = (t : Int) by omega]
                  rintro e v2 ⟨rfl, hhq, hbv2⟩
                  have Hbv2 := Lib.hid (Hbv1.out.trans (hbv2.mono hsv1))
                  have hsv2 : v1.heap.size < v2.heap.size := by obtain ⟨_, _, e1, _⟩ := hhq; exact e1.lt
                  have Hq2 := Lib.hid hhq
                  have hh2 : HostAt v2 w1.heap.size w2.heap.size rs t := by
                    obtain ⟨A, c, e1, e2⟩ := Hh0.out
                    exact ⟨A, c, e1.below Hbv2.out e1.lt, Rd.below e2 Hbv2.out hhi0⟩
                  have hlt1 : w1.heap.size < v0.heap.size := by obtain ⟨A, c, e1, e2⟩ := Hh0.out; exact e1.lt
                  have Hh2 := Lib.hid hh2
                  have Hbel2 := Lib.hid (Hbel0.out.trans (Hbv2.out.mono hsv0))
                  clear hhq hbv2 hh2 Hbv1 Hrd1
                  obtain ⟨b, o, rfl, hbw, hcs, hsok⟩ := strs_cell (Rd.below H2.out Hbel2.out (Nat.le_refl _)) Hsk.out
                  have Hsok := Lib.hid hsok; clear hsok
                  go_wp2_with fail
                  have HC1 := Lib.hid (host_Call w1.heap.size w2.heap.size rs t s v2 Hh2.out (by omega) HL.out htb Hsok.out)
                  have HC2 := Lib.hid (fun W (hh : HostAt W v1.heap.size v2.heap.size rs t) (a : v2.heap.size ≤ W.heap.size) => host_Call v1.heap.size v2.heap.size rs t s W hh a HL.out htb Hsok.out)
                  have HC3 := Lib.hid (fun W (hW : Below w.heap.size w W) => ref_Call A1 n1 c1 0 w.heap.size false rs t s W (Rd.below H1.out hW (Nat.le_refl _)) hW.size HL.out htb Hsok.out)
                  have HRle := Lib.hid (callR_le rs t s)
                  have HRlen : Hid ((callR rs t s).1.1.length * 8 ≤ 140737488351232) := Lib.hid (by
                    unfold callR
                    split
                    · simp
                    · rename_i r hr
                      have := HL.out.2 r (List.mem_of_getElem? hr)
                      split
                      · simp
                      · exact this)
                  generalize callR rs t s = x at *
                  obtain ⟨⟨ans, okb⟩, t'⟩ := x
                  simp only at HC1 HC2 HC3 HRle HRlen
                  have hokb : (okb != okb) = false := by cases okb <;> rfl
                  have Hokb := Lib.hid hokb; clear hokb
                  refine HC1.out.mono ?_
                  rintro e v3 ⟨Al, cl, rfl, hol, hh3, hg3⟩
                  have Hol := Lib.hid hol; clear hol
                  have Hh3 := Lib.hid hh3; clear hh3
                  have Hg3 := Lib.hid hg3
                  have hsv3 : v2.heap.size ≤ v3.heap.size := hg3.size
                  have Hbel3 : Hid (Below w.heap.size w v3) := Lib.hid (Hbel2.out.grown hg3 Hbel2.out.size (fun q e => by injection e with e; omega))
                  have Hq3 : Hid (HostAt v3 v1.heap.size v2.heap.size rs t) := Lib.hid (by
                    obtain ⟨A, c, e1, e2⟩ := Hq2.out
                    exact ⟨A, c, grown_blk hg3 e1 (fun e => by injection e with e; omega), Rd.grown e2 hg3 (Nat.le_refl _) (fun q e => by injection e with e; omega)⟩)
                  have hcs3 := (Hbel3.out.cell (p := ⟨b, o + k, none⟩) hbw).trans ((Hbel2.out.cell (p := ⟨b, o + k, none⟩) hbw).symm.trans hcs)
                  clear hg3 HC1 hcs
                  go_wp2_with fail
                  refine (HC2.out v3 Hq3.out hsv3).mono ?_
                  rintro e v4 ⟨Ak, ck, rfl, hok, hq4, hg4⟩
                  have Hok := Lib.hid hok; clear hok
                  have Hq4 := Lib.hid hq4; clear hq4
                  have hsv4 : v3.heap.size ≤ v4.heap.size := hg4.size
                  have Hbel4 : Hid (Below w.heap.size w v4) := Lib.hid (Hbel3.out.grown hg4 Hbel3.out.size (fun q e => by injection e with e; omega))
                  have Hol4 := Lib.hid (Hol.out.kept hg4 (by
                    cases hv : (Value.slice Al ans.length cl).ownBlock with
                    | none => exact .inl rfl
                    | some q => right; intro e; injection e with e; have := (Hol.out.lt _ hv).1; omega))
                  have Hh4 : Hid (HostAt v4 w1.heap.size w2.heap.size rs t') := Lib.hid (by
                    obtain ⟨A, c, e1, e2⟩ := Hh3.out
                    exact ⟨A, c, grown_blk hg4 e1 (fun e => by injection e with e; omega), Rd.grown e2 hg4 (by omega) (fun q e => by injection e with e; omega)⟩)
                  have hcs4 := (Hbel4.out.cell (p := ⟨b, o + k, none⟩) hbw).trans ((Hbel3.out.cell (p := ⟨b, o + k, none⟩) hbw).symm.trans hcs3)
                  clear hg4 HC2 hcs3 Hol Hh3
                  go_wp2_with fail
                  refine (HC3.out v4 Hbel4.out).mono ?_
                  rintro e v5 ⟨Aw, cw, rfl, how, hb5⟩
                  have Hbel5 := Lib.hid (Hbel4.out.trans (hb5.mono Hbel4.out.size))
                  have hsv5 : v4.heap.size ≤ v5.heap.size := hb5.size
                  have Hrl := Lib.hid (Row.own (own_keptz Hol4.out hb5))
                  have Hrk := Lib.hid (Row.own (own_keptz Hok.out hb5))
                  have Hrw := Lib.hid (Row.own how)
                  have Hh5 : Hid (HostAt v5 w1.heap.size w2.heap.size rs t') := Lib.hid (by
                    obtain ⟨A, c, e1, e2⟩ := Hh4.out
                    exact ⟨A, c, e1.below hb5 e1.lt, Rd.below e2 hb5 (by omega)⟩)
                  obtain ⟨Aq5, cq5, eq1, _⟩ := Hq4.out
                  have Hqb := Lib.hid (eq1.below hb5 eq1.lt)
                  clear how hb5 eq1 HC3
                  have hE1 := Lib.hid (eq_words Al Aw ans.length ans.length cl cw v5.heap.size v5.heap.size v5 ans ans rfl rfl (by have := HRlen.out; omega) Hrl.out Hrw.out)
                  have hE2 := Lib.hid (fun d => eq_words Ak Aw ans.length ans.length ck cw v5.heap.size v5.heap.size (v5.drewN d) ans ans rfl rfl (by have := HRlen.out; omega) (Hrk.out.drewN d) (Hrw.out.drewN d))
                  rw [decide_eq_true (rfl : ans = ans)] at hE1 hE2
                  have hokb := Hokb.out
                  go_wp2_with fail
                  refine hE1.out.mono ?_
                  rintro e w' ⟨⟨d1, rfl⟩, rfl⟩
                  go_wp2_with fail
                  refine (hE2.out d1).mono ?_
                  rintro e w' ⟨⟨d2, rfl⟩, rfl⟩
                  go_wp2_with fail
                  refine (host_Taken v1.heap.size true (.slice Aq5 rs.length cq5) t' _ (by exact Hqb.out)).mono ?_
                  rintro e w' ⟨rfl, rfl⟩
                  go_wp2_with fail
                  exact ⟨⟨k + 1, t', by rw [← Hn2.out]; omega, by go_num, rfl, by have := HRle.out; rw [← Hn1.out] at this; omega, Hh5.out, by show w2.heap.size ≤ v5.heap.size; omega, below_drewN Hbel5.out _⟩, by simp [intOf]; omega⟩
                · obtain rfl : k = n2 := by omega
                  go_wp2_with (first | (go_at_call 35; refine (host_Taken w1.heap.size true _ _ _ Hblk.out).mono ?_; rintro e w' ⟨rfl, rfl⟩) | (go_at_call 31; refine (works15 _).mono ?_; rintro e w5 ⟨rfl, h5⟩; have H5 := Lib.hid h5; clear h5))
                  go_ret
                  exact ⟨rfl, Hbel.out.trans (H5.out.mono Hbel.out.size)⟩
    · go_enter Try.func5, Try.ntmps5
      go_wp2_with fail
      refine HSz.out.mono ?_
      rintro e w' ⟨rfl, m, rfl, hm⟩
      have hm' : (2147483647 : Int) < (m : Int) := by
        rcases Nat.lt_or_ge 2147483647 m with h | h
        · omega
        · exact absurd (hm.1 h) hb2
      clear hm hb2
      go_wp2_with fail
      refine (long_any _ _).mono ?_
      rintro e w' ⟨rfl, rfl⟩
      go_wp2_with fail
      refine (works15 _).mono ?_
      rintro e w1 ⟨rfl, h⟩
      have H := Lib.hid h; clear h
      go_wp2_with fail
      go_ret
      exact ⟨rfl, H.out⟩
end Go.Proofs.Ytndkhlafpcedbaa
