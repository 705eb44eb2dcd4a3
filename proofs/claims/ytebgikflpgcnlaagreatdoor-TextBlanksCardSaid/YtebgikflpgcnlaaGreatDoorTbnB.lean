/- flagonlaw06.TextBlanks: the walk. -/
import Derived.Test.YtebgikflpgcnlaaGreatDoorT33
import Derived.Test.YtebgikflpgcnlaaGreatDoorT08
import Derived.Test.YtebgikflpgcnlaaGreatDoorT03
import Derived.Test.YtebgikflpgcnlaaGreatDoorBlkL
import Derived.Test.YtebgikflpgcnlaaGreatDoorLinA
import Derived.Test.YtebgikflpgcnlaaGreatDoorLinB
import Derived.Test.YtebgikflpgcnlaaGreatDoorTbnA
import Derived.Test.YtebgikflpgcnlaaGreatDoorT22
import Derived.Deep.DeepCutAuto
namespace Go.Proofs.YtebgikflpgcnlaaGreatDoor
set_option linter.unusedVariables false
set_option linter.unusedSimpArgs false
open Go.RowKit
def blkS (r : Nat) : ByteArray := match r with
  | 0 => ⟨#[]⟩
  | 1 => ⟨#[32]⟩
  | 2 => ⟨#[9]⟩
  | _ => ⟨#[13, 32, 9]⟩
theorem blkS_blk (n : Nat) : (blkS (n % 4)).data.toList = blk n := by
  unfold blkS blk
  generalize n % 4 = k
  match k with
  | 0 => rfl
  | 1 => rfl
  | 2 => rfl
  | k + 3 => rfl
theorem blkS_cell {W : World} {g : Nat} (h : Blk W g 9 [.string ⟨#[]⟩, .string ⟨#[32]⟩, .string ⟨#[9]⟩, .string ⟨#[13, 32, 9]⟩]) (r : Nat) (hr : r < 4) : W.cell? ⟨g, r, none⟩ = some (.string (blkS r)) := by
  match r, hr with
  | 0, _ => exact h.cell 0
  | 1, _ => exact h.cell 1
  | 2, _ => exact h.cell 2
  | 3, _ => exact h.cell 3
theorem u8_at {W : World} {hi : Nat} {A : Option Addr} {xs : List UInt8} (h : Row W hi A (xs.map bv)) {k : Nat} {x : UInt8} (hk : xs[k]? = some x) : ∃ b o, A = some ⟨b, o, none⟩ ∧ b < hi ∧ W.cell? ⟨b, o + k, none⟩ = some (.int .u8 (x.toNat : Int)) := by
  obtain ⟨b, o, e, hb, hc⟩ := h (by rw [List.length_map]; have := (List.getElem?_eq_some_iff.1 hk).1; omega)
  exact ⟨b, o, e, hb, hc k _ (by rw [List.getElem?_map, hk]; rfl)⟩
theorem str_at06 {W : World} {lo hi : Nat} {A : Option Addr} {n c : Nat} {xs : List ByteArray} (h : (Rd.str.sl false).R W lo hi [.slice A n c] xs) {k : Nat} {x : ByteArray} (hk : xs[k]? = some x) : ∃ b o, A = some ⟨b, o, none⟩ ∧ lo ≤ b ∧ b < hi ∧ W.cell? ⟨b, o + k, none⟩ = some (.string x) := by
  obtain ⟨b, o, e, h1, h2, cs, hc, hr⟩ := sl_at h hk
  obtain ⟨rfl, _⟩ := hr
  have := hc 0 _ rfl
  exact ⟨b, o, e, h1, h2, by simpa [Rd.str, Rd.one] using this⟩
def TbnRel (ts : List UInt8) (L : List (List UInt8)) (w6 : World) (B N I : Value) (wr : World) : Prop := ∃ (k : Nat) (A : Option Addr) (n c : Nat), k ≤ L.length ∧ B = .slice A n c ∧ N = .int .i64 (k : Int) ∧ I = .int .i64 (k : Int) ∧ OwnBy w6 wr A n c (blankT ts L k)
def TbnIn (P : List UInt8) (x : Nat) (ws : List (List UInt8)) (w6 w7 : World) (r7 : Option Nat) (B J : Value) (wr : World) : Prop := ∃ (j : Nat) (A : Option Addr) (n c : Nat), j ≤ ws.length ∧ B = .slice A n c ∧ J = .int .i64 (j : Int) ∧ OwnBy w6 wr A n c (P ++ wordsT x ws j) ∧ Aside w7 r7 wr (.slice A n c)
def TbnSep (l : List UInt8) (w6 w7 : World) (r7 : Option Nat) (B : Value) (wr : World) : Prop := ∃ (A : Option Addr) (n c : Nat), B = .slice A n c ∧ OwnBy w6 wr A n c l ∧ Aside w7 r7 wr (.slice A n c)
/-- What stays in the loop. -/
structure Tbn (ts : List UInt8) (L : List (List UInt8)) (At : Option Addr) (A9 : Option Addr) (c9 lo9 g8 : Nat) (w6 : World) : Prop where
  turns : Row w6 w6.heap.size At (ts.map bv)
  lines : (Rd.str.sl false).R w6 lo9 w6.heap.size [.slice A9 L.length c9] (L.map bOf)
  blanks : Blk w6 g8 9 [.string ⟨#[]⟩, .string ⟨#[32]⟩, .string ⟨#[9]⟩, .string ⟨#[13, 32, 9]⟩]
  len : (blankT ts L L.length).length ≤ 1048576
  sz : ∀ l ∈ L, l.length ≤ 1048576
theorem Tbn.word {ts L At A9 c9 lo9 g8 w6} (h : Tbn ts L At A9 c9 lo9 g8 w6) {k : Nat} (hk : k < L.length) {x : Nat} (hx : turnAt ts k = x) : (blankT ts L k).length + (rowT x (lineOf L k)).length ≤ 1048576 := by
  have h1 := blank_mono ts L (show k + 1 ≤ L.length from hk)
  rw [blankT_next, List.length_append, hx] at h1
  have := h.len
  omega
theorem words_cell {w1 w7 wr : World} {v1 v : Value} {ws : List (List UInt8)} {A14 : Option Addr} {c14 : Nat} (hr : (Rd.str.sl false).R w7 w1.heap.size w7.heap.size [.slice A14 ws.length c14] (ws.map bOf)) (ha : Aside w7 v1.ownBlock wr v) (hv : ∀ g, v1.ownBlock = some g → g < w1.heap.size) {j : Nat} {wd : List UInt8} (hw : ws[j]? = some wd) :
    ∃ b o, A14 = some ⟨b, o, none⟩ ∧ wr.cell? ⟨b, o + j, none⟩ = some (.string (bOf wd)) := by
  obtain ⟨b, o, e, h1, h2, hc⟩ := str_at06 hr (k := j) (x := bOf wd) (by rw [List.getElem?_map, hw]; rfl)
  exact ⟨b, o, e, (grown_cell ha.1 h2 (fun e => by have := hv _ e; simp at this; omega)).trans hc⟩
theorem words_next (P : List UInt8) (x : Nat) (ws : List (List UInt8)) {j : Nat} {wd : List UInt8} (hw : ws[j]? = some wd) : (P ++ wordsT x ws j ++ (if 0 < j then 32 :: blk (x / 4) else [])) ++ wd = P ++ wordsT x ws (j + 1) := by
  rw [wordsT_next]
  unfold midT
  rw [hw]
  simp only [List.append_assoc, Option.getD_some]
theorem row_next (ts : List UInt8) (L : List (List UInt8)) {k x : Nat} (hx : turnAt ts k = x) {ws : List (List UInt8)} (hw : lineOf L k = ws) : blankT ts L (k + 1) = (((blankT ts L k ++ blk x) ++ wordsT x ws ws.length) ++ blk (x / 16)) ++ [10] ++ (if 192 ≤ x then remT ++ [10, 10] else []) := by
  rw [blankT_next, hx, hw]
  unfold rowT tailT
  simp only [List.append_assoc, List.cons_append, List.nil_append]
set_option maxRecDepth 100000 in
set_option maxHeartbeats 4000000 in
theorem law_blanks (cs : List Value) (hi hj : Nat) (m : ModV) (At : Option Addr) (nt ct : Nat) (ts : List UInt8) (w : World) (h : rMod.R w 0 hi cs m) (hnt : nt = ts.length) (ht : Row w w.heap.size At (ts.map bv)) (hhi : hi ≤ w.heap.size) (hin : ModIn m) (hE : EnvAt hj w) (hhj : hj ≤ w.heap.size) :
    Calls Tryz.prog 5 #[.agg cs.toArray, .slice At nt ct] w fun e w' => Below w.heap.size w w' ∧ e = .returned (.bool true) := by
  obtain ⟨v1, v2, v3, v6, v7, v8, rfl, h1, h2, h3, h4, h5, h6, h7, h8⟩ := rMod_iff.1 h
  obtain ⟨A1, c1, rfl⟩ := sl_form h1
  obtain ⟨A2, c2, rfl⟩ := sl_form h2
  obtain ⟨A3, c3, rfl⟩ := sl_form h3
  obtain ⟨A6, c6, rfl⟩ := sl_form h6
  obtain ⟨A7, c7, rfl⟩ := sl_form h7
  obtain ⟨A8, c8, rfl⟩ := sl_form h8
  have HNUM := Lib.hid (modNum_of h)
  have HH := Lib.hid h; have HT := Lib.hid ht; have HE := Lib.hid hE; have HIN := Lib.hid hin; have HNT := Lib.hid hnt
  clear h hE hin ht hnt h1 h2 h3 h4 h5 h6 h7 h8
  go_enter Tryz.func5, Tryz.ntmps5
  go_wp2_with fail
  generalize hw1 : World.alloc _ _ = w1
  have hb1 : Below w.heap.size w w1 := by rw [← hw1]; exact (Below.refl _ _).alloc (Nat.le_refl _) _
  have hm1 : Blk w1 w.heap.size 29 [.slice A1 m.types.length c1, .slice A2 m.hosts.length c2, .slice A3 m.globs.length c3, .int .i64 m.first, .int .i64 m.most, .slice A6 m.fns.length c6, .slice A7 m.dat.length c7, .slice A8 m.exps.length c8] := by rw [← hw1]; exact Blk.new w _ _
  have HB1 := Lib.hid hb1; have HM1 := Lib.hid hm1
  have hl1 := hm1.lt
  clear hw1 hb1 hm1
  refine (works06 (hi := hj) w1 (HE.out.to (HB1.out.mono hhj)) (Nat.le_trans hhj HB1.out.size)).mono ?_
  rintro e w2 ⟨hb2, rfl⟩
  have HB2 := Lib.hid (HB1.out.trans (hb2.mono HB1.out.size))
  have HM2 := Lib.hid (HM1.out.below hb2 hl1)
  have hs2 : w.heap.size ≤ w2.heap.size := HB2.out.size
  clear hb2
  have HR2 := Lib.hid (Rd.below HH.out HB2.out hhi)
  have HSZ := Lib.hid (size_module _ hi m w2 HR2.out (Nat.le_trans hhi hs2) HIN.out)
  go_wp2_with (refine ldM HM2.out rfl _ rfl rfl ?_)
  refine HSZ.out.mono ?_
  rintro e w3 ⟨hb3, n, rfl, hcap⟩
  have HB3 := Lib.hid (HB2.out.trans (hb3.mono hs2))
  have HM3 := Lib.hid (HM2.out.below hb3 HM2.out.lt)
  have hs3 : w.heap.size ≤ w3.heap.size := HB3.out.size
  have HR3 := Lib.hid (Rd.below HH.out HB3.out hhi)
  have HCAP := Lib.hid hcap
  clear hb3 hcap HSZ
  by_cases hn : 4096 < n
  · have d1 : decide ((4096 : Int) < n) = true := decide_eq_true (by omega)
    clear hn
    go_wp2_with fail
    go_ret
    exact ⟨HB3.out, rfl⟩
  have d1 : decide ((4096 : Int) < n) = false := decide_eq_false (by omega)
  have hsm : szMod m ≤ 4096 := by have := HCAP.out; unfold Cap at this; omega
  have HSM4 := Lib.hid hsm
  have HSM : Hid (szMod m ≤ 2147483647) := Lib.hid (by omega)
  clear hn hsm
  go_wp2_with (refine ldM HM3.out rfl _ rfl rfl ?_)
  refine (txt_Print [.slice A1 m.types.length c1, .slice A2 m.hosts.length c2, .slice A3 m.globs.length c3, .int .i64 m.first, .int .i64 m.most, .slice A6 m.fns.length c6, .slice A7 m.dat.length c7, .slice A8 m.exps.length c8] hi hj m w3 HR3.out (Nat.le_trans hhi hs3) HSM.out (HE.out.to (HB3.out.mono hhj)) (Nat.le_trans hhj hs3)).mono ?_
  rintro e w4 ⟨hb4, rfl⟩
  have HB4 := Lib.hid (HB3.out.trans (hb4.mono hs3))
  have HM4 := Lib.hid (HM3.out.below hb4 HM3.out.lt)
  have hs4 : w.heap.size ≤ w4.heap.size := HB4.out.size
  clear hb4
  by_cases hz : modE m = 0
  case neg =>
    rw [if_neg hz]
    have hz0 : (modE m != 0) = true := bne_iff_ne.2 hz
    clear hz
    go_wp2_with fail
    go_ret
    exact ⟨HB4.out, rfl⟩
  rw [if_pos hz, hz]
  have HZ := Lib.hid hz
  have HLE := Lib.hid (modLe_of HSM.out)
  have HPL := Lib.hid (print_len hz HNUM.out)
  have HBL := Lib.hid (blank_len hz HNUM.out HSM4.out ts)
  have HBP := Lib.hid (blank_parse hz HNUM.out ts HBL.out)
  clear hz
  go_wp2_with fail
  generalize hw5 : World.alloc _ _ = w5
  have hb5 : Below w4.heap.size w4 w5 := by rw [← hw5]; exact (Below.refl _ _).alloc (Nat.le_refl _) _
  have hk5 : Blk w5 w4.heap.size 9 [.string ⟨#[]⟩, .string ⟨#[32]⟩, .string ⟨#[9]⟩, .string ⟨#[13, 32, 9]⟩] := by rw [← hw5]; exact Blk.new w4 _ _
  have HK5 := Lib.hid hk5
  have HB5 := Lib.hid (HB4.out.trans (hb5.mono hs4))
  have HM5 := Lib.hid (HM4.out.below hb5 HM4.out.lt)
  have hs5 : w.heap.size ≤ w5.heap.size := HB5.out.size
  clear hw5 hb5 hk5
  refine (ref_Lines (bOf (printT m)) (by show (List.toArray _).size ≤ _; rw [List.size_toArray]; exact HPL.out) w5).mono ?_
  rintro e w6 ⟨A9, c9, rfl, hr9, hb6⟩
  rw [bOf_data] at hr9 ⊢
  rw [List.length_map] at hr9 ⊢
  have HB6 := Lib.hid (HB5.out.trans (hb6.mono hs5))
  have HM6 := Lib.hid (HM5.out.below hb6 HM5.out.lt)
  have hs6 : w.heap.size ≤ w6.heap.size := HB6.out.size
  have hT : Tbn ts (printL m) At A9 c9 w5.heap.size w4.heap.size w6 := by
    refine ⟨(HT.out.below HB6.out).more hs6, hr9, HK5.out.below hb6 HK5.out.lt, HBL.out, fun l hl => ?_⟩
    have hF := fine_of HZ.out HNUM.out
    rw [printL_eq hF] at hl
    have hP := HPL.out
    rw [printT_toks, flat_sum] at hP
    rcases List.mem_append.1 hl with hl | hl
    · obtain ⟨p, hp, rfl⟩ := List.mem_map.1 hl
      have := sumBy_mem (fun p : Bool × List (List UInt8) => (lnT p ++ [10]).length) _ _ hp
      rw [List.length_append] at this
      omega
    · rw [List.mem_singleton] at hl
      subst hl
      exact Nat.zero_le _
  have HTB := Lib.hid hT
  have HLL : Hid ((printL m).length ≤ 1048577) := Lib.hid (by
    have := linG_len (printT m) []
    have := HPL.out
    unfold printL
    omega)
  clear hb6 hr9 hT
  rw [show linG [] (printT m) = printL m from rfl]
  go_wp2_with fail
  go_loopw [10, 11, 12, 13, 14, 15] (fun B N I _ _ _ wr => TbnRel ts (printL m) w6 B N I wr) (fun _ _ I _ _ _ _ => (printL m).length - (intOf I).toNat)
  case atStart => exact ⟨0, none, 0, 0, Nat.zero_le _, rfl, rfl, rfl, World.ownsRow_nil _ _ _ _, Below.refl _ _⟩
  case round =>
    obtain ⟨k, A, n0, c, hk, rfl, rfl, rfl, hown⟩ := hrel
    have HO := Lib.hid hown
    clear hown
    have hk0 : (0 : Int) ≤ k := by omega
    have hkb : (k : Int) ≤ 1048577 := by have := HLL.out; omega
    by_cases hlt : k < (printL m).length
    case pos =>
      obtain ⟨x, hx⟩ : ∃ x, turnAt ts k = x := ⟨_, rfl⟩
      have hx256 : x < 256 := by rw [← hx]; exact UInt8.toNat_lt _
      have HLN := Lib.hid (HTB.out.word hlt hx)
      have HX := Lib.hid hx
      clear hx
      go_upto_if 44 with fail
      go_cut [13] (fun a wx => a = .int .u8 (x : Int) ∧ wx = wr)
      case first =>
        by_cases hn : k < ts.length
        · obtain ⟨y, hy⟩ : ∃ y, ts[k]? = some y := ⟨_, List.getElem?_eq_getElem hn⟩
          obtain ⟨b, o, rfl, hbh, hc⟩ := u8_at HTB.out.turns hy
          have hyx : y.toNat = x := by have := HX.out; unfold turnAt at this; rw [hy] at this; exact this
          have c1 : wr.cell? ⟨b, o + k, none⟩ = some (.int .u8 (x : Int)) := by rw [← hyx]; exact (HO.out.2.cell (by simp; omega)).trans hc
          have hkn : (k : Int) < nt := by have := HNT.out; omega
          have hkn2 : k < nt := by omega
          clear hc hy hyx
          go_wp2_with fail
          go_meet
          exact ⟨rfl, rfl⟩
        · have hx0 : x = 0 := by have := HX.out; unfold turnAt at this; rw [List.getElem?_eq_none (by omega)] at this; exact this.symm
          have hkn : ¬ k < nt := by have := HNT.out; omega
          have HX0 := Lib.hid hx0
          clear hx0 hn
          go_wp2_with fail
          go_meet
          exact ⟨by rw [HX0.out]; rfl, rfl⟩
      case rest =>
        obtain ⟨rfl, rfl⟩ := hcut
        obtain ⟨wo, rfl⟩ : ∃ wo : World, wo = wc := ⟨_, rfl⟩
        obtain ⟨r, hr, hr4, hrr⟩ : ∃ r : Nat, (x : Int) % 4 = (r : Int) ∧ r < 4 ∧ x % 4 = r := ⟨x % 4, by omega, by omega, rfl⟩
        have HRB : Hid ((blkS r).data.toList = blk x) := Lib.hid (by rw [← hrr, blkS_blk])
        have c8 := blkS_cell (HTB.out.blanks.below HO.out.2 HTB.out.blanks.lt) r hr4
        have HLR : Hid ((blankT ts (printL m) k).length + (blk x).length ≤ 140737488351232) := Lib.hid (by have := HLN.out; unfold rowT at this; rw [List.length_append] at this; omega)
        clear hrr
        go_upto_region 19 with (at_builtin; refine app_by w6 (w7 := wo) (r7 := (Value.slice A n0 c).ownBlock) _ rfl _ _ rfl A n0 c (blankT ts (printL m) k) rfl HO.out (Aside.refl wo _) (blkS r) (blk x) HRB.out rfl HLR.out ?_; intro A1' n1' c1' w1' h1 h1b; have HO1' := Lib.hid h1; clear h1 h1b)
        have HRW := Lib.hid (fun ws (hw : lineOf (printL m) k = ws) => row_next ts (printL m) HX.out hw)
        have HRL : Hid (∀ ws, lineOf (printL m) k = ws → (blankT ts (printL m) k ++ blk x).length + (wordsT x ws ws.length).length + (tailT x).length ≤ 1048576) := Lib.hid (fun ws hw => by
          have := HLN.out
          rw [hw] at this
          unfold rowT at this
          simp only [List.length_append] at this ⊢
          omega)
        clear HLR c8 hr4 hr HO
        generalize hP : blankT ts (printL m) k ++ blk x = P at HO1' HRW HRL
        clear hP
        obtain ⟨l, hl⟩ : ∃ l, (printL m)[k]? = some l := ⟨_, List.getElem?_eq_getElem hlt⟩
        obtain ⟨b9, o9, rfl, hlo9, hb9, hc9⟩ := str_at06 HTB.out.lines (k := k) (x := bOf l) (by rw [List.getElem?_map, hl]; rfl)
        have c9' : w1'.cell? ⟨b9, o9 + k, none⟩ = some (.string (bOf l)) := (HO1'.out.2.cell (by simpa using hb9)).trans hc9
        have HSL : Hid (l.length ≤ 1048576) := Lib.hid (HTB.out.sz l (List.mem_of_getElem? hl))
        have HWS : Hid (lineOf (printL m) k = wdsG [] l) := Lib.hid (by unfold lineOf; rw [hl]; rfl)
        clear hl hc9 hlo9 hb9
        have hlt' : (k : Int) < (printL m).length := by omega
        go_wp2_with fail
        refine (ref_Words (bOf l) (by show (List.toArray _).size ≤ _; rw [List.size_toArray]; exact HSL.out) w1').mono ?_
        rintro e w7 ⟨A14, c14, rfl, hr14, hb7⟩
        rw [bOf_data] at hr14 ⊢
        rw [List.length_map] at hr14 ⊢
        generalize wdsG [] l = ws at HWS hr14 ⊢
        have HRW' := Lib.hid (HRW.out ws HWS.out)
        have HRL' := Lib.hid (HRL.out ws HWS.out)
        have HO7 := Lib.hid (HO1'.out.below hb7)
        have HW14 := Lib.hid hr14
        have HOB : Hid (∀ g, (Value.slice A1' n1' c1').ownBlock = some g → g < w1'.heap.size) := Lib.hid (fun g hg => (HO1'.out.1.lt g hg).2)
        have HWL : Hid (ws.length ≤ 1048576) := Lib.hid (by
          have h1 := HRL'.out
          have h2 := words_len_ge x ws (fun w hw => by
            have := HWS.out
            rw [← this] at hw
            exact (lineOf_tok (fine_of HZ.out HNUM.out) k w hw).1)
          omega)
        clear hb7 hr14 c9' HRW HRL HO1'
        have hP0 : P ++ wordsT x ws 0 = P := List.append_nil P
        have HP0 := Lib.hid hP0
        clear hP0
        go_wp2_with fail
        go_loopw [10, 15] (fun B J wr => TbnIn P x ws w6 w7 (Value.slice A1' n1' c1').ownBlock B J wr) (fun _ J _ => ws.length - (intOf J).toNat)
        case atStart => exact ⟨0, A1', n1', c1', Nat.zero_le _, rfl, rfl, by rw [HP0.out]; exact HO7.out, Aside.refl w7 _⟩
        case round =>
          obtain ⟨j, A2', n2', c2', hj, rfl, rfl, hown2, has2⟩ := hrel
          have HO2 := Lib.hid hown2; have HA2 := Lib.hid has2
          clear hown2 has2
          have hj0 : (0 : Int) ≤ j := by omega
          have hjb : (j : Int) ≤ 1048576 := by have := HWL.out; omega
          by_cases hjl : j < ws.length
          case pos =>
            obtain ⟨wd, hwd⟩ : ∃ wd, ws[j]? = some wd := ⟨_, List.getElem?_eq_getElem hjl⟩
            have HWD := Lib.hid hwd
            have HLW : Hid ((P ++ wordsT x ws (j + 1)).length ≤ 1048576) := Lib.hid (by
              have h1 := words_mono x ws (show j + 1 ≤ ws.length from hjl)
              have h2 := HRL'.out
              rw [List.length_append]
              omega)
            have HNX := Lib.hid (words_next P x ws hwd)
            have HLS : Hid ((P ++ wordsT x ws j ++ (if 0 < j then 32 :: blk (x / 4) else [])).length + wd.length ≤ 1048576) := Lib.hid (by rw [← List.length_append, HNX.out]; exact HLW.out)
            clear hwd
            go_upto_if 70 with fail
            go_cut [10] (fun a wx => TbnSep (P ++ wordsT x ws j ++ (if 0 < j then 32 :: blk (x / 4) else [])) w6 w7 (Value.slice A1' n1' c1').ownBlock a wx)
            case first =>
              by_cases hjp : 0 < j
              · have HS : Hid ((P ++ wordsT x ws j ++ (if 0 < j then 32 :: blk (x / 4) else [])) = (P ++ wordsT x ws j ++ [32]) ++ blk (x / 4)) := Lib.hid (by rw [if_pos hjp]; simp only [List.append_assoc, List.cons_append, List.nil_append])
                have hjp2 : (0 : Int) < j := by omega
                obtain ⟨q, hq, hq4, hqq⟩ : ∃ q : Nat, (x : Int) / 4 % 4 = (q : Int) ∧ q < 4 ∧ x / 4 % 4 = q := ⟨x / 4 % 4, by omega, by omega, rfl⟩
                have HQB : Hid ((blkS q).data.toList = blk (x / 4)) := Lib.hid (by rw [← hqq, blkS_blk])
                have HLQ : Hid ((P ++ wordsT x ws j ++ [32]).length + (blk (x / 4)).length ≤ 140737488351232) := Lib.hid (by rw [← List.length_append, ← HS.out]; have := HLS.out; omega)
                have HLQ1 : Hid ((P ++ wordsT x ws j).length + 1 ≤ 140737488351232) := Lib.hid (by have := HLQ.out; rw [List.length_append (bs := [32])] at this; simp only [List.length_cons, List.length_nil] at this; omega)
                clear hqq
                go_upto_region 25 with (at_builtin; refine app_by1 w6 (w7 := w7) (r7 := (Value.slice A1' n1' c1').ownBlock) wr 32 rfl _ _ rfl A2' n2' c2' (P ++ wordsT x ws j) rfl HO2.out HA2.out rfl HLQ1.out ?_; intro A3' n3' c3' w3' h3 h3a; have HO3 := Lib.hid h3; have HA3 := Lib.hid h3a; clear h3 h3a)
                have c8 := blkS_cell (HTB.out.blanks.below HO3.out.2 HTB.out.blanks.lt) q hq4
                go_wp2_with (at_builtin; refine app_by w6 (w7 := w7) (r7 := (Value.slice A1' n1' c1').ownBlock) _ rfl _ _ rfl A3' n3' c3' (P ++ wordsT x ws j ++ [32]) rfl HO3.out HA3.out (blkS q) (blk (x / 4)) HQB.out rfl HLQ.out ?_; intro A4' n4' c4' w4' h4 h4a; have HO4 := Lib.hid h4; have HA4 := Lib.hid h4a; clear h4 h4a)
                go_meet
                exact ⟨A4', n4', c4', rfl, by rw [HS.out]; exact HO4.out, HA4.out⟩
              · have HS : Hid ((P ++ wordsT x ws j ++ (if 0 < j then 32 :: blk (x / 4) else [])) = P ++ wordsT x ws j) := Lib.hid (by rw [if_neg hjp, List.append_nil])
                go_wp2_with fail
                go_meet
                exact ⟨A2', n2', c2', rfl, by rw [HS.out]; exact HO2.out, HA2.out⟩
            case rest =>
              obtain ⟨A5', n5', c5', rfl, ho5, ha5⟩ := hcut
              have HO5 := Lib.hid ho5; have HA5 := Lib.hid ha5
              obtain ⟨b14, o14, rfl, cw⟩ := words_cell HW14.out ha5 HOB.out HWD.out
              have hjl' : (j : Int) < ws.length := by omega
              have HBD : Hid ((bOf wd).data.toList = wd) := Lib.hid (bOf_data wd)
              have HLS2 : Hid ((P ++ wordsT x ws j ++ (if 0 < j then 32 :: blk (x / 4) else [])).length + wd.length ≤ 140737488351232) := Lib.hid (by have := HLS.out; omega)
              clear ho5 ha5
              go_wp2_with (at_builtin; refine app_by w6 (w7 := w7) (r7 := (Value.slice A1' n1' c1').ownBlock) _ rfl _ _ rfl A5' n5' c5' (P ++ wordsT x ws j ++ (if 0 < j then 32 :: blk (x / 4) else [])) rfl HO5.out HA5.out (bOf wd) wd HBD.out rfl HLS2.out ?_; intro A6' n6' c6' w6' h6 h6a; have HO6 := Lib.hid h6; have HA6 := Lib.hid h6a; clear h6 h6a)
              exact ⟨⟨j + 1, A6', n6', c6', hjl, rfl, by go_num, by rw [← HNX.out]; exact HO6.out, HA6.out⟩, by simp [intOf]; omega⟩
          case neg =>
            obtain rfl : ws.length = j := by omega
            obtain ⟨u, hu, hu4, huu⟩ : ∃ u : Nat, (x : Int) / 16 % 4 = (u : Int) ∧ u < 4 ∧ x / 16 % 4 = u := ⟨x / 16 % 4, by omega, by omega, rfl⟩
            have HUB : Hid ((blkS u).data.toList = blk (x / 16)) := Lib.hid (by rw [← huu, blkS_blk])
            have HTL : Hid ((P ++ wordsT x ws ws.length).length + (blk (x / 16)).length + 1 + 15 ≤ 140737488351232) := Lib.hid (by
              have h1 := HRL'.out
              have h2 := (blk_all (x / 16)).1
              rw [List.length_append]
              omega)
            have HL1 : Hid ((P ++ wordsT x ws ws.length).length + (blk (x / 16)).length ≤ 140737488351232) := Lib.hid (by have := HTL.out; omega)
            have HL2 : Hid ((P ++ wordsT x ws ws.length ++ blk (x / 16)).length + 1 ≤ 140737488351232) := Lib.hid (by rw [List.length_append]; have := HTL.out; omega)
            have c8 := blkS_cell (HTB.out.blanks.below HO2.out.2 HTB.out.blanks.lt) u hu4
            clear huu
            go_upto_region 28 with (at_builtin; refine app_by w6 (w7 := w7) (r7 := (Value.slice A1' n1' c1').ownBlock) _ rfl _ _ rfl A2' n2' c2' (P ++ wordsT x ws ws.length) rfl HO2.out HA2.out (blkS u) (blk (x / 16)) HUB.out rfl HL1.out ?_; intro A3' n3' c3' w3' h3 h3a; have HO3 := Lib.hid h3; have HA3 := Lib.hid h3a; clear h3 h3a)
            go_upto_region 29 with (at_builtin; refine app_by1 w6 (w7 := w7) (r7 := (Value.slice A1' n1' c1').ownBlock) w3' 10 rfl _ _ rfl A3' n3' c3' (P ++ wordsT x ws ws.length ++ blk (x / 16)) rfl HO3.out HA3.out rfl HL2.out ?_; intro A4' n4' c4' w4' h4 h4a; have HO4 := Lib.hid h4; have HA4 := Lib.hid h4a; clear h4 h4a)
            by_cases hx192 : 192 ≤ x
            · have HEQ : Hid (blankT ts (printL m) (k + 1) = P ++ wordsT x ws ws.length ++ blk (x / 16) ++ [10] ++ (remT ++ [10, 10])) := Lib.hid (by rw [HRW'.out, if_pos hx192])
              have HRM : Hid ((⟨#[32, 59, 32, 101, 120, 116, 101, 114, 110, 32, 57, 32, 119, 10, 10]⟩ : ByteArray).data.toList = remT ++ [10, 10]) := Lib.hid rfl
              have HL3 : Hid ((P ++ wordsT x ws ws.length ++ blk (x / 16) ++ [10]).length + (remT ++ [10, 10]).length ≤ 140737488351232) := Lib.hid (by
                have h1 := HTL.out
                rw [List.length_append, List.length_append (bs := blk (x / 16))]
                show _ + 1 + 15 ≤ _
                omega)
              have hxi : (192 : Int) ≤ x := by omega
              go_wp2_with (at_builtin; refine app_by w6 (w7 := w7) (r7 := (Value.slice A1' n1' c1').ownBlock) _ rfl _ _ rfl A4' n4' c4' (P ++ wordsT x ws ws.length ++ blk (x / 16) ++ [10]) rfl HO4.out HA4.out _ (remT ++ [10, 10]) HRM.out rfl HL3.out ?_; intro A5' n5' c5' w5' h5 h5a; have HO5 := Lib.hid h5; clear h5 h5a)
              exact ⟨⟨k + 1, A5', n5', c5', hlt, rfl, by go_num, by go_num, by rw [HEQ.out]; exact HO5.out⟩, by simp [intOf]; omega⟩
            · have HEQ : Hid (blankT ts (printL m) (k + 1) = P ++ wordsT x ws ws.length ++ blk (x / 16) ++ [10]) := Lib.hid (by rw [HRW'.out, if_neg hx192, List.append_nil])
              have hxi : ¬ (192 : Int) ≤ x := by omega
              go_wp2_with fail
              exact ⟨⟨k + 1, A4', n4', c4', hlt, rfl, by go_num, by go_num, by rw [HEQ.out]; exact HO4.out⟩, by simp [intOf]; omega⟩
    case neg =>
      obtain rfl : (printL m).length = k := by omega
      have hcv := conv_bytes (P := Tryz.prog) 41 5 9 Tryz.underlying41 Tryz.underlying5 Tryz.underlying9 wr _ A n0 c (blankT ts (printL m) (printL m).length) HO.out.len (row_of_own HO.out.1)
      have HBr := Lib.hid (HB6.out.trans (HO.out.2.mono hs6))
      have HMr := Lib.hid (HM6.out.below HO.out.2 HM6.out.lt)
      have hsr : w.heap.size ≤ wr.heap.size := HBr.out.size
      go_wp2_with fail
      refine (txt_Parse (bOf (blankT ts (printL m) (printL m).length)) (hi := hj) wr (HE.out.to (HBr.out.mono hhj)) (Nat.le_trans hhj hsr)).mono ?_
      rintro e w7 ⟨hb7, cs7, hl7, he7, hr7⟩
      simp only [HBP.out] at he7 hr7
      obtain ⟨u1, u2, u3, u6, u7, u8, rfl, h1, h2, h3, h4, h5, h6, h7, h8⟩ := rMod_iff.1 hr7
      obtain ⟨D1, d1, rfl⟩ := sl_form h1
      obtain ⟨D2, d2, rfl⟩ := sl_form h2
      obtain ⟨D3, d3, rfl⟩ := sl_form h3
      obtain ⟨D6, d6, rfl⟩ := sl_form h6
      obtain ⟨D7, d7, rfl⟩ := sl_form h7
      obtain ⟨D8, d8, rfl⟩ := sl_form h8
      subst he7
      have HB7 := Lib.hid (HBr.out.trans (hb7.mono hsr))
      have HM7 := Lib.hid (HMr.out.below hb7 HMr.out.lt)
      have hs7 : w.heap.size ≤ w7.heap.size := HB7.out.size
      have HP7 := Lib.hid hr7
      clear hb7 hr7 h1 h2 h3 h4 h5 h6 h7 h8 hl7 hcv
      go_upto_region 32 with fail
      generalize hw8 : World.alloc _ _ = w8
      have hb8 : Below w7.heap.size w7 w8 := by rw [← hw8]; exact (Below.refl _ _).alloc (Nat.le_refl _) _
      have hn8 : Blk w8 w7.heap.size 29 [.slice D1 m.types.length d1, .slice D2 m.hosts.length d2, .slice D3 m.globs.length d3, .int .i64 m.first, .int .i64 m.most, .slice D6 m.fns.length d6, .slice D7 m.dat.length d7, .slice D8 m.exps.length d8] := by rw [← hw8]; exact Blk.new w7 _ _
      have HN8 := Lib.hid hn8
      have HB8 := Lib.hid (HB7.out.trans (hb8.mono hs7))
      have HM8 := Lib.hid (HM7.out.below hb8 HM7.out.lt)
      have HEQ := Lib.hid (eq_module [.slice D1 m.types.length d1, .slice D2 m.hosts.length d2, .slice D3 m.globs.length d3, .int .i64 m.first, .int .i64 m.most, .slice D6 m.fns.length d6, .slice D7 m.dat.length d7, .slice D8 m.exps.length d8] [.slice A1 m.types.length c1, .slice A2 m.hosts.length c2, .slice A3 m.globs.length c3, .int .i64 m.first, .int .i64 m.most, .slice A6 m.fns.length c6, .slice A7 m.dat.length c7, .slice A8 m.exps.length c8] w7.heap.size hi m m w8 (rMod.more (Nat.zero_le _) (Nat.le_refl _) (Rd.below HP7.out hb8 (Nat.le_refl _))) (Rd.below HH.out HB8.out hhi) hb8.size (Nat.le_trans hhi HB8.out.size) HLE.out)
      have hs8 : w.heap.size ≤ w8.heap.size := HB8.out.size
      clear hw8 hb8 hn8
      go_wp2_with (first | refine ldMg HM8.out rfl _ rfl rfl ?_ | refine ldMg HN8.out rfl _ rfl rfl ?_)
      refine HEQ.out.mono ?_
      rintro e w9 ⟨hb9, b, rfl, hb⟩
      obtain rfl : b = true := hb.2 rfl
      have HB9 := Lib.hid (HB8.out.trans (hb9.mono hs8))
      clear hb9 hb HEQ
      go_wp2_with fail
      go_ret
      exact ⟨HB9.out, rfl⟩
end Go.Proofs.YtebgikflpgcnlaaGreatDoor
