/- The law TypesJoin, walked. -/
import Derived.Test.YtndkhlafpcedbaaTypesW
import Derived.Test.YtndkhlafpcedbaaTypesZ
import Derived.Test.YtndkhlafpcedbaaShapeQ
import Derived.Test.YtndkhlafpcedbaaOpen
namespace Go.Proofs.Ytndkhlafpcedbaa
set_option linter.unusedVariables false
open Go.RowKit
theorem allB_app : ∀ (la lb : List Nat) (s t : List UInt8), la.length = s.length → allB (la ++ lb) (s ++ t) = (allB la s && allB lb t)
  | [], lb, [], t, _ => by show allB lb t = (allB [] [] && allB lb t); rw [show allB [] [] = true from rfl, Bool.true_and]
  | a :: la, lb, c :: s, t, h => by
    show (fitB a c && allB (la ++ lb) (s ++ t)) = ((fitB a c && allB la s) && allB lb t)
    rw [allB_app la lb s t (by simpa using h), Bool.and_assoc]
  | [], lb, c :: s, t, h => by simp at h
  | a :: la, lb, [], t, h => by simp at h
theorem allB_zero : ∀ (l : List UInt8), l.all isL = true → allB (List.replicate l.length 0) l = true
  | [], _ => rfl
  | c :: l, h => by
    rw [List.all_cons, Bool.and_eq_true] at h
    show (fitB 0 c && allB (List.replicate l.length 0) l) = true
    rw [allB_zero l h.2, Bool.and_true]
    have h1 := h.1
    unfold isL isN at h1
    unfold fitB fitN
    simp only [Bool.or_eq_true] at h1 ⊢
    rcases h1 with h1 | h1
    · right; rw [h1]; rfl
    · left; exact h1
theorem uv_one (l : List Nat) : ∀ u ∈ l.map uv, u.oneCell' = true := by
  intro u hu
  obtain ⟨_, _, rfl⟩ := List.mem_map.1 hu
  rfl
set_option maxRecDepth 100000 in
set_option maxHeartbeats 2000000 in
theorem walk_TypesJoin (s t : ByteArray) (A1 A2 : Option Addr) (n1 c1 n2 c2 : Nat) (la lb : List Nat) (m : Int) (w : World) (h0 : 0 < w.heap.size) (hm : w.cell? ⟨0, 0, none⟩ = some (.int .i64 m))
    (hs : s.size ≤ 140737488351232) (ht : t.size ≤ 140737488351232) (hn1 : n1 = la.length) (hn2 : n2 = lb.length) (h471 : n1 ≤ 140737488351232) (h472 : n2 ≤ 140737488351232)
    (hr1 : Row w w.heap.size A1 (la.map uv)) (hr2 : Row w w.heap.size A2 (lb.map uv)) :
    Calls Try.prog 12 #[.string s, .string t, .slice A1 n1 c1, .slice A2 n2 c2] w fun e w' => e = .returned (.bool true) ∧ Below w.heap.size w w' := by
  have HW := Lib.hid (works02 m w h0 hm)
  have Hr1 := Lib.hid hr1; clear hr1
  have Hr2 := Lib.hid hr2; clear hr2
  have Hn1 := Lib.hid hn1; clear hn1
  have Hn2 := Lib.hid hn2; clear hn2
  clear hm h0
  by_cases hbig : 1048576 < s.size + t.size + n1 + n2
  · go_enter Try.func12, Try.ntmps12
    go_wp2_with fail
    refine HW.out.mono ?_
    rintro e w1 ⟨rfl, h1⟩
    have H1 := Lib.hid h1; clear h1
    go_wp2_with fail
    go_ret
    exact ⟨rfl, H1.out⟩
  · by_cases hne : n1 = s.size
    · subst hne
      have q1 : decide ((1048576 : Int) < (s.size : Int) + t.size + s.size + n2) = false := decide_eq_false (by omega)
      have hsm : s.size + t.size + s.size + n2 ≤ 1048576 := by omega
      clear hbig
      go_enter Try.func12, Try.ntmps12
      go_wp2_with fail
      refine HW.out.mono ?_
      rintro e w1 ⟨rfl, h1⟩
      have H1 := Lib.hid h1; clear h1
      have Hra := Lib.hid (Hr1.out.below H1.out)
      have Hrb := Lib.hid (Hr2.out.below H1.out)
      have hsz1 : w.heap.size ≤ w1.heap.size := H1.out.size
      clear HW Hr1 Hr2
      go_wp2_with (at_builtin; first | (refine app_u64 _ rfl (.tmp 32) (.tmp 33) rfl w1.heap.size none 0 0 [] rfl (World.ownsRow_nil _ _ _ _) _ _ _ _ (la.map uv) rfl (by rw [List.length_map, ← Hn1.out]) Hra.out (uv_one la) (by omega) (Nat.le_refl _) ?_; intro A3 c3 w2 h2 h3; rw [Nat.zero_add] at h2; have H2 : Hid (w2.ownsRow w1.heap.size 22 1 (.slice A3 s.size c3) s.size (la.map uv)) := Lib.hid h2; have Hb2 : Hid (Below w1.heap.size w1 w2) := Lib.hid (own_below (v := .slice none 0 0) (World.ownsRow_nil w1 w1.heap.size 22 1) h3 (Nat.le_refl _)); have Hrb2 := Lib.hid (Hrb.out.below' Hb2.out hsz1); have hsz2 : w1.heap.size ≤ w2.heap.size := Hb2.out.size; clear h2 h3) | (refine app_u64 _ rfl (.tmp 35) (.tmp 36) rfl w1.heap.size A3 s.size c3 (la.map uv) rfl H2.out _ _ _ _ (lb.map uv) rfl (by rw [List.length_map, ← Hn2.out]) Hrb2.out (uv_one lb) (by omega) hsz2 ?_; intro A4 c4 w3 h2 h3; have H3 := Lib.hid h2; have Hb3 : Hid (Below w1.heap.size w1 w3) := Lib.hid (Hb2.out.trans (own_below H2.out h3 hsz2)); clear h2 h3))
      have Hrow : Hid (Row w3 w3.heap.size A4 ((la ++ lb).map uv)) := Lib.hid (by rw [List.map_append]; exact Row.own H3.out)
      have Ha3 : Hid (Row w3 w.heap.size A1 (la.map uv)) := Lib.hid (Hra.out.below' Hb3.out hsz1)
      have Hbb3 : Hid (Row w3 w.heap.size A2 (lb.map uv)) := Lib.hid (Hrb.out.below' Hb3.out hsz1)
      have Hw3 : Hid (Below w.heap.size w w3) := Lib.hid (H1.out.trans (Hb3.out.mono hsz1))
      have Hall : Hid (allB (la ++ lb) (s ++ t).data.toList = (allB la s.data.toList && allB lb t.data.toList)) := Lib.hid (by
        rw [show (s ++ t).data.toList = s.data.toList ++ t.data.toList from bl_app s t]
        exact allB_app la lb _ _ (by rw [← Hn1.out]; simp))
      have hlen : s.size + n2 = (la ++ lb).length := by rw [List.length_append, ← Hn1.out, ← Hn2.out]
      have Hlen := Lib.hid hlen; clear hlen
      clear H2 Hb2 Hrb2 H3 Hb3 hsz2 q1 Hra Hrb
      refine (types_All _ _ _ _ (la ++ lb) (s ++ t) w3 Hlen.out Hrow.out (Nat.le_refl _) (by rw [size_app]; omega)).mono ?_
      rw [Hall.out]
      rintro e w4 ⟨h4, rfl⟩
      have Ha4 := Lib.hid (Ha3.out.below' h4 Hw3.out.size)
      have Hbb4 := Lib.hid (Hbb3.out.below' h4 Hw3.out.size)
      have Hw4 := Lib.hid (Hw3.out.trans (h4.mono Hw3.out.size)); clear h4
      go_wp2_with fail
      refine (types_All _ _ _ _ la s w4 Hn1.out Ha4.out Hw4.out.size hs).mono ?_
      rintro e w5 ⟨h5, rfl⟩
      have Hbb5 := Lib.hid (Hbb4.out.below' h5 Hw4.out.size)
      have Hw5 := Lib.hid (Hw4.out.trans (h5.mono Hw4.out.size)); clear h5
      have HT : Hid (∃ W6 : World → Prop, True) := Lib.hid ⟨fun _ => True, trivial⟩
      clear HT
      have HB := Lib.hid (types_All _ _ c2 _ lb t w5 Hn2.out Hbb5.out Hw5.out.size ht)
      have HSh := Lib.hid (fun W => types_Shape s hs W)
      have HLet : Hid (letB 256 s.data.toList = true → allL s = true) := Lib.hid (fun h => by unfold letB at h; rw [Bool.and_eq_true] at h; exact h.2)
      have HZero : Hid (∀ W, Calls Try.prog 66 #[.string s] W fun e w' => Below W.heap.size W w' ∧ ∃ A n c, e = .returned (.slice A n c) ∧ (allL s = true → n = s.size ∧ w'.ownsRow W.heap.size 22 1 (.slice A n c) n (zs n))) := Lib.hid (fun W => types_Zero s (by omega) W)
      have Hzall : Hid (allL s = true → allB (List.replicate s.size 0) s.data.toList = true) := Lib.hid (fun h => by
        have := allB_zero s.data.toList h
        rw [show s.data.toList.length = s.size from by simp] at this
        exact this)
      clear Hall Hrow Hlen Ha3 Hbb3 Ha4 Hbb4 Hw3 Hw4 H1 hsz1
      generalize allB la s.data.toList = x at *
      generalize allB lb t.data.toList = y at *
      generalize letB 256 s.data.toList = sh at *
      cases x
      case' true =>
        go_wp2_with fail
        refine HB.out.mono ?_
        rintro e w6 ⟨h6, rfl⟩
        have Hw6 := Lib.hid (Hw5.out.trans (h6.mono Hw5.out.size)); clear h6
        clear HB Hw5 Hbb5
        have hyy : (y != y) = false := by cases y <;> rfl
      case' false =>
        clear HB Hbb5
        have Hw6 := Hw5
        clear Hw5
      all_goals
        by_cases h256 : 256 < s.size
        · have h2' : (256 : Int) < s.size := by omega
          go_wp2_with fail
          go_ret
          exact ⟨rfl, Hw6.out⟩
        · have h2' : decide ((256 : Int) < s.size) = false := decide_eq_false (by omega)
          clear h256
          go_wp2_with fail
          refine (HSh.out _).mono ?_
          rintro e w7 ⟨h7, rfl⟩
          have Hw7 := Lib.hid (Hw6.out.trans (h7.mono Hw6.out.size)); clear h7
          cases sh with
          | false =>
            go_wp2_with fail
            go_ret
            exact ⟨rfl, Hw7.out⟩
          | true =>
            have hal := HLet.out rfl
            have Hal := Lib.hid hal; clear hal
            go_wp2_with fail
            refine (HZero.out _).mono ?_
            rintro e w8 ⟨h8, A8, n8, c8, rfl, hz⟩
            obtain ⟨rfl, hrow⟩ := hz Hal.out
            have Hw8 := Lib.hid (Hw7.out.trans (h8.mono Hw7.out.size)); clear h8
            have Hr8 : Hid (Row w8 w8.heap.size A8 ((List.replicate s.size 0).map uv)) := Lib.hid (by
              have := Row.own hrow
              rw [List.map_replicate]
              exact this)
            clear hz hrow
            go_wp2_with fail
            refine (types_All _ _ _ _ (List.replicate s.size 0) s w8 (by rw [List.length_replicate]) Hr8.out (Nat.le_refl _) hs).mono ?_
            rw [Hzall.out Hal.out]
            rintro e w9 ⟨h9, rfl⟩
            have Hw9 := Lib.hid (Hw8.out.trans (h9.mono Hw8.out.size)); clear h9
            go_wp2_with fail
            go_ret
            exact ⟨rfl, Hw9.out⟩
    · have q2 : ((n1 : Int) != s.size) = true := by simp; omega
      go_enter Try.func12, Try.ntmps12
      go_wp2_with fail
      refine HW.out.mono ?_
      rintro e w1 ⟨rfl, h1⟩
      have H1 := Lib.hid h1; clear h1
      go_wp2_with fail
      go_ret
      exact ⟨rfl, H1.out⟩
theorem words_nat (xs : List Int) (h : ∀ n ∈ xs, (Lit.int .u64 n).wf = true) : xs.map (Value.int .u64) = (xs.map Int.toNat).map uv := by
  rw [List.map_map]
  refine List.map_congr_left fun n hn => ?_
  have := (bd_u64 (h n hn)).1
  show Value.int .u64 n = .int .u64 ((n.toNat : Nat) : Int)
  rw [Int.toNat_of_nonneg this]
theorem cell_pos {w : World} {v : Value} (h : w.cell? ⟨0, 0, none⟩ = some v) : 0 < w.heap.size := by
  rcases Nat.eq_zero_or_pos w.heap.size with h0 | h0
  · exfalso
    have : w.heap[0]? = none := Array.getElem?_eq_none (by omega)
    simp [World.cell?, this] at h
  · exact h0
theorem walk_TypesJoin' (s t : ByteArray) (A1 A2 : Option Addr) (n1 c1 n2 c2 : Nat) (la lb : List Int) (w : World) (hm : ∃ m, w.cell? ⟨0, 0, none⟩ = some (.int .i64 m))
    (hs : s.size ≤ 140737488351232) (ht : t.size ≤ 140737488351232) (hn1 : n1 = la.length) (hn2 : n2 = lb.length) (h471 : n1 * 8 ≤ 140737488351232) (h472 : n2 * 8 ≤ 140737488351232)
    (hw1 : ∀ n ∈ la, (Lit.int .u64 n).wf = true) (hw2 : ∀ n ∈ lb, (Lit.int .u64 n).wf = true)
    (hr1 : Row w w.heap.size A1 (la.map (Value.int .u64))) (hr2 : Row w w.heap.size A2 (lb.map (Value.int .u64))) :
    Calls Try.prog 12 #[.string s, .string t, .slice A1 n1 c1, .slice A2 n2 c2] w fun e w' => e = .returned (.bool true) ∧ Below w.heap.size w w' := by
  obtain ⟨m, hm⟩ := hm
  rw [words_nat la hw1] at hr1
  rw [words_nat lb hw2] at hr2
  exact walk_TypesJoin s t A1 A2 n1 c1 n2 c2 _ _ m w (cell_pos hm) hm hs ht (by rw [List.length_map]; exact hn1) (by rw [List.length_map]; exact hn2) (by omega) (by omega) hr1 hr2
end Go.Proofs.Ytndkhlafpcedbaa
