/- Blanks, lines without words and remarks laid into a module's text change nothing, plainly. No program in sight. -/
import Derived.Test.YtebgikflpgcnlaaGreatDoorT11
import Derived.Test.YtebgikflpgcnlaaGreatDoorT03
namespace Go.Proofs.YtebgikflpgcnlaaGreatDoor
set_option linter.unusedVariables false
set_option linter.unusedSimpArgs false
theorem len_sz (s : ByteArray) : s.data.toList.length = s.size := by simp
/-! ### lines and words, as the document cuts them -/
def linG : List UInt8 → List UInt8 → List (List UInt8)
  | cur, [] => [cur]
  | cur, b :: t => if b = 10 then cur :: linG [] t else linG (cur ++ [b]) t
theorem linG_line : ∀ (l cur t : List UInt8), (∀ c ∈ l, c ≠ 10) → linG cur (l ++ 10 :: t) = (cur ++ l) :: linG [] t
  | [], cur, t, _ => by rw [List.append_nil]; rfl
  | c :: l, cur, t, h => by
    show (if c = 10 then _ else linG (cur ++ [c]) (l ++ 10 :: t)) = _
    rw [if_neg (h c (List.mem_cons_self ..)), linG_line l _ t (fun d hd => h d (List.mem_cons_of_mem _ hd)), List.append_assoc]
    rfl
theorem linG_flat : ∀ (ls : List (List UInt8)), (∀ l ∈ ls, ∀ c ∈ l, c ≠ 10) → linG [] (ls.flatMap (· ++ [10])) = ls ++ [[]]
  | [], _ => rfl
  | l :: ls, h => by
    have e : (l :: ls).flatMap (· ++ [10]) = l ++ 10 :: ls.flatMap (· ++ [10]) := by simp
    rw [e, linG_line l [] _ (h l (List.mem_cons_self ..)), linG_flat ls (fun x hx => h x (List.mem_cons_of_mem _ hx))]
    rfl
theorem wdsG_wordT : ∀ (l cur : List UInt8), (∀ c ∈ cur, isB c = false) → ∀ w ∈ wdsG cur l, WordT w
  | [], cur, h, w, hw => by
    unfold wdsG at hw
    split at hw
    · cases hw
    · rename_i hc
      rw [List.mem_singleton] at hw
      subst hw
      exact ⟨hc, h⟩
  | b :: l, cur, h, w, hw => by
    have hw : w ∈ (if isB b = true then (if cur = [] then [] else [cur]) ++ wdsG [] l else wdsG (cur ++ [b]) l) := hw
    split at hw
    · rcases List.mem_append.1 hw with hw | hw
      · split at hw
        · cases hw
        · rename_i hc
          rw [List.mem_singleton] at hw
          subst hw
          exact ⟨hc, h⟩
      · exact wdsG_wordT l [] (fun c hc => by cases hc) w hw
    · rename_i hb
      refine wdsG_wordT l (cur ++ [b]) (fun c hc => ?_) w hw
      rcases List.mem_append.1 hc with hc | hc
      · exact h c hc
      · rw [List.mem_singleton] at hc
        subst hc
        exact Bool.eq_false_iff.2 hb
/-! ### the text with blanks -/
def blk (n : Nat) : List UInt8 := match n % 4 with
  | 0 => []
  | 1 => [32]
  | 2 => [9]
  | _ => [13, 32, 9]
theorem blk_all (n : Nat) : (blk n).length ≤ 3 ∧ ∀ c ∈ blk n, isB c = true ∧ c.toNat < 128 ∧ c ≠ 10 := by
  have : n % 4 < 4 := Nat.mod_lt _ (by decide)
  unfold blk
  generalize n % 4 = k at this ⊢
  match k, this with
  | 0, _ => exact ⟨by decide, by decide⟩
  | 1, _ => exact ⟨by decide, by decide⟩
  | 2, _ => exact ⟨by decide, by decide⟩
  | 3, _ => exact ⟨by decide, by decide⟩
def remT : List UInt8 := [32, 59, 32, 101, 120, 116, 101, 114, 110, 32, 57, 32, 119]
def midT (t : Nat) (ws : List (List UInt8)) (k : Nat) : List UInt8 := (if 0 < k then 32 :: blk (t / 4) else []) ++ ws[k]?.getD []
def wordsT (t : Nat) (ws : List (List UInt8)) (k : Nat) : List UInt8 := (List.range k).flatMap (midT t ws)
def tailT (t : Nat) : List UInt8 := blk (t / 16) ++ (10 :: (if 192 ≤ t then remT ++ [10, 10] else []))
def rowT (t : Nat) (ws : List (List UInt8)) : List UInt8 := blk t ++ (wordsT t ws ws.length ++ tailT t)
def turnAt (ts : List UInt8) (i : Nat) : Nat := (ts[i]?.getD 0).toNat
def lineOf (ls : List (List UInt8)) (i : Nat) : List (List UInt8) := wdsG [] (ls[i]?.getD [])
def blankT (ts : List UInt8) (ls : List (List UInt8)) (k : Nat) : List UInt8 := (List.range k).flatMap fun i => rowT (turnAt ts i) (lineOf ls i)
theorem blankT_next (ts : List UInt8) (ls : List (List UInt8)) (k : Nat) : blankT ts ls (k + 1) = blankT ts ls k ++ rowT (turnAt ts k) (lineOf ls k) := by
  unfold blankT
  rw [List.range_succ, List.flatMap_append]
  simp
theorem wordsT_next (t : Nat) (ws : List (List UInt8)) (k : Nat) : wordsT t ws (k + 1) = wordsT t ws k ++ midT t ws k := by
  unfold wordsT
  rw [List.range_succ, List.flatMap_append]
  simp
theorem range_flat {α : Type} (f : List UInt8 → List α) : ∀ l : List (List UInt8), (List.range l.length).flatMap (fun k => f (l[k]?.getD [])) = l.flatMap f
  | [] => rfl
  | x :: l => by
    have ih := range_flat f l
    rw [List.length_cons, List.range_succ_eq_map, List.flatMap_cons, List.flatMap_cons, List.flatMap_map]
    simp only [Function.comp_def, List.getElem?_cons_succ]
    rw [ih]
    rfl
theorem wordsT_cons (t : Nat) (w : List UInt8) (r : List (List UInt8)) : wordsT t (w :: r) (w :: r).length = w ++ r.flatMap fun x => 32 :: (blk (t / 4) ++ x) := by
  unfold wordsT
  rw [List.length_cons, List.range_succ_eq_map, List.flatMap_cons, List.flatMap_map]
  have e0 : midT t (w :: r) 0 = w := rfl
  have e1 : (fun k => midT t (w :: r) (k + 1)) = fun k => (fun x => 32 :: (blk (t / 4) ++ x)) (r[k]?.getD []) := by
    funext k
    unfold midT
    rw [if_pos (Nat.succ_pos k), List.getElem?_cons_succ]
    rfl
  rw [e0]
  simp only [Nat.succ_eq_add_one]
  rw [e1, range_flat (fun x => 32 :: (blk (t / 4) ++ x)) r]
theorem spaced_words {b : List UInt8} (hb : ∀ c ∈ b, isB c = true) : ∀ (r : List (List UInt8)) (w : List UInt8), WordT w → (∀ x ∈ r, WordT x) → Spaced (w ++ r.flatMap fun x => 32 :: (b ++ x)) (w :: r)
  | [], w, hw, _ => by
    have := Spaced.one (b := []) (e := []) (w := w) (fun c hc => by cases hc) hw (fun c hc => by cases hc)
    simpa using this
  | v :: r, w, hw, h => by
    have ih := spaced_words hb r v (h v (List.mem_cons_self ..)) (fun x hx => h x (List.mem_cons_of_mem _ hx))
    have := Spaced.more (b := []) (w := w) (c := 32) (fun c hc => by cases hc) hw (by decide) (spaced_lead hb ih)
    simpa using this
/-- A row's lines: the one of its words, and a remark and a line without words. -/
def rowL (t : Nat) (ws : List (List UInt8)) : List (List UInt8) := (blk t ++ (wordsT t ws ws.length ++ blk (t / 16))) :: (if 192 ≤ t then [remT, []] else [])
theorem rowT_eq (t : Nat) (ws : List (List UInt8)) : rowT t ws = (rowL t ws).flatMap (· ++ [10]) := by
  unfold rowT tailT rowL
  split <;> simp
theorem row_spaced (t : Nat) {ws : List (List UInt8)} (h : ∀ w ∈ ws, WordT w) : Spaced (blk t ++ (wordsT t ws ws.length ++ blk (t / 16))) ws := by
  have h1 : ∀ c ∈ blk t, isB c = true := fun c hc => ((blk_all t).2 c hc).1
  have h4 : ∀ c ∈ blk (t / 4), isB c = true := fun c hc => ((blk_all (t / 4)).2 c hc).1
  have h16 : ∀ c ∈ blk (t / 16), isB c = true := fun c hc => ((blk_all (t / 16)).2 c hc).1
  refine spaced_lead h1 (spaced_trail h16 ?_)
  cases ws with
  | nil => exact Spaced.none (fun c hc => by cases hc)
  | cons w r =>
    rw [wordsT_cons]
    exact spaced_words h4 r w (h w (List.mem_cons_self ..)) (fun x hx => h x (List.mem_cons_of_mem _ hx))
theorem words_chars (t : Nat) {ws : List (List UInt8)} (h : ∀ w ∈ ws, ∀ c ∈ w, c.toNat < 128 ∧ c ≠ 10) : ∀ c ∈ wordsT t ws ws.length, c.toNat < 128 ∧ c ≠ 10 := by
  intro c hc
  unfold wordsT at hc
  obtain ⟨k, hk, hc⟩ := List.mem_flatMap.1 hc
  unfold midT at hc
  rcases List.mem_append.1 hc with hc | hc
  · split at hc
    · rcases List.mem_cons.1 hc with rfl | hc
      · exact ⟨by decide, by decide⟩
      · exact ((blk_all (t / 4)).2 c hc).2
    · cases hc
  · rw [List.getElem?_eq_getElem (List.mem_range.1 hk)] at hc
    exact h _ (List.getElem_mem _) c hc
theorem row_chars (t : Nat) {ws : List (List UInt8)} (h : ∀ w ∈ ws, ∀ c ∈ w, c.toNat < 128 ∧ c ≠ 10) : ∀ l ∈ rowL t ws, ∀ c ∈ l, c.toNat < 128 ∧ c ≠ 10 := by
  intro l hl c hc
  unfold rowL at hl
  rcases List.mem_cons.1 hl with rfl | hl
  · rcases List.mem_append.1 hc with hc | hc
    · exact ((blk_all t).2 c hc).2
    · rcases List.mem_append.1 hc with hc | hc
      · exact words_chars t h c hc
      · exact ((blk_all (t / 16)).2 c hc).2
  · split at hl
    · rcases List.mem_cons.1 hl with rfl | hl
      · have : remT.all (fun c => decide (c.toNat < 128 ∧ c ≠ 10)) = true := by decide
        exact of_decide_eq_true (List.all_eq_true.1 this c hc)
      · rw [List.mem_singleton] at hl
        subst hl
        cases hc
    · cases hl
/-! ### how the lines are read -/
theorem goW_cons_eq (l : List ByteArray) {t t' : List (List ByteArray)} (h : ∀ r, goW t r = goW t' r) (r : RdV) : goW (l :: t) r = goW (l :: t') r := by
  show (if skipW l = true then goW t r else (lineV r l).bind (goW t)) = (if skipW l = true then goW t' r else (lineV r l).bind (goW t'))
  rw [h r, show goW t = goW t' from funext h]
theorem goW_skips {t : List (List ByteArray)} : ∀ {s : List (List ByteArray)}, (∀ l ∈ s, skipW l = true) → ∀ r, goW (s ++ t) r = goW t r
  | [], _, _ => rfl
  | l :: s, h, r => by
    show (if skipW l = true then goW (s ++ t) r else _) = _
    rw [if_pos (h l (List.mem_cons_self ..))]
    exact goW_skips (fun x hx => h x (List.mem_cons_of_mem _ hx)) r
theorem rem_skip : skipW (wdsV (bOf remT)) = true ∧ skipW (wdsV (bOf [])) = true := ⟨by kernel_rfl, by kernel_rfl⟩
theorem goW_rows (tt : Nat → Nat) (W : Nat → List (List UInt8)) {t t' : List (List ByteArray)} (ht : ∀ r, goW t r = goW t' r) : ∀ (is : List Nat), (∀ i ∈ is, (∀ w ∈ W i, WordT w) ∧ ∀ w ∈ W i, ∀ c ∈ w, c.toNat < 128 ∧ c ≠ 10) → ∀ r,
    goW ((is.flatMap fun i => (rowL (tt i) (W i)).map fun l => wdsV (bOf l)) ++ t) r = goW (is.map (fun i => (W i).map bOf) ++ t') r
  | [], _, r => ht r
  | i :: is, h, r => by
    obtain ⟨h1, h2⟩ := h i (List.mem_cons_self ..)
    have ih := goW_rows tt W ht is (fun j hj => h j (List.mem_cons_of_mem _ hj))
    have e1 : wdsV (bOf (blk (tt i) ++ (wordsT (tt i) (W i) (W i).length ++ blk (tt i / 16)))) = (W i).map bOf :=
      wds_line (fun c hc => (row_chars (tt i) h2 _ (List.mem_cons_self ..) c hc).1) (row_spaced (tt i) h1)
    rw [List.flatMap_cons, List.map_cons, List.append_assoc]
    unfold rowL
    rw [List.map_cons, e1, List.cons_append]
    refine goW_cons_eq _ (fun r => ?_) r
    rw [goW_skips (fun l hl => ?_)]
    · exact ih r
    · obtain ⟨x, hx, rfl⟩ := List.mem_map.1 hl
      split at hx
      · rcases List.mem_cons.1 hx with rfl | hx
        · exact rem_skip.1
        · rw [List.mem_singleton] at hx
          subst hx
          exact rem_skip.2
      · cases hx
/-- The lines of a printed module. -/
theorem toks_line {m : ModV} (hF : Fine m) : ∀ p ∈ toks m, Spaced (lnT p) p.2 ∧ (∀ c ∈ lnT p, c.toNat < 128 ∧ c ≠ 10) ∧ (∀ w ∈ p.2, TokT w) := by
  intro p hp
  obtain ⟨hw, _⟩ := lines_ok hF p hp
  have h2 : ∀ c ∈ (if p.1 = true then [32, 32] else ([] : List UInt8)), c = 32 := by
    intro c hc
    split at hc
    · simpa using hc
    · cases hc
  refine ⟨spaced_lead (fun c hc => by rw [h2 c hc]; decide) (spaced_join fun w hw' => (hw w hw').word), fun c hc => ?_, hw⟩
  have hj : ∀ l : List (List UInt8), (∀ w ∈ l, TokT w) → ∀ c ∈ Lib.join l [32], c = 32 ∨ (33 ≤ c.toNat ∧ c.toNat ≤ 126) := by
    intro l hl c hc
    cases l with
    | nil => cases hc
    | cons a l =>
      rw [Lib.join_cons] at hc
      rcases List.mem_append.1 hc with hc | hc
      · exact .inr ((hl a (List.mem_cons_self ..)).2 c hc)
      · unfold Lib.joinTail at hc
        obtain ⟨w, hw, hc⟩ := List.mem_flatten.1 hc
        obtain ⟨v, hv, rfl⟩ := List.mem_map.1 hw
        rcases List.mem_append.1 hc with hc | hc
        · exact .inl (by simpa using hc)
        · exact .inr ((hl v (List.mem_cons_of_mem _ hv)).2 c hc)
  have : c = 32 ∨ (33 ≤ c.toNat ∧ c.toNat ≤ 126) := (List.mem_append.1 hc).elim (fun h => .inl (h2 c h)) (hj p.2 hw c)
  rcases this with rfl | h
  · exact ⟨by decide, by decide⟩
  · exact ⟨by omega, fun e => by subst e; exact absurd h.1 (by decide)⟩
theorem tok_chars {w : List UInt8} (h : TokT w) : ∀ c ∈ w, c.toNat < 128 ∧ c ≠ 10 := fun c hc => by
  have := h.2 c hc
  exact ⟨by omega, fun e => by subst e; exact absurd this.1 (by decide)⟩
def printL (m : ModV) : List (List UInt8) := linG [] (printT m)
theorem printL_eq {m : ModV} (hF : Fine m) : printL m = (toks m).map lnT ++ [[]] := by
  unfold printL
  rw [printT_toks, show (toks m).flatMap (fun p => lnT p ++ [10]) = ((toks m).map lnT).flatMap (· ++ [10]) by rw [List.flatMap_map]]
  exact linG_flat _ (fun l hl c hc => by obtain ⟨p, hp, rfl⟩ := List.mem_map.1 hl; exact ((toks_line hF p hp).2.1 c hc).2)
theorem printL_words {m : ModV} (hF : Fine m) : (printL m).map (wdsG []) = (toks m).map (·.2) ++ [[]] := by
  rw [printL_eq hF, List.map_append, List.map_map]
  congr 1
  exact List.map_congr_left fun p hp => wdsG_spaced (toks_line hF p hp).1
theorem range_words (ls : List (List UInt8)) : (List.range ls.length).map (fun i => (lineOf ls i).map bOf) = (ls.map (wdsG [])).map (·.map bOf) := by
  refine List.ext_getElem (by simp) fun i h1 h2 => ?_
  have hi : i < ls.length := by simpa using h1
  simp [lineOf, List.getElem?_eq_getElem hi]
theorem lineOf_tok {m : ModV} (hF : Fine m) (i : Nat) : ∀ w ∈ lineOf (printL m) i, TokT w := by
  intro w hw
  unfold lineOf at hw
  cases hl : (printL m)[i]? with
  | none => rw [hl] at hw; cases hw
  | some l =>
    rw [hl] at hw
    have : wdsG [] l ∈ (printL m).map (wdsG []) := List.mem_map_of_mem (List.mem_of_getElem? hl)
    rw [printL_words hF] at this
    rcases List.mem_append.1 this with h | h
    · obtain ⟨p, hp, e⟩ := List.mem_map.1 h
      have hw : w ∈ wdsG [] l := hw
      rw [← e] at hw
      exact (toks_line hF p hp).2.2 w hw
    · rw [List.mem_singleton] at h
      have hw : w ∈ wdsG [] l := hw
      rw [h] at hw
      cases hw
theorem blank_parse {m : ModV} (hE : modE m = 0) (hN : ModNum m) (ts : List UInt8) (hs : (blankT ts (printL m) (printL m).length).length ≤ 1048576) :
    parseV (bOf (blankT ts (printL m) (printL m).length)) = (m, 0, 0) := by
  have hF := fine_of hE hN
  obtain ⟨st, hst, hg⟩ := goW_toks hF
  have hok : ∀ i ∈ List.range (printL m).length, (∀ w ∈ lineOf (printL m) i, WordT w) ∧ ∀ w ∈ lineOf (printL m) i, ∀ c ∈ w, c.toNat < 128 ∧ c ≠ 10 := fun i _ =>
    ⟨fun w hw => (lineOf_tok hF i w hw).word, fun w hw => tok_chars (lineOf_tok hF i w hw)⟩
  have hb : blankT ts (printL m) (printL m).length = ((List.range (printL m).length).flatMap fun i => rowL (turnAt ts i) (lineOf (printL m) i)).flatMap (· ++ [10]) := by
    unfold blankT
    rw [List.flatMap_assoc]
    congr 1
    funext i
    exact rowT_eq _ _
  refine parseV_ok (st := st) (by show (List.toArray _).size ≤ _; rw [List.size_toArray]; exact hs) ?_ hst hE
  rw [hb, linesV_flat _ (fun l hl c hc => by
    obtain ⟨i, hi, hl⟩ := List.mem_flatMap.1 hl
    exact (row_chars _ (hok i hi).2 l hl c hc).2)]
  rw [List.map_append, List.map_append, List.map_map, List.map_flatMap]
  have h0 : ∀ r, goW ([([] : List UInt8)].map bOf |>.map wdsV) r = goW [] r := fun r => by
    show (if skipW (wdsV (bOf [])) = true then goW [] r else _) = _
    rw [if_pos rem_skip.2]
  have hr := goW_rows (turnAt ts) (lineOf (printL m)) h0 (List.range (printL m).length) hok rd0
  rw [show (fun a => List.map (wdsV ∘ bOf) (rowL (turnAt ts a) (lineOf (printL m) a))) = fun i => (rowL (turnAt ts i) (lineOf (printL m) i)).map fun l => wdsV (bOf l) from rfl, hr, List.append_nil, range_words, printL_words hF, List.map_append, List.map_map]
  rw [show ((fun l : List (List UInt8) => l.map bOf) ∘ fun p : Bool × List (List UInt8) => p.2) = fun p => p.2.map bOf from rfl, goW_app _ _ _ _ hg]
  rfl
end Go.Proofs.YtebgikflpgcnlaaGreatDoor
