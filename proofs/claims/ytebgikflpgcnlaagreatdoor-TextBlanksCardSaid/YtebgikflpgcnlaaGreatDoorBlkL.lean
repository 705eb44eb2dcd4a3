/- How long the text with blanks is: a small module's stays below the bound of texts. No program in sight. -/
import Derived.Test.YtebgikflpgcnlaaGreatDoorBlkP
import Derived.Test.YtebgikflpgcnlaaGreatDoorT09
namespace Go.Proofs.YtebgikflpgcnlaaGreatDoor
set_option linter.unusedVariables false
set_option linter.unusedSimpArgs false
def wl (ws : List (List UInt8)) : Nat := sumBy (fun w => w.length + 4) ws
theorem sumBy_cons {α : Type} (f : α → Nat) (x : α) (l : List α) : sumBy f (x :: l) = f x + sumBy f l := by simp [sumBy]
theorem sumBy_app {α : Type} (f : α → Nat) (a b : List α) : sumBy f (a ++ b) = sumBy f a + sumBy f b := by simp [sumBy]
theorem sumBy_map {α β : Type} (f : β → Nat) (g : α → β) (l : List α) : sumBy f (l.map g) = sumBy (fun x => f (g x)) l := by simp [sumBy, Function.comp_def]
theorem sumBy_flat {α β : Type} (f : β → Nat) (g : α → List β) : ∀ l : List α, sumBy f (l.flatMap g) = sumBy (fun x => sumBy f (g x)) l
  | [] => rfl
  | x :: l => by rw [List.flatMap_cons, sumBy_app, sumBy_cons, sumBy_flat f g l]
theorem sumBy_le {α : Type} {f g : α → Nat} : ∀ {l : List α}, (∀ x ∈ l, f x ≤ 100 * (1 + g x)) → sumBy f l ≤ 100 * (l.length + sumBy g l)
  | [], _ => Nat.zero_le _
  | x :: l, h => by
    have h1 := h x (List.mem_cons_self ..)
    have h2 := sumBy_le (fun y hy => h y (List.mem_cons_of_mem _ hy)) (l := l)
    rw [sumBy_cons, sumBy_cons, List.length_cons]
    omega
theorem sumBy_le0 {α : Type} {f : α → Nat} : ∀ {l : List α}, (∀ x ∈ l, f x ≤ 100) → sumBy f l ≤ 100 * l.length
  | [], _ => Nat.zero_le _
  | x :: l, h => by
    have h1 := h x (List.mem_cons_self ..)
    have h2 := sumBy_le0 (fun y hy => h y (List.mem_cons_of_mem _ hy)) (l := l)
    rw [sumBy_cons, List.length_cons]
    omega
theorem sumBy_mono {α : Type} {f g : α → Nat} : ∀ {l : List α}, (∀ x ∈ l, f x ≤ g x) → sumBy f l ≤ sumBy g l
  | [], _ => Nat.le_refl _
  | x :: l, h => by
    have h1 := h x (List.mem_cons_self ..)
    have h2 := sumBy_mono (fun y hy => h y (List.mem_cons_of_mem _ hy)) (l := l)
    rw [sumBy_cons, sumBy_cons]
    omega
theorem flat_sum {α : Type} (f : α → List UInt8) : ∀ l : List α, (l.flatMap f).length = sumBy (fun x => (f x).length) l
  | [] => rfl
  | x :: l => by rw [List.flatMap_cons, List.length_append, sumBy_cons, flat_sum f l]
theorem linG_len : ∀ l cur : List UInt8, (linG cur l).length ≤ l.length + 1
  | [], cur => Nat.le_refl _
  | b :: l, cur => by
    show (if b = 10 then cur :: linG [] l else linG (cur ++ [b]) l).length ≤ _
    split
    · have := linG_len l []; rw [List.length_cons, List.length_cons]; omega
    · have := linG_len l (cur ++ [b]); rw [List.length_cons]; omega
theorem words_len (t : Nat) (ws : List (List UInt8)) : (wordsT t ws ws.length).length ≤ wl ws := by
  cases ws with
  | nil => exact Nat.zero_le _
  | cons w r =>
    rw [wordsT_cons, List.length_append, flat_sum]
    unfold wl
    rw [sumBy_cons]
    have h := sumBy_mono (f := fun x => (32 :: (blk (t / 4) ++ x)).length) (g := fun w => w.length + 4) (l := r) (fun x _ => by
      have := (blk_all (t / 4)).1
      rw [List.length_cons, List.length_append]
      omega)
    omega
theorem words_len_ge (t : Nat) : ∀ (ws : List (List UInt8)), (∀ w ∈ ws, w ≠ []) → ws.length ≤ (wordsT t ws ws.length).length
  | [], _ => Nat.zero_le _
  | w :: r, h => by
    rw [wordsT_cons, List.length_append, flat_sum, List.length_cons]
    have h1 : 1 ≤ w.length := by
      have := h w (List.mem_cons_self ..)
      cases w with
      | nil => exact absurd rfl this
      | cons _ _ => simp
    have h2 : ∀ l : List (List UInt8), l.length ≤ sumBy (fun x => (32 :: (blk (t / 4) ++ x)).length) l := by
      intro l
      induction l with
      | nil => exact Nat.zero_le _
      | cons x l ih => rw [sumBy_cons, List.length_cons, List.length_cons]; omega
    have := h2 r
    omega
theorem row_len (t : Nat) (ws : List (List UInt8)) : (rowT t ws).length ≤ wl ws + 22 := by
  have h1 := (blk_all t).1
  have h2 := (blk_all (t / 16)).1
  have h3 := words_len t ws
  have h4 : (if 192 ≤ t then remT ++ [10, 10] else ([] : List UInt8)).length ≤ 15 := by split <;> decide
  unfold rowT tailT
  rw [List.length_append, List.length_append, List.length_append, List.length_cons]
  omega
theorem range_map {β : Type} (f : List UInt8 → β) (ls : List (List UInt8)) : (List.range ls.length).map (fun i => f (ls[i]?.getD [])) = ls.map f := by
  refine List.ext_getElem (by simp) fun i h1 h2 => ?_
  have hi : i < ls.length := by simpa using h1
  simp [List.getElem?_eq_getElem hi]
theorem blank_sum (ts : List UInt8) (ls : List (List UInt8)) : (blankT ts ls ls.length).length ≤ sumBy (fun ws => wl ws + 22) (ls.map (wdsG [])) := by
  unfold blankT
  rw [flat_sum, ← range_map (wdsG []) ls, sumBy_map]
  exact sumBy_mono (fun i _ => row_len _ _)
theorem blank_mono (ts : List UInt8) (ls : List (List UInt8)) {k n : Nat} (h : k ≤ n) : (blankT ts ls k).length ≤ (blankT ts ls n).length := by
  induction n with
  | zero => obtain rfl : k = 0 := by omega
            exact Nat.le_refl _
  | succ n ih =>
    by_cases hk : k = n + 1
    · subst hk; exact Nat.le_refl _
    · have := ih (by omega)
      rw [blankT_next, List.length_append]
      omega
theorem words_mono (t : Nat) (ws : List (List UInt8)) {k n : Nat} (h : k ≤ n) : (wordsT t ws k).length ≤ (wordsT t ws n).length := by
  induction n with
  | zero => obtain rfl : k = 0 := by omega
            exact Nat.le_refl _
  | succ n ih =>
    by_cases hk : k = n + 1
    · subst hk; exact Nat.le_refl _
    · have := ih (by omega)
      rw [wordsT_next, List.length_append]
      omega
theorem itoa_le20 {n : Int} (h : Rd.B63 n) : (Lib.itoa n).length ≤ 20 := by
  unfold Rd.B63 at h
  unfold Lib.itoa
  split
  · have := dec_len 18 n.natAbs (by omega)
    rw [List.length_cons]; omega
  · have := dec_len 18 n.toNat (by omega)
    omega
theorem side_len' (s : ByteArray) : (sideT s).length ≤ 1 + s.size := by
  have := side_len s
  rw [len_sz] at this
  exact this
def tokC (p : Bool × List (List UInt8)) : Nat := wl p.2 + 22
theorem wl_cons (w : List UInt8) (l : List (List UInt8)) : wl (w :: l) = w.length + 4 + wl l := by unfold wl; rw [sumBy_cons]
theorem wl_nil : wl [] = 0 := rfl
theorem wl_app (a b : List (List UInt8)) : wl (a ++ b) = wl a + wl b := by unfold wl; rw [sumBy_app]
theorem ins_cost {x : InsV} (h : insChk x = 0) (ha : Rd.B63 x.a) (hl : ∀ n ∈ x.l, Rd.B63 n) : tokC (true, insTok x) ≤ 100 * (1 + x.l.length) := by
  obtain ⟨r, hr, hm, hop⟩ := ins_row h
  have hw := of_decide_eq_true (List.all_eq_true.1 word_le r hm)
  have e1 : wordT x.op.toNat = r.word.data.toList := by unfold wordT; rw [hr]
  have h1 := itoa_le20 ha
  have h2 : wl (x.l.map Lib.itoa) ≤ 24 * x.l.length := by
    unfold wl
    rw [sumBy_map]
    have : ∀ l : List Int, (∀ n ∈ l, Rd.B63 n) → sumBy (fun n => (Lib.itoa n).length + 4) l ≤ 24 * l.length := by
      intro l
      induction l with
      | nil => intro _; exact Nat.zero_le _
      | cons n l ih =>
        intro h
        have h1 := itoa_le20 (h n (List.mem_cons_self ..))
        have h2 := ih (fun y hy => h y (List.mem_cons_of_mem _ hy))
        rw [sumBy_cons, List.length_cons]
        omega
    exact this x.l hl
  have h3 : wl (if takesT x.op.toNat ≠ 0 ∧ takesT x.op.toNat ≠ 3 then [Lib.itoa x.a] else []) ≤ 24 := by
    split
    · rw [wl_cons, wl_nil]; omega
    · rw [wl_nil]; omega
  unfold tokC insTok
  rw [wl_cons, wl_app, e1]
  omega
theorem fn_cost {f : FnV} (ht : Rd.B63 f.t) (hc : ∀ x ∈ f.code, insChk x = 0 ∧ Rd.B63 x.a ∧ ∀ n ∈ x.l, Rd.B63 n) : sumBy tokC (fnToks f) ≤ 100 * (1 + szFn f) := by
  have h1 := itoa_le20 ht
  have h2 := side_len' f.loc
  have h3 : sumBy (fun x => tokC (true, insTok x)) f.code ≤ 100 * (f.code.length + sumBy (fun i => i.l.length) f.code) := sumBy_le (fun x hx => ins_cost (hc x hx).1 (hc x hx).2.1 (hc x hx).2.2)
  unfold fnToks szFn szCode
  rw [sumBy_cons, sumBy_map]
  have h4 : tokC (false, fnTok f) ≤ 8 + 24 + (5 + f.loc.size) + 22 := by
    unfold tokC fnTok
    simp only [wl_cons, wl_nil, len_lits.2.2.2.2.2.1]
    omega
  omega
theorem blank_len {m : ModV} (hE : modE m = 0) (hN : ModNum m) (hsz : szMod m ≤ 4096) (ts : List UInt8) : (blankT ts (printL m) (printL m).length).length ≤ 1048576 := by
  have hF := fine_of hE hN
  have h0 := blank_sum ts (printL m)
  rw [printL_words hF, sumBy_app, sumBy_map] at h0
  have e0 : sumBy (fun ws => wl ws + 22) [([] : List (List UInt8))] = 22 := rfl
  have ec : sumBy (fun p : Bool × List (List UInt8) => wl p.2 + 22) (toks m) = sumBy tokC (toks m) := rfl
  rw [e0, ec] at h0
  have t1 : sumBy (fun x => tokC (false, typeTok x)) m.types ≤ 100 * (m.types.length + sumBy (fun t => t.p.size + t.r.size) m.types) := sumBy_le (fun x _ => by
    have h1 := side_len' x.p
    have h2 := side_len' x.r
    unfold tokC typeTok
    simp only [wl_cons, wl_nil, len_lits.2.1, List.length_cons, List.length_nil]
    omega)
  have t2 : sumBy (fun x => tokC (false, hostTok x)) m.hosts ≤ 100 * m.hosts.length := sumBy_le0 (fun x hx => by
    have h1 := itoa_le20 (hF.hosts x hx)
    unfold tokC hostTok
    simp only [wl_cons, wl_nil, len_lits.2.2.1]
    omega)
  have t3 : sumBy (fun x => tokC (false, globTok x)) m.globs ≤ 100 * m.globs.length := sumBy_le0 (fun x hx => by
    have h1 := itoa_le20 (signB_lt (hF.globs x hx).2.2 (hF.globs x hx).2.1)
    have h3 : (if x.m then varT else constT).length ≤ 5 := by cases x.m <;> decide
    unfold tokC globTok
    simp only [wl_cons, wl_nil, len_lits.2.2.2.1, List.length_cons, List.length_nil]
    omega)
  have t4 : tokC (false, memTok m) ≤ 100 := by
    have h1 := itoa_le20 hF.first
    have h2 := itoa_le20 hF.most
    unfold tokC memTok
    simp only [wl_cons, wl_nil, len_lits.2.2.2.2.1]
    omega
  have t5 : sumBy (fun f => sumBy tokC (fnToks f)) m.fns ≤ 100 * (m.fns.length + sumBy szFn m.fns) := sumBy_le (fun f hf => fn_cost (hF.fns f hf).2.1 (hF.fns f hf).2.2)
  have t6 : sumBy (fun x => tokC (false, datTok x)) m.dat ≤ 100 * (m.dat.length + sumBy (fun d => d.b.length) m.dat) := sumBy_le (fun x hx => by
    have h1 := itoa_le20 (hF.dat x hx).2
    have h2 := hex_len x.b
    unfold tokC datTok
    simp only [wl_cons, wl_nil, len_lits.2.2.2.2.2.2.1]
    omega)
  have t7 : sumBy (fun x => tokC (false, expTok x)) m.exps ≤ 100 * (m.exps.length + sumBy (fun e => e.n.size) m.exps) := sumBy_le (fun x hx => by
    have h1 := itoa_le20 (hF.exps x hx).2.2
    have h2 := len_sz x.n
    unfold tokC expTok
    simp only [wl_cons, wl_nil, len_lits.2.2.2.2.2.2.2]
    omega)
  have t0 : tokC (false, [flagonT]) = 32 := rfl
  unfold toks headTok bodyTok at h0
  simp only [sumBy_app, sumBy_cons, sumBy_map, sumBy_flat] at h0
  have e9 : sumBy tokC ([] : List (Bool × List (List UInt8))) = 0 := rfl
  rw [e9] at h0
  unfold szMod at hsz
  omega
end Go.Proofs.YtebgikflpgcnlaaGreatDoor
