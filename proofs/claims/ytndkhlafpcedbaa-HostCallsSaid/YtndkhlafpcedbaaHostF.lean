/- host.Host: Call. -/
import Derived.Test.YtndkhlafpcedbaaHostE
import Derived.Test.YtndkhlafpcedbaaTypesD
namespace Go.Proofs.Ytndkhlafpcedbaa
set_option linter.unusedVariables false
open Go.RowKit Go.Shelf
attribute [local go_sem] Oper.semAt_some
theorem blk_own {X Y : World} {g : Nat} {t : TypeId} {xs : List Value} {row : Option Nat} (h : Blk X g t xs) (hg : X.grownBy Y row) (hr : ∀ r, row = some r → ∃ o : Obj, X.heap[r]? = some o ∧ o.isCells = false) : Blk Y g t xs :=
  grown_blk hg h fun e => by
    obtain ⟨o, ho, hc⟩ := hr g e
    unfold Blk at h
    rw [h] at ho
    injection ho with ho
    subst ho
    cases hc
theorem ownsRow_own {X Y : World} {base size n : Nat} {e : TypeId} {v : Value} {xs : List Value} {row : Option Nat} (h : X.ownsRow base e size v n xs) (hg : X.grownBy Y row) (hr : ∀ r, row = some r → ∃ o : Obj, X.heap[r]? = some o ∧ o.isCells = false) : Y.ownsRow base e size v n xs :=
  h.kept hg (by
    rcases h.2 with ⟨hv, _⟩ | ⟨g, cap, cur, hv, _, hg2, _⟩
    · left; rw [hv]; rfl
    · right
      rw [hv]
      intro e'
      obtain ⟨o, ho, hc⟩ := hr g e'.symm
      rw [hg2] at ho
      injection ho with ho
      subst ho
      cases hc)
theorem grown_below {w X Y : World} {row : Option Nat} (hg : w.grownBy X row) (hb : Below w.heap.size X Y) : w.grownBy Y row :=
  ⟨hb.os.trans hg.os, hb.tape.trans hg.tape, hb.output.trans hg.output, Nat.le_trans hg.size hb.size, fun k hk hn => (hb.block k hk).trans (hg.block k hk hn)⟩
theorem grown_of_below {w X : World} {row : Option Nat} (hb : Below w.heap.size w X) : w.grownBy X row :=
  ⟨hb.os, hb.tape, hb.output, hb.size, fun k hk _ => hb.block k hk⟩
theorem grown_set {w X : World} {h : Nat} (hg : w.grownBy X (some h)) (i : Nat) (u : Value) : w.grownBy (X.setCell ⟨h, i, none⟩ u) (some h) :=
  ⟨hg.os, hg.tape, hg.output, by simpa [World.setCell] using hg.size, fun k hk hn => (Below.heap_setCell _ _ _ _ (fun e => hn (by rw [e]))).trans (hg.block k hk hn)⟩
theorem keepsFrom_below {X Y : World} (hb : Below X.heap.size X Y) (B : Nat) : KeepsFrom B X Y :=
  ⟨hb.size, fun k o _ hk _ => (hb.block k (Array.getElem?_eq_some_iff.1 hk).1).trans hk⟩
/-- What a call answers, and how much is taken then. -/
def callR (rs : List Rep) (t : Nat) (s : ByteArray) : (List Nat × Bool) × Nat :=
  match rs[t]? with
  | none => (([], false), t)
  | some r => if r.2 = true ∨ allB r.1 s.data.toList = false then (([], false), t + 1) else ((r.1, true), t + 1)
/-- What a reply answers. -/
def repR (r : Rep) (s : ByteArray) : List Nat × Bool := if r.2 = true ∨ allB r.1 s.data.toList = false then ([], false) else (r.1, true)
/-- How a call has left memory. -/
structure CallPost (rs : List Rep) (h b4 b5 base : Nat) (w : World) (A : Option Addr) (c : Nat) (r : List Nat × Bool) (t' : Nat) (W : World) : Prop where
  host : Blk W h 64 [.bool true, .slice A rs.length c, .int .i64 t']
  res : ∃ A' c', Blk W b4 52 [.slice A' r.1.length c'] ∧ W.ownsRow base 22 1 (.slice A' r.1.length c') r.1.length (r.1.map uv)
  ok : Blk W b5 4 [.bool r.2]
  grown : w.grownBy W (some h)
theorem CallPost.own {rs : List Rep} {h b4 b5 base : Nat} {w : World} {A : Option Addr} {c : Nat} {r : List Nat × Bool} {t' : Nat} {X Y : World} (H : CallPost rs h b4 b5 base w A c r t' X) {row : Option Nat} (hg : X.grownBy Y row) (hr : ∀ q, row = some q → w.heap.size ≤ q ∧ ∃ o : Obj, X.heap[q]? = some o ∧ o.isCells = false) : CallPost rs h b4 b5 base w A c r t' Y where
  host := blk_own H.host hg fun q e => (hr q e).2
  res := by
    obtain ⟨A', c', h1, h2⟩ := H.res
    exact ⟨A', c', blk_own h1 hg fun q e => (hr q e).2, ownsRow_own h2 hg fun q e => (hr q e).2⟩
  ok := blk_own H.ok hg fun q e => (hr q e).2
  grown := ⟨hg.os.trans H.grown.os, hg.tape.trans H.grown.tape, hg.output.trans H.grown.output, Nat.le_trans H.grown.size hg.size, fun k hk hn =>
    (hg.block k (Nat.lt_of_lt_of_le hk H.grown.size) (fun e => by have := (hr k e.symm).1; omega)).trans (H.grown.block k hk hn)⟩
theorem results_two {fn : Func} {p q : Tmp} {t u : TypeId} (h : fn.results = #[.cell p t, .cell q u]) (tmps : Array Value) (P : Program) (w : World) :
    (results fn tmps).run P w = ((asAddr (tmps.getD p undef)).run P w).andThen fun a w₁ => ((loadVar t a).run P w₁).andThen fun v w₂ => ((asAddr (tmps.getD q undef)).run P w₂).andThen fun a' w₃ => ((loadVar u a').run P w₃).andThen fun v' w₄ => .ok (.tuple #[v, v']) w₄ := by
  simp only [results, h]
  simp [Sem.run_bind, Result.andThen]
theorem load_w1 {W : World} {g : Nat} {v : Value} (h : Blk W g 52 [v]) : (loadVar 52 ⟨g, 0, none⟩).run Try.prog W = .ok v W := by
  have hc : W.cell? ⟨g, 0, none⟩ = some v := h.cell 0
  go_simp
theorem load_b1 {W : World} {g : Nat} {v : Value} (h : Blk W g 4 [v]) : (loadVar 4 ⟨g, 0, none⟩).run Try.prog W = .ok v W := by
  have hc : W.cell? ⟨g, 0, none⟩ = some v := h.cell 0
  go_simp
theorem call_fin {rs : List Rep} {h b4 b5 base : Nat} {w : World} {A : Option Addr} {c : Nat} {r : List Nat × Bool} {t' : Nat} {V : World} {D : Nat} {tmps : Array Value} (hp : CallPost rs h b4 b5 base w A c r t' V)
    (hD : w.heap.size ≤ D) (hK : V.heap[D]? = some (.deferred (some []))) (h4 : tmps.getD 4 undef = .pointer (some ⟨b4, 0, none⟩)) (h5 : tmps.getD 5 undef = .pointer (some ⟨b5, 0, none⟩))
    {hi : Nat} (hscr : (rScr true).R w (h + 1) hi [.slice A rs.length c] rs) (hhi : hi ≤ w.heap.size) (hb : w.heap.size ≤ base) {r0 : (List Nat × Bool) × Nat} (hr0 : r0 = (r, t')) :
    bodyPostM Fence.wide 6 Try.prog Try.f38 (fun e w' => ∃ A' c', e = .returned (.tuple #[.slice A' r0.1.1.length c', .bool r0.1.2]) ∧
      w'.ownsRow w.heap.size 22 1 (.slice A' r0.1.1.length c') r0.1.1.length (r0.1.1.map uv) ∧ HostAt w' h hi rs r0.2 ∧ w.grownBy w' (some h)) Exit.ret { tmps := tmps, defers := [{ target := Target.collected D, args := #[] }] } V := by
  subst hr0
  have hp2 := hp.own (grownBy_putObj' V D (.deferred none)) (fun q e => by cases e; exact ⟨hD, _, hK, rfl⟩)
  refine ⟨by simp, .inl ⟨_, _, rfl, run_takeDeferred hK, ?_⟩⟩
  obtain ⟨A', c', e1, e2⟩ := hp2.res
  refine ⟨.tuple #[.slice A' r.1.length c', .bool r.2], ?_, A', c', rfl, e2.mono hb, ⟨A, c, hp2.host, ?_⟩, hp2.grown⟩
  · show (results _ tmps).run _ _ = _
    rw [results_two rfl]
    simp only [h4, h5, asAddr, Sem.run_pure, Result.andThen, load_w1 e1, load_b1 hp2.ok]
  · exact Rd.grown hscr hp2.grown hhi (fun k e => by injection e with e; omega)
set_option maxRecDepth 100000 in
set_option maxHeartbeats 4000000 in
theorem host_Call (h hi : Nat) (rs : List Rep) (t : Nat) (s : ByteArray) (w : World) (hh : HostAt w h hi rs t) (hhi : hi ≤ w.heap.size) (hle : RepsLe rs) (ht : t < 9223372036854775808) (h47 : s.size ≤ 140737488351232) :
    Calls Try.prog 38 #[.pointer (some ⟨h, 0, none⟩), .string s] w fun e w' => ∃ A' c', e = .returned (.tuple #[.slice A' (callR rs t s).1.1.length c', .bool (callR rs t s).1.2]) ∧
      w'.ownsRow w.heap.size 22 1 (.slice A' (callR rs t s).1.1.length c') (callR rs t s).1.1.length ((callR rs t s).1.1.map uv) ∧ HostAt w' h hi rs (callR rs t s).2 ∧ w.grownBy w' (some h) := by
  obtain ⟨A, c, hblk, hscr0⟩ := hh
  have hscr := (rScr true).more (Nat.le_refl _) hhi hscr0
  have hhlt := hblk.lt
  obtain ⟨hd, hhd⟩ : ∃ hd : Fin rs.length → Value, ∀ k : Fin rs.length, ∃ b o, A = some ⟨b, o, none⟩ ∧ b < w.heap.size ∧ w.cell? ⟨b, o + k.val * 2, none⟩ = some (hd k) ∧ w.cell? ⟨b, o + k.val * 2 + 1, none⟩ = some (.bool rs[k].2) ∧ (Rd.u64.sl true).R w (h + 1) w.heap.size [hd k] rs[k].1 := by
    have : ∀ k : Fin rs.length, ∃ v : Value, ∃ b o, A = some ⟨b, o, none⟩ ∧ b < w.heap.size ∧ w.cell? ⟨b, o + k.val * 2, none⟩ = some v ∧ w.cell? ⟨b, o + k.val * 2 + 1, none⟩ = some (.bool rs[k].2) ∧ (Rd.u64.sl true).R w (h + 1) w.heap.size [v] rs[k].1 := fun k => by
      obtain ⟨b, o, A2, c2, e, _, hlt, h0, h1, hw⟩ := scr_cell hscr (k := k.val) (r := rs[k]) (List.getElem?_eq_getElem k.isLt)
      exact ⟨_, b, o, e, hlt, h0, h1, hw⟩
    exact ⟨fun k => Classical.choose (this k), fun k => Classical.choose_spec (this k)⟩
  have Hhd := Lib.hid hhd; clear hhd
  have Hblk := Lib.hid hblk; clear hblk
  have Hscr := Lib.hid hscr0; clear hscr hscr0
  have Hle := Lib.hid hle.2
  have hle1 := hle.1; clear hle
  obtain ⟨W4, hW4⟩ : ∃ W4, W4 = (((w.alloc (.cells #[.pointer (some ⟨h, 0, none⟩)] 49)).alloc (.cells #[.string s] 9)).alloc (.cells #[.slice none 0 0] 52)).alloc (.cells #[.bool false] 4) := ⟨_, rfl⟩
  have hB4 : Below w.heap.size w W4 := by rw [hW4]; exact ((((Below.refl _ _).alloc (Nat.le_refl _) _).alloc (by simp) _).alloc (by simp; omega) _).alloc (by simp; omega) _
  have hs4 : W4.heap.size = w.heap.size + 4 := by rw [hW4]; simp
  have hx0 : Blk W4 w.heap.size 49 [.pointer (some ⟨h, 0, none⟩)] := by rw [hW4]; exact (((Blk.new w 49 [.pointer (some ⟨h, 0, none⟩)]).alloc _).alloc _).alloc _
  have hx1 : Blk W4 (w.heap.size + 1) 9 [.string s] := by
    rw [hW4]
    have := ((Blk.new (w.alloc (.cells #[.pointer (some ⟨h, 0, none⟩)] 49)) 9 [.string s]).alloc (.cells #[.slice none 0 0] 52)).alloc (.cells #[.bool false] 4)
    rwa [World.size_alloc] at this
  have hx2 : Blk W4 (w.heap.size + 1 + 1) 52 [.slice none 0 0] := by
    rw [hW4]
    have := (Blk.new ((w.alloc (.cells #[.pointer (some ⟨h, 0, none⟩)] 49)).alloc (.cells #[.string s] 9)) 52 [.slice none 0 0]).alloc (.cells #[.bool false] 4)
    rwa [World.size_alloc, World.size_alloc] at this
  have hx3 : Blk W4 (w.heap.size + 1 + 1 + 1) 4 [.bool false] := by
    rw [hW4]
    have := Blk.new (((w.alloc (.cells #[.pointer (some ⟨h, 0, none⟩)] 49)).alloc (.cells #[.string s] 9)).alloc (.cells #[.slice none 0 0] 52)) 4 [.bool false]
    rwa [World.size_alloc, World.size_alloc, World.size_alloc] at this
  have hblk4 : Blk W4 h 64 [.bool true, .slice A rs.length c, .int .i64 t] := Hblk.out.below hB4 hhlt
  have hc0 : W4.cell? ⟨h, 0, none⟩ = some (.bool true) := hblk4.cell 0
  rw [hW4] at hc0
  refine (callsIn_wide (n := 6)).1 ?_
  refine callsIn_of_wp_marks Try.func38 rfl trivial ?_ rfl
  simp only [Try.ntmps38, List.size_toArray, List.length_cons, List.length_nil, Nat.reduceAdd, Nat.reduceSub, Array.replicate_succ, Array.replicate_zero, List.push_toArray, List.append_toArray, List.nil_append, List.cons_append]
  gi_wp2_with (refine ⟨trivial, ?_⟩; gi_at_call 72; refine (host_left_in Fence.wide _ trivial rfl (some ⟨h, 0, none⟩) _).mono ?_; rintro e w' ⟨rfl, rfl⟩)
  rw [← hW4]
  clear hc0 hW4
  obtain ⟨W0, hW0⟩ : ∃ W0, W0 = W4.alloc (.cells #[.pointer (some ⟨h, 0, none⟩)] 49) := ⟨_, rfl⟩
  have hB0 : Below w.heap.size w W0 := by rw [hW0]; exact hB4.alloc hB4.size _
  have hs0 : W0.heap.size = w.heap.size + 5 := by rw [hW0, World.size_alloc, hs4]
  have hy0 : Blk W0 w.heap.size 49 [.pointer (some ⟨h, 0, none⟩)] := by rw [hW0]; exact hx0.alloc _
  have hy1 : Blk W0 (w.heap.size + 1) 9 [.string s] := by rw [hW0]; exact hx1.alloc _
  have hy2 : Blk W0 (w.heap.size + 1 + 1) 52 [.slice none 0 0] := by rw [hW0]; exact hx2.alloc _
  have hy3 : Blk W0 (w.heap.size + 1 + 1 + 1) 4 [.bool false] := by rw [hW0]; exact hx3.alloc _
  have hy4 : Blk W0 (w.heap.size + 1 + 1 + 1 + 1) 49 [.pointer (some ⟨h, 0, none⟩)] := by
    rw [hW0]
    have := Blk.new W4 49 [.pointer (some ⟨h, 0, none⟩)]
    rwa [hs4] at this
  have hblk0 : Blk W0 h 64 [.bool true, .slice A rs.length c, .int .i64 t] := by rw [hW0]; exact hblk4.alloc _
  rw [← hW0]
  clear hx0 hx1 hx2 hx3 hblk4 hB4 hs4 hW0
  have hreads : Reads rs hd t W0.heap.size h (w.heap.size + 1 + 1 + 1 + 1) A c W0 := by
    refine ⟨⟨hy4.lt, hy4.cell 0⟩, ⟨hblk0.lt, hblk0.cell 1, hblk0.cell 2⟩, fun k => ?_⟩
    obtain ⟨b, o, e, hlt, h0, h1, _⟩ := Hhd.out k
    exact ⟨b, o, e, by omega, (hB0.cell (p := ⟨b, _, none⟩) hlt).trans h0, (hB0.cell (p := ⟨b, _, none⟩) hlt).trans h1⟩
  have Hreads := Lib.hid hreads; clear hreads
  have HB0 := Lib.hid hB0; clear hB0
  have Hs0 := Lib.hid hs0; clear hs0
  have Hy0 := Lib.hid hy0; clear hy0
  have Hy1 := Lib.hid hy1; clear hy1
  have Hy2 := Lib.hid hy2; clear hy2
  have Hy3 := Lib.hid hy3; clear hy3
  have Hblk0 := Lib.hid hblk0; clear hblk0 hy4
  refine wpIn_rangeFunc_ownH rfl (by omega) (gf := 95) (lb := #[.pointer (some ⟨w.heap.size + 1 + 1 + 1 + 1, 0, none⟩)]) rfl trivial (enters_of Try.func95 (by kernel_rfl) rfl)
    (left1_stops (6 - 1) (by omega) rs hd t W0.heap.size h (w.heap.size + 1 + 1 + 1 + 1) A c W0 hle1 ht (Nat.le_refl _) Hreads.out) belowK_t (belowK_b (Nat.le_refl _)) (Below.refl _ _) (fun _ => rfl)
    (fun pre W => pre = [] ∧ Below W0.heap.size W0 W)
    (fun cd pre W => ∃ k : Fin rs.length, (cd = .ret ∧ pre = [k]) ∧ CallPost rs h (w.heap.size + 1 + 1) (w.heap.size + 1 + 1 + 1) W0.heap.size w A c (repR rs[k] s) (t + 1) W)
    (OwnFrom.and (ownFrom_pure _ _) (ownFrom_below (Nat.le_refl _) (Nat.le_refl _)))
    (fun cd pre X Y row hs hg hr => by
      obtain ⟨k, h1, h2⟩ := hs
      exact ⟨k, h1, h2.own hg fun q e => ⟨Nat.le_trans HB0.out.size (hr q e).1, (hr q e).2⟩⟩)
    ⟨rfl, Below.refl _ _⟩
    (fun x a' W => ∃ Bx, W0.heap.size ≤ Bx ∧ Blk W Bx 54 [hd x, .bool rs[x].2] ∧ a' = { tmps := #[.pointer (some ⟨h, 0, none⟩), .string s, .pointer (some ⟨w.heap.size, 0, none⟩), .pointer (some ⟨w.heap.size + 1, 0, none⟩), .pointer (some ⟨w.heap.size + 1 + 1, 0, none⟩), .pointer (some ⟨w.heap.size + 1 + 1 + 1, 0, none⟩), .pointer (some ⟨Bx, 0, none⟩), .pointer (some ⟨h, 0, none⟩), .bool false, .bool false, .pointer (some ⟨h, 0, none⟩), .pointer (some ⟨h, 0, none⟩), .pointer (some ⟨h, 0, none⟩), .bool true, .bool false, .bool false, .pointer (some ⟨h, 0, none⟩), .func (.func 95) #[] #[.pointer (some ⟨w.heap.size + 1 + 1 + 1 + 1, 0, none⟩)], .agg #[hd x, .bool rs[x].2], undef, undef, undef, undef, undef, undef, undef, undef, undef, undef, undef, undef, undef, undef, undef, undef, undef, undef, undef], defers := [] })
    (fun x a' _ X Y row hs hg hr => by
      obtain ⟨Bx, e1, e2, e3⟩ := hs
      exact ⟨Bx, e1, blk_own e2 hg fun r e => (hr r e).2, e3⟩)
    ?assign ?body ?done ?stop
  case assign =>
    rintro l pre x W K ⟨hp, hB1⟩ hK
    have hx : ∃ A2 c2, hd x = .slice A2 rs[x].1.length c2 := by
      obtain ⟨_, _, _, _, _, _, hw⟩ := Hhd.out x
      exact slot_form hw
    obtain ⟨A2, c2, hx⟩ := hx
    unfold repV
    rw [hx] at hK ⊢
    gi_wp2
    exact hK _ _ ((KeepsOthers.alloc _ _).from _) ((Below.refl _ W).alloc hB1.size _) ⟨hp, hB1.alloc hB1.size _⟩ ⟨W.heap.size, hB1.size, Blk.new W 54 [_, _], rfl⟩
  case body =>
    rintro l pre x a' W hl _ ⟨rfl, hB1⟩ ⟨Bx, hBx, hxb, rfl⟩ hN
    have htl : t < rs.length := by simp at hN; omega
    have hti : (t : Int) < 4398046511102 := by omega
    have hsz0 := Hs0.out
    have hz0 := (Hy0.out.below hB1 Hy0.out.lt).cell 0
    have hz1 := (Hy1.out.below hB1 Hy1.out.lt).cell 0
    have Hz2 := Lib.hid (Hy2.out.below hB1 Hy2.out.lt)
    have Hz3 := Lib.hid (Hy3.out.below hB1 Hy3.out.lt)
    have Hzh := Lib.hid (Hblk0.out.below hB1 Hblk0.out.lt)
    have Hxb := Lib.hid hxb; clear hxb
    have HG0 : Hid (w.grownBy W (some h)) := Lib.hid (grown_of_below (HB0.out.trans (hB1.mono (by omega))))
    have Hz1b := Lib.hid (Hy1.out.below hB1 Hy1.out.lt)
    have HB1 := Lib.hid hB1; clear hB1
    have hc2 : W.cell? ⟨h, 2, none⟩ = some (.int .i64 t) := Hzh.out.cell 2
    have hf2 := Hzh.out.frozen 2
    obtain ⟨_, _, _, _, _, _, hw⟩ := Hhd.out x
    obtain ⟨A2, c2, hx⟩ := slot_form hw
    rw [hx] at Hxb hw ⊢
    have Hw := Lib.hid hw; clear hw
    have Hx := Lib.hid hx; clear hx
    obtain ⟨r, hr⟩ : ∃ r, r = rs[x] := ⟨_, rfl⟩
    rw [← hr] at Hxb Hw ⊢
    have hr8 : r.1.length * 8 ≤ 140737488351232 := Hle.out r (by rw [hr]; exact List.getElem_mem _)
    have Hr := Lib.hid hr; clear hr
    obtain ⟨ws, tr⟩ := r
    simp only at Hxb Hw hr8 ⊢
    have hhB : h ≠ Bx := by omega
    have Hzh1 := Lib.hid (Hzh.out.set 2 (.int .i64 ((t : Int) + 1)))
    have Hxb1 := Lib.hid (Hxb.out.far (p := ⟨h, 2, none⟩) (Ne.symm hhB) (.int .i64 ((t : Int) + 1)))
    have Hz21 := Lib.hid (Hz2.out.far (p := ⟨h, 2, none⟩) (show w.heap.size + 1 + 1 ≠ h by omega) (.int .i64 ((t : Int) + 1)))
    have Hz31 := Lib.hid (Hz3.out.far (p := ⟨h, 2, none⟩) (show w.heap.size + 1 + 1 + 1 ≠ h by omega) (.int .i64 ((t : Int) + 1)))
    have Hz11 := Lib.hid (Hz1b.out.far (p := ⟨h, 2, none⟩) (show w.heap.size + 1 ≠ h by omega) (.int .i64 ((t : Int) + 1)))
    have HG1 := Lib.hid (grown_set HG0.out 2 (.int .i64 ((t : Int) + 1)))
    have hb1 : (W.setCell ⟨h, 2, none⟩ (.int .i64 ((t : Int) + 1))).cell? ⟨Bx, 1, none⟩ = some (.bool tr) := Hxb1.out.cell 1
    have hb0 : (W.setCell ⟨h, 2, none⟩ (.int .i64 ((t : Int) + 1))).cell? ⟨Bx, 0, none⟩ = some (.slice A2 ws.length c2) := Hxb1.out.cell 0
    have hcs : (W.setCell ⟨h, 2, none⟩ (.int .i64 ((t : Int) + 1))).cell? ⟨w.heap.size + 1, 0, none⟩ = some (.string s) := Hz11.out.cell 0
    have hf4 := Hz21.out.frozen 0
    have hf5 := Hz31.out.frozen 0
    have hc4 : (W.setCell ⟨h, 2, none⟩ (.int .i64 ((t : Int) + 1))).cell? ⟨w.heap.size + 1 + 1, 0, none⟩ = some (.slice none 0 0) := Hz21.out.cell 0
    have hc5 : (W.setCell ⟨h, 2, none⟩ (.int .i64 ((t : Int) + 1))).cell? ⟨w.heap.size + 1 + 1 + 1, 0, none⟩ = some (.bool false) := Hz31.out.cell 0
    have HKF : Hid (KeepsFrom W0.heap.size W (W.setCell ⟨h, 2, none⟩ (.int .i64 ((t : Int) + 1)))) := Lib.hid ((KeepsOthers.setCell _ _ _).from _)
    cases tr with
    | true =>
      gi_wp2
      refine ⟨trivial, ?_⟩
      gi_wp2
      refine ⟨HKF.out.trans (((KeepsOthers.setCell _ _ _).from _).trans ((KeepsOthers.setCell _ _ _).from _)), x, ⟨rfl, rfl⟩, ?_⟩
      have hrr : repR rs[x] s = ([], false) := by rw [← Hr.out]; rfl
      rw [hrr]
      generalize W.setCell ⟨h, 2, none⟩ (.int .i64 ((t : Int) + 1)) = V1 at *
      refine ⟨?_, ⟨none, 0, ?_, World.ownsRow_nil _ _ _ _⟩, ?_, ?_⟩
      · exact (Hzh1.out.far (p := ⟨w.heap.size + 1 + 1, 0, none⟩) (show h ≠ w.heap.size + 1 + 1 by omega) _).far (p := ⟨w.heap.size + 1 + 1 + 1, 0, none⟩) (show h ≠ w.heap.size + 1 + 1 + 1 by omega) _
      · exact (Hz21.out.set 0 _).far (p := ⟨w.heap.size + 1 + 1 + 1, 0, none⟩) (show w.heap.size + 1 + 1 ≠ w.heap.size + 1 + 1 + 1 by omega) _
      · exact (Hz31.out.far (p := ⟨w.heap.size + 1 + 1, 0, none⟩) (show w.heap.size + 1 + 1 + 1 ≠ w.heap.size + 1 + 1 by omega) _).set 0 _
      · exact grown_below HG1.out (((Below.refl _ _).setCell (p := ⟨w.heap.size + 1 + 1, 0, none⟩) (show w.heap.size ≤ w.heap.size + 1 + 1 by omega) _).setCell (p := ⟨w.heap.size + 1 + 1 + 1, 0, none⟩) (show w.heap.size ≤ w.heap.size + 1 + 1 + 1 by omega) _)
    | false =>
      have hrow : Row (W.setCell ⟨h, 2, none⟩ (.int .i64 ((t : Int) + 1))) w.heap.size A2 (ws.map uv) := by
        have h1 := Rd.grown (Rd.more _ (Nat.le_refl _) (Nat.le_refl _) Hw.out) HG1.out (Nat.le_refl _) (fun k e => by injection e with e; omega)
        exact (Rd.sl_row h1).2
      have Hrow := Lib.hid hrow; clear hrow
      have hszV : w.heap.size + 5 ≤ (W.setCell ⟨h, 2, none⟩ (.int .i64 ((t : Int) + 1))).heap.size := by
        have := HB1.out.size
        simp [World.setCell]
        omega
      obtain ⟨V1, hV1⟩ : ∃ V1, V1 = W.setCell ⟨h, 2, none⟩ (.int .i64 ((t : Int) + 1)) := ⟨_, rfl⟩
      have HQ := Lib.hid (types_All A2 ws.length c2 w.heap.size ws s V1 rfl (by rw [hV1]; exact Hrow.out) (by rw [hV1]; omega) h47)
      have hrr : repR rs[x] s = if allB ws s.data.toList = false then ([], false) else (ws, true) := by rw [← Hr.out]; unfold repR; simp
      have Hrr := Lib.hid hrr; clear hrr
      cases hq : allB ws s.data.toList with
      | false =>
        rw [hq] at HQ
        have Hrr2 : Hid (repR rs[x] s = ([], false)) := Lib.hid (by rw [Hrr.out, hq]; rfl)
        clear hq Hrr
        rw [hV1] at HQ
        clear hV1
        gi_wp2_with (refine ⟨trivial, ?_⟩; gi_at_call 64; refine (CallsIn.inRound l (callsIn_wide.2 HQ.out)).mono ?_; rintro e w2 ⟨hb, rfl⟩; have Hb := Lib.hid hb; have hf4' := (Hz21.out.below hb Hz21.out.lt).frozen 0; have hf5' := (Hz31.out.below hb Hz31.out.lt).frozen 0; have hc4' := (Hz21.out.below hb Hz21.out.lt).cell 0; have hc5' := (Hz31.out.below hb Hz31.out.lt).cell 0; clear hb hf4 hf5 hc4 hc5)
        refine ⟨(HKF.out.trans (keepsFrom_below Hb.out _)).trans (((KeepsOthers.setCell _ _ _).from _).trans ((KeepsOthers.setCell _ _ _).from _)), x, ⟨rfl, rfl⟩, ?_⟩
        rw [Hrr2.out]
        have hh2 := Hzh1.out.below Hb.out Hzh1.out.lt
        have h42 := Hz21.out.below Hb.out Hz21.out.lt
        have h52 := Hz31.out.below Hb.out Hz31.out.lt
        have hg2 := grown_below HG1.out (Hb.out.mono (show w.heap.size ≤ _ by omega))
        refine ⟨?_, ⟨none, 0, ?_, World.ownsRow_nil _ _ _ _⟩, ?_, ?_⟩
        · exact (hh2.far (p := ⟨w.heap.size + 1 + 1, 0, none⟩) (show h ≠ w.heap.size + 1 + 1 by omega) _).far (p := ⟨w.heap.size + 1 + 1 + 1, 0, none⟩) (show h ≠ w.heap.size + 1 + 1 + 1 by omega) _
        · exact (h42.set 0 _).far (p := ⟨w.heap.size + 1 + 1 + 1, 0, none⟩) (show w.heap.size + 1 + 1 ≠ w.heap.size + 1 + 1 + 1 by omega) _
        · exact (h52.far (p := ⟨w.heap.size + 1 + 1, 0, none⟩) (show w.heap.size + 1 + 1 + 1 ≠ w.heap.size + 1 + 1 by omega) _).set 0 _
        · exact grown_below hg2 (((Below.refl _ _).setCell (p := ⟨w.heap.size + 1 + 1, 0, none⟩) (show w.heap.size ≤ w.heap.size + 1 + 1 by omega) _).setCell (p := ⟨w.heap.size + 1 + 1 + 1, 0, none⟩) (show w.heap.size ≤ w.heap.size + 1 + 1 + 1 by omega) _)
      | true =>
        rw [hq] at HQ
        have Hrr2 : Hid (repR rs[x] s = (ws, true)) := Lib.hid (by rw [Hrr.out, hq]; rfl)
        clear hq Hrr
        rw [hV1] at HQ
        clear hV1
        obtain ⟨i0, hi1, hz, hs', hby⟩ := info_parts Try.info_w
        gi_wp2_with (first | (refine ⟨trivial, ?_⟩; gi_at_call 64; refine (CallsIn.inRound l (callsIn_wide.2 HQ.out)).mono ?_; rintro e w2 ⟨hb, rfl⟩; have HKF2 := Lib.hid (keepsFrom_below hb W0.heap.size); have hb0' := (Hxb1.out.below hb Hxb1.out.lt).cell 0; have Hrow2 := Lib.hid (Hrow.out.below' hb (by omega)); have hszV2 := Nat.le_trans hszV hb.size; have Hh2 := Lib.hid (Hzh1.out.below hb Hzh1.out.lt); have H42 := Lib.hid (Hz21.out.below hb Hz21.out.lt); have H52 := Lib.hid (Hz31.out.below hb Hz31.out.lt); have HG2 := Lib.hid (grown_below HG1.out (hb.mono (show w.heap.size ≤ _ by omega))); clear hb hf4 hf5 hc4 hc5) | (gi_at_builtin; refine wpListIn_appz _ rfl (.const (.slice none 0 0)) (.tmp 36) 52 rfl W0.heap.size 22 i0 _ 1 8 Try.underlying52 hi1 hz hs' hby rfl (by omega) _ 0 [] rfl (World.ownsRow_nil _ _ _ _) w.heap.size A2 ws.length c2 (ws.map uv) rfl (by rw [List.length_map]; omega) Hrow2.out (uv_cells ws) (by unfold maxLen; omega) (by omega) (by have := Hs0.out; omega) ?_; intro A3 c3 w3 h2 h3 h4; rw [Nat.zero_add] at h2; have H2 := Lib.hid h2; have hk3 : Below w2.heap.size w2 w3 := own_belowz (v := .slice none 0 0) (World.ownsRow_nil w2 w2.heap.size 22 1) h3 (Nat.le_refl _); have HB3 := Lib.hid hk3; have hf4' := (H42.out.below hk3 H42.out.lt).frozen 0; have hf5' := (H52.out.below hk3 H52.out.lt).frozen 0; have hc4' := (H42.out.below hk3 H42.out.lt).cell 0; have hc5' := (H52.out.below hk3 H52.out.lt).cell 0; clear h2 h3 h4 hk3))
        have hh3 := (Hh2.out.below HB3.out Hh2.out.lt)
        have h43 := (H42.out.below HB3.out H42.out.lt)
        have h53 := (H52.out.below HB3.out H52.out.lt)
        have hg3 := grown_below HG2.out (HB3.out.mono (show w.heap.size ≤ _ by omega))
        refine ⟨((HKF.out.trans HKF2.out).trans (keepsFrom_below HB3.out _)).trans (((KeepsOthers.setCell _ _ _).from _).trans ((KeepsOthers.setCell _ _ _).from _)), x, ⟨rfl, rfl⟩, ?_⟩
        rw [Hrr2.out]
        refine ⟨?_, ⟨A3, c3, ?_, ?_⟩, ?_, ?_⟩
        · exact (hh3.far (p := ⟨w.heap.size + 1 + 1, 0, none⟩) (show h ≠ w.heap.size + 1 + 1 by omega) _).far (p := ⟨w.heap.size + 1 + 1 + 1, 0, none⟩) (show h ≠ w.heap.size + 1 + 1 + 1 by omega) _
        · exact (h43.set 0 _).far (p := ⟨w.heap.size + 1 + 1 + 1, 0, none⟩) (show w.heap.size + 1 + 1 ≠ w.heap.size + 1 + 1 + 1 by omega) _
        · exact own_far (own_far H2.out (p := ⟨w.heap.size + 1 + 1, 0, none⟩) (show w.heap.size + 1 + 1 < W0.heap.size by omega) _) (p := ⟨w.heap.size + 1 + 1 + 1, 0, none⟩) (show w.heap.size + 1 + 1 + 1 < W0.heap.size by omega) _
        · exact (h53.far (p := ⟨w.heap.size + 1 + 1, 0, none⟩) (show w.heap.size + 1 + 1 + 1 ≠ w.heap.size + 1 + 1 by omega) _).set 0 _
        · exact grown_below hg3 (((Below.refl _ _).setCell (p := ⟨w.heap.size + 1 + 1, 0, none⟩) (show w.heap.size ≤ w.heap.size + 1 + 1 by omega) _).setCell (p := ⟨w.heap.size + 1 + 1 + 1, 0, none⟩) (show w.heap.size ≤ w.heap.size + 1 + 1 + 1 by omega) _)
  case done =>
    rintro D ys W hD hys ⟨hnil, hB1⟩ hK
    have hno : rs[t]? = none := by
      rw [hnil] at hys
      have hl : (leftL rs t).length = rs.length - t := by simp [leftL]
      rw [← hys] at hl
      exact List.getElem?_eq_none (by simp at hl; omega)
    have hcr : callR rs t s = (([], false), t) := by unfold callR; rw [hno]
    have Hcr := Lib.hid hcr; clear hcr hno hys hnil
    have Hz2 := Lib.hid (Hy2.out.below hB1 Hy2.out.lt)
    have Hz3 := Lib.hid (Hy3.out.below hB1 Hy3.out.lt)
    have Hzh := Lib.hid (Hblk0.out.below hB1 Hblk0.out.lt)
    have hsz0 := Hs0.out
    have HG0 : Hid (w.grownBy W (some h)) := Lib.hid (grown_of_below (HB0.out.trans (hB1.mono (by omega))))
    have hf4 := Hz2.out.frozen 0
    have hf5 := Hz3.out.frozen 0
    have hc4 : W.cell? ⟨w.heap.size + 1 + 1, 0, none⟩ = some (.slice none 0 0) := Hz2.out.cell 0
    have hc5 : W.cell? ⟨w.heap.size + 1 + 1 + 1, 0, none⟩ = some (.bool false) := Hz3.out.cell 0
    have HB1 := Lib.hid hB1; clear hB1
    have HK := Lib.hid hK; clear hK
    gi_wp2
    refine call_fin (A := A) (c := c) (base := W0.heap.size) ⟨?_, ⟨none, 0, ?_, World.ownsRow_nil _ _ _ _⟩, ?_, ?_⟩ (by omega) (KeepsOthers.same ((KeepsOthers.setCell _ _ _).trans (KeepsOthers.setCell _ _ _)) D _ HK.out rfl) rfl rfl Hscr.out hhi (by omega) Hcr.out
    · exact (Hzh.out.far (p := ⟨w.heap.size + 1 + 1, 0, none⟩) (show h ≠ w.heap.size + 1 + 1 by omega) _).far (p := ⟨w.heap.size + 1 + 1 + 1, 0, none⟩) (show h ≠ w.heap.size + 1 + 1 + 1 by omega) _
    · exact (Hz2.out.set 0 _).far (p := ⟨w.heap.size + 1 + 1 + 1, 0, none⟩) (show w.heap.size + 1 + 1 ≠ w.heap.size + 1 + 1 + 1 by omega) _
    · exact (Hz3.out.far (p := ⟨w.heap.size + 1 + 1, 0, none⟩) (show w.heap.size + 1 + 1 + 1 ≠ w.heap.size + 1 + 1 by omega) _).set 0 _
    · exact grown_below HG0.out (((Below.refl _ _).setCell (p := ⟨w.heap.size + 1 + 1, 0, none⟩) (show w.heap.size ≤ w.heap.size + 1 + 1 by omega) _).setCell (p := ⟨w.heap.size + 1 + 1 + 1, 0, none⟩) (show w.heap.size ≤ w.heap.size + 1 + 1 + 1 by omega) _)
  case stop =>
    rintro D cd pre W hD hpre ⟨k, ⟨rfl, rfl⟩, hpost⟩ hK
    have hkt : k.val = t ∧ rs[t]? = some rs[k] := by
      obtain ⟨tl, htl⟩ := hpre
      have h0 : (leftL rs t)[0]? = some k := by rw [← htl]; rfl
      unfold leftL at h0
      rw [List.getElem?_drop] at h0
      have hlt := (List.getElem?_eq_some_iff.1 h0).1
      have hlt' : t < rs.length := by simpa using hlt
      rw [List.getElem?_eq_getElem hlt] at h0
      have he : k.val = t := by
        injection h0 with h0
        rw [← h0]
        simp
      exact ⟨he, by subst he; simp⟩
    have hcr : callR rs t s = (repR rs[k] s, t + 1) := by
      unfold callR repR
      rw [hkt.2]
      simp only
      split <;> rfl
    have Hcr := Lib.hid hcr; clear hcr hkt hpre
    have HP := Lib.hid hpost; clear hpost
    have HK := Lib.hid hK; clear hK
    gi_wp2
    exact call_fin HP.out (by have := Hs0.out; omega) HK.out rfl rfl Hscr.out hhi (by have := Hs0.out; omega) Hcr.out
end Go.Proofs.Ytndkhlafpcedbaa
