/- flagonref00.Bag: apartPages. -/
import Derived.Test.YtndkhlafpcedbaaDoorBagG
import Derived.Test.YtndkhlafpcedbaaDoorBagB
namespace Go.Proofs.YtndkhlafpcedbaaDoor
set_option linter.unusedVariables false
open Go.RowKit
theorem Tryd.info_pgs' : (Tryd.prog.info? 29).map (fun i => (i.zero, i.size, i.bytes)) = some (some (.slice none 0 0), 1, 24) := by kernel_rfl
theorem app1_pgs (w : World) {ops : Array Oper} {rest : List Oper} {o : Oper} {a : Act} {Q : Exit → Act → World → Prop} (hgd : o.guard = none) (s x : Operand)
    (ho : o.op = .call { callee := .builtin .append, args := #[s, x], argTypes := #[44, 44] }) (base : Nat)
    (A : Option Addr) (n c : Nat) (xs : List Value) (hs : a.eval s = .slice A n c) (hown : w.ownsRow base 29 1 (.slice A n c) n xs) (sb c2 : Nat) (u : Value) (hx : a.eval x = .slice (some ⟨sb, 0, none⟩) 1 c2) (hu : w.cell? ⟨sb, 0, none⟩ = some u) (h1 : u.oneCell' = true)
    (h47 : n ≤ 1000000) (hbase : base ≤ w.heap.size)
    (h : ∀ A' c' w', w'.ownsRow base 29 1 (.slice A' (n + 1) c') (n + 1) (xs ++ [u]) → w.grownBy w' (Value.slice A' (n + 1) c').ownBlock → ((Value.slice A' (n + 1) c').ownBlock = (Value.slice A n c).ownBlock ∨ (Value.slice A' (n + 1) c').ownBlock = some w.heap.size) → wpList Tryd.prog ops Q rest (a.put o.dst (.slice A' (n + 1) c')) w') : wpList Tryd.prog ops Q (o :: rest) a w := by
  obtain ⟨i0, hi, hz, hs', hb⟩ := info_parts Tryd.info_pgs'
  exact wpList_app1 w hgd s x 44 ho base 29 i0 (.slice none 0 0) 24 Tryd.underlying44 hi hz hs' hb rfl _ n xs hs hown sb c2 u hx hu h1 (by unfold maxLen; omega) (by omega) hbase h
theorem EKeep.of_below (e : TypeId) {W W' : World} (h : Below W.heap.size W W') : EKeep e W W' := ⟨h.size, fun b cur hb => (h.block b (Array.getElem?_eq_some_iff.1 hb).1).trans hb⟩
theorem KeptB.more {w W W' : World} {F : Nat → Prop} (h : KeptB w W F) (hb : Below W.heap.size W W') : KeptB w W' F :=
  ⟨hb.os.trans h.os, hb.tape.trans h.tape, hb.output.trans h.output, Nat.le_trans h.size hb.size, fun k hk hn => (hb.block k (Nat.lt_of_lt_of_le hk h.size)).trans (h.block k hk hn)⟩
theorem MA.below {base : Nat} {e : TypeId} {mk : Nat → Nat → Value} {bl : List Hd} {W W' : World} {k i : Nat} (h : MA base e mk bl W k i) (hb : Below W.heap.size W W') : MA base e mk bl W' k i := fun q A n c hq => by
  obtain ⟨xs, h1, h2, h3⟩ := h q A n c hq
  exact ⟨xs, own_keptz h1 hb, h2, h3⟩
theorem cell_pos' {w : World} {p : Addr} {v : Value} (h : w.cell? p = some v) : p.block < w.heap.size := by
  cases hb : w.heap[p.block]? with
  | none => simp [World.cell?, hb] at h
  | some o => exact (Array.getElem?_eq_some_iff.1 hb).1
theorem cell_set_far {w : World} {p q : Addr} {u v : Value} (h : w.cell? q = some v) (hne : q.block ≠ p.block) : (w.setCell p u).cell? q = some v := by
  have hb := Below.heap_setCell w p u q.block hne
  simp only [World.cell?, hb] at *
  exact h
def LoopB (N : Nat) (wo : World) (i : Value) (wr : World) : Prop := ∃ q : Nat, q ≤ N ∧ i = .int .i64 q ∧ Below wo.heap.size wo wr
section
variable (base : Nat) (bl : List Hd) (w : World)
structure AP (k j : Nat) (mk : Nat → Nat → Value) (wr : World) : Prop where
  ma : MA base 24 mk bl wr k j
  gm : GM (P1 bl k j) mk wr
  kept : KeptB w wr (Foot bl)
def APrel (i : Value) (wr : World) : Prop := ∃ (k : Nat) (mk : Nat → Nat → Value), k ≤ bl.length ∧ i = .int .i64 k ∧ AP base bl w k 0 mk wr
def APin (k n : Nat) (i : Value) (wr : World) : Prop := ∃ (j : Nat) (mk : Nat → Nat → Value), j ≤ n ∧ i = .int .i64 j ∧ AP base bl w k j mk wr
structure BBp (k : Nat) (o m : Value) (mk : Nat → Nat → Value) (wr : World) (rs : List Tr) (ones mores : List Value) : Prop where
  lb : LB base 24 mk bl wr k rs ones mores
  gm : GM (P2 bl k 0) mk wr
  one : wr.ownsRow w.heap.size 29 1 o k ones
  more : wr.ownsRow w.heap.size 29 1 m k mores
  apart : ∀ b, m.ownBlock = some b → o.ownBlock ≠ some b
  kept : KeptB w wr (Foot bl)
def BBprel (o m i : Value) (wr : World) : Prop := ∃ (k : Nat) (mk : Nat → Nat → Value) (rs : List Tr) (ones mores : List Value) (A1 : Option Addr) (c1 : Nat) (A2 : Option Addr) (c2 : Nat),
  k ≤ bl.length ∧ i = .int .i64 k ∧ o = .slice A1 k c1 ∧ m = .slice A2 k c2 ∧ BBp base bl w k o m mk wr rs ones mores
structure BIp (k j jg L : Nat) (Al : Option Addr) (cl : Nat) (o m : Value) (n1 : Nat) (mk : Nat → Nat → Value) (wr : World) (rs : List Tr) (ones mores : List Value) : Prop where
  li : LI base 24 mk bl wr k j L Al cl rs ones mores
  gm : GM (P2 bl k jg) mk wr
  one : wr.ownsRow w.heap.size 29 1 o n1 ones
  more : wr.ownsRow w.heap.size 29 1 m k mores
  apart : ∀ b, m.ownBlock = some b → o.ownBlock ≠ some b
  kept : KeptB w wr (Foot bl)
  alb : ∀ b, blockOf Al = some b → Foot bl b ∨ w.heap.size ≤ b
def BIprel (k L : Nat) (m : Value) (o l i : Value) (wr : World) : Prop := ∃ (j I : Nat) (mk : Nat → Nat → Value) (rs : List Tr) (ones mores : List Value) (A1 : Option Addr) (n1 c1 : Nat) (Al : Option Addr) (cl : Nat),
  I = L + j ∧ j ≤ 70 ∧ i = .int .i64 I ∧ l = .slice Al I cl ∧ o = .slice A1 n1 c1 ∧ n1 ≤ k + 1 ∧ BIp base bl w k j j L Al cl o m n1 mk wr rs ones mores
end
section
variable {base : Nat} {bl : List Hd} {w wr W : World} {k j jg L n1 cl : Nat} {Al A0 : Option Addr} {o m : Value} {mk : Nat → Nat → Value} {rs : List Tr} {ones mores : List Value}
theorem AP.below (h : AP base bl w k j mk wr) (hb : Below wr.heap.size wr W) : AP base bl w k j mk W := ⟨h.ma.below hb, h.gm.keep (TKeep.below hb), h.kept.more hb⟩
theorem AP.step (h : AP base bl w k j mk W) (hd : Dist bl) {gr n c : Nat} {v : Value} (hk : bl[k]? = some (some ⟨gr, 0, none⟩, n, c)) (hj : j < n) (hv : GoodT W k j v) : AP base bl w k (j + 1) (upd mk k j v) (W.setCell ⟨gr, j, none⟩ v) := by
  have h1 := (h.ma.upd v).step hd hk hj
  rw [upd_self] at h1
  obtain ⟨xs, ho, _⟩ := h.ma k _ n c hk
  exact ⟨h1, (h.gm.upd hv (fun q x hp => P1.step hp)).keep (TKeep.set ho (by decide) j v), h.kept.set ⟨gr, j, none⟩ v ⟨k, _, n, c, hk, rfl⟩⟩
theorem BBp.below (h : BBp base bl w k o m mk wr rs ones mores) (hb : Below wr.heap.size wr W) : BBp base bl w k o m mk W rs ones mores :=
  ⟨h.lb.keep (EKeep.of_below _ hb), h.gm.keep (TKeep.below hb), own_keptz h.one hb, own_keptz h.more hb, h.apart, h.kept.more hb⟩
theorem BIp.below (h : BIp base bl w k j jg L Al cl o m n1 mk wr rs ones mores) (hb : Below wr.heap.size wr W) : BIp base bl w k j jg L Al cl o m n1 mk W rs ones mores :=
  ⟨h.li.keep (EKeep.of_below _ hb), h.gm.keep (TKeep.below hb), own_keptz h.one hb, own_keptz h.more hb, h.apart, h.kept.more hb, h.alb⟩
theorem BIp.text (h : BIp base bl w k j j L Al cl o m n1 mk wr rs ones mores) {c0 : Nat} (hk : bl[k]? = some (A0, L, c0)) {v : Value} (hv : GoodT wr k (L + j) v) : BIp base bl w k j (j + 1) L Al cl o m n1 (upd mk k (L + j) v) wr (cutT rs k (L + j)) ones mores :=
  ⟨h.li.upd hk v, h.gm.upd hv (fun q x hp => P2.step hk hp), h.one, h.more, h.apart, h.kept, h.alb⟩
end
set_option maxRecDepth 100000 in
set_option maxHeartbeats 8000000 in
theorem apart_pages (g base N cH : Nat) (cells : List Value) (AH : Option Addr) (bl : List Hd) (w : World) (hb : Blk w g 47 cells) (hc0 : cells[15]? = some (.slice AH N cH)) (hN : N = bl.length) (hN300 : N ≤ 300)
    (hH : w.ownsRow base 29 1 (.slice AH N cH) N (bl.map hdV)) (hown : ∀ (q : Nat) A n c, bl[q]? = some (A, n, c) → ∃ xs, w.ownsRow base 24 1 (.slice A n c) n xs) (hd : Dist bl)
    (hL : ∀ (q : Nat) A n c, bl[q]? = some (A, n, c) → n ≤ 100000) (hbase : base ≤ w.heap.size) (hT : ∀ W, Below base w W → HTab W) :
    Calls Tryd.prog 79 #[.pointer (some ⟨g, 0, none⟩)] w fun e w' => e = .returned (.bool true) ∧ KeptB w w' (Foot bl) := by
  have hfg := foot_blk hown hb (by decide)
  have hfh := foot_own hown hH (by decide)
  have HT : Hid (∀ W, KeptB w W (Foot bl) → HTab W) := Lib.hid (fun W hW => hT W (hW.below (fun b hf => (foot_type hown hf).1) hbase)); clear hT
  have HBag : Hid (∀ W, KeptB w W (Foot bl) → W.cell? ⟨g, 15, none⟩ = some (.slice AH N cH)) := Lib.hid (fun W hW => by rw [(hW.blk hb hfg).cell 15, hc0])
  have HHdr : Hid (∀ W, KeptB w W (Foot bl) → ∀ (k : Nat) A n c, bl[k]? = some (A, n, c) → ∃ b, AH = some ⟨b, 0, none⟩ ∧ ¬ Foot bl b ∧ W.cell? ⟨b, k, none⟩ = some (.slice A n c)) := Lib.hid (fun W hW k A n c hk => by
    obtain ⟨b, h1, h2⟩ := own_hdr (hW.own hH hfh) (k := k) (u := .slice A n c) (by rw [List.getElem?_map, hk]; rfl)
    exact ⟨b, h1, hfh b (by rw [h1]; rfl), h2⟩)
  have Hfg := Lib.hid hfg
  have HL := Lib.hid hL; clear hL
  have Hd := Lib.hid hd; clear hd
  have HN := Lib.hid hN; clear hN
  have HMA : Hid (MA base 24 (fun _ _ => .slice none 0 0) bl w 0 0) := Lib.hid (MA.start hown)
  clear hb hc0 hH hown hfg hfh
  go_enter Tryd.func79, Tryd.ntmps79
  go_wp2_with fail
  go_loopw [3] (fun i wr => APrel base bl w i wr) (fun i _ => N - (intOf i).toNat)
  case atStart => exact ⟨0, _, Nat.zero_le _, rfl, HMA.out, (fun q x hp => by obtain ⟨A, n, c, h1, h2, h3⟩ := hp; omega), KeptB.refl _ _⟩
  case round =>
    obtain ⟨k, mk, hk, rfl, hap⟩ := hrel
    have Hap := Lib.hid hap; clear hap
    rw [← HN.out] at hk
    have hbag := HBag.out _ Hap.out.kept
    have hk0 : (0 : Int) ≤ k := by omega
    by_cases hlt : k < N
    · obtain ⟨⟨A, n, c⟩, hbk⟩ : ∃ x, bl[k]? = some x := ⟨_, List.getElem?_eq_getElem (by rw [← HN.out]; exact hlt)⟩
      obtain ⟨bh, rfl, hbf, hhd⟩ := HHdr.out _ Hap.out.kept k A n c hbk
      have hn47 := HL.out k A n c hbk
      have Hbk := Lib.hid hbk; clear hbk
      have Hbf := Lib.hid hbf; clear hbf
      clear hhd hbag
      obtain ⟨wo, hwo⟩ : ∃ wo : World, wo = wr := ⟨_, rfl⟩
      subst hwo
      have hbag := HBag.out _ Hap.out.kept
      go_wp2_with fail
      clear hbag
      go_loopw [4] (fun i wr => APin base bl w k n i wr) (fun i _ => n - (intOf i).toNat)
      case atStart => exact ⟨0, mk, Nat.zero_le _, rfl, Hap.out⟩
      case round =>
        obtain ⟨j, mk, hj, rfl, hap⟩ := hrel
        have Hap2 := Lib.hid hap; clear hap
        have hbag := HBag.out _ Hap2.out.kept
        obtain ⟨bh', hbh, _, hhd⟩ := HHdr.out _ Hap2.out.kept k A n c Hbk.out
        injection hbh with hbh
        injection hbh with hbh
        subst hbh
        have hj0 : (0 : Int) ≤ j := by omega
        by_cases hjl : j < n
        · obtain ⟨gr, u, rfl, hcu, hfr⟩ := Hap2.out.ma.place Hbk.out hjl
          have hFg : Hid (Foot bl gr) := Lib.hid ⟨k, _, n, c, Hbk.out, rfl⟩
          have hne1 : g ≠ gr := fun e => Hfg.out (e ▸ hFg.out)
          have hne2 : bh ≠ gr := fun e => Hbf.out (e ▸ hFg.out)
          have hj2 : (j : Int) < n := by omega
          go_wp2_with fail
          have HC := Lib.hid (fun W (hW : Below wr.heap.size wr W) => bag_text k j (by omega) (by omega) W (HT.out W (Hap2.out.kept.more hW)))
          have hglt : g < wr.heap.size := cell_pos' hbag
          have hblt : bh < wr.heap.size := cell_pos' hhd
          have hrlt : gr < wr.heap.size := cell_pos' hcu
          have Hq : Hid (g < wr.heap.size ∧ bh < wr.heap.size ∧ gr < wr.heap.size ∧ g ≠ gr ∧ bh ≠ gr) := Lib.hid ⟨hglt, hblt, hrlt, hne1, hne2⟩
          clear hglt hblt hrlt hne1 hne2
          have HS0 : Hid (wr.cell? ⟨g, 15, none⟩ = some (.slice (some ⟨bh, 0, none⟩) N cH) ∧ wr.cell? ⟨bh, k, none⟩ = some (.slice (some ⟨gr, 0, none⟩) n c) ∧ wr.cell? ⟨gr, j, none⟩ = some u ∧ wr.frozen? ⟨gr, j, none⟩ = false) := Lib.hid ⟨hbag, hhd, hcu, hfr⟩
          obtain ⟨s0a, s0b⟩ := And.intro hbag hhd
          clear hcu hfr hbag hhd
          go_region_with
            (first | (go_at_call 82; refine (HC.out _ (by exact (Below.refl _ _).drew)).mono ?_; rintro e W1 ⟨rfl, hb⟩; have hS1 : Below wr.heap.size wr W1 := ⟨hb.os, hb.tape, hb.output, hb.size, hb.block⟩; clear hb; have hcv := Lib.run_convert_string_bytes (P := Tryd.prog) W1 9 24 5 (textS k j) Tryd.underlying9 Tryd.underlying24 Tryd.underlying5; have hS2 : Below wr.heap.size wr (Lib.bytesWorld W1 5 (textS k j)) := hS1.trans ((bytes_below W1 5 (textS k j)).mono hS1.size); have hgood := GoodT.new W1 k j; have s1 : W1.cell? ⟨g, 15, none⟩ = some (.slice (some ⟨bh, 0, none⟩) N cH) ∧ W1.cell? ⟨bh, k, none⟩ = some (.slice (some ⟨gr, 0, none⟩) n c) := ⟨(hS1.cell (p := ⟨g, 15, none⟩) Hq.out.1).trans HS0.out.1, (hS1.cell (p := ⟨bh, k, none⟩) Hq.out.2.1).trans HS0.out.2.1⟩; obtain ⟨g3, hg3⟩ : ∃ g3, g3 = W1.heap.size := ⟨_, rfl⟩; rw [← hg3] at hcv hgood; have Hg3 := Lib.hid hg3; clear hg3; generalize Lib.bytesWorld W1 5 (textS k j) = W2 at *; obtain ⟨s1a, s1b⟩ := s1; have s2 : W2.cell? ⟨g, 15, none⟩ = some (.slice (some ⟨bh, 0, none⟩) N cH) ∧ W2.cell? ⟨bh, k, none⟩ = some (.slice (some ⟨gr, 0, none⟩) n c) := ⟨(hS2.cell (p := ⟨g, 15, none⟩) Hq.out.1).trans HS0.out.1, (hS2.cell (p := ⟨bh, k, none⟩) Hq.out.2.1).trans HS0.out.2.1⟩; have hcu2 : W2.cell? ⟨gr, j, none⟩ = some u := (hS2.cell (p := ⟨gr, j, none⟩) Hq.out.2.2.1).trans HS0.out.2.2.1; have hfr2 : W2.frozen? ⟨gr, j, none⟩ = false := (hS2.frozen (p := ⟨gr, j, none⟩) Hq.out.2.2.1).trans HS0.out.2.2.2; have s3 : Hid (∀ v, (W2.setCell ⟨gr, j, none⟩ v).cell? ⟨g, 15, none⟩ = some (.slice (some ⟨bh, 0, none⟩) N cH) ∧ (W2.setCell ⟨gr, j, none⟩ v).cell? ⟨bh, k, none⟩ = some (.slice (some ⟨gr, 0, none⟩) n c)) := Lib.hid (fun v => ⟨cell_set_far s2.1 Hq.out.2.2.2.1, cell_set_far s2.2 Hq.out.2.2.2.2⟩); obtain ⟨s2a, s2b⟩ := s2; have HGood := Lib.hid hgood; clear hgood; have HS2 := Lib.hid hS2; clear hS2 hS1))
          all_goals
            have Hst := Lib.hid ((Hap2.out.below HS2.out).step Hd.out Hbk.out hjl HGood.out)
            clear s0a s0b s1a s1b s2a s2b hcu2 hfr2 s3 hcv HS2 HGood
            generalize W2.setCell ⟨gr, j, none⟩ (.slice (some ⟨g3, 0, none⟩) (textS k j).size (grownCap W1 (textS k j).size 0 5)) = W3 at *
            go_wp2_with fail
            exact ⟨⟨j + 1, _, by omega, by go_num, Hst.out⟩, by simp [intOf]; omega⟩
        · obtain rfl : n = j := by omega
          go_wp2_with fail
          exact ⟨⟨k + 1, mk, by rw [← HN.out]; omega, by go_num, Hap2.out.ma.next Hbk.out rfl, Hap2.out.gm.mono (fun q x hp => P1.next Hbk.out hp), Hap2.out.kept⟩, by simp [intOf]; omega⟩
    · obtain rfl : N = k := by omega
      have HLB := Lib.hid (LB.start (by have := Hap.out.ma; rw [HN.out] at this; exact this) Hd.out)
      have HGM : Hid (GM (P2 bl 0 0) mk wr) := Lib.hid (Hap.out.gm.mono (fun q x hp => by rw [HN.out]; exact P2.start hp))
      have Hkp := Lib.hid Hap.out.kept
      clear HMA Hap
      obtain ⟨wo, hwo⟩ : ∃ wo : World, wo = wr := ⟨_, rfl⟩
      subst hwo
      go_wp2_with fail
      clear hbag
      go_loopw [5, 6, 7] (fun o m i wr => BBprel base bl w o m i wr) (fun _ _ i _ => N - (intOf i).toNat)
      case atStart => exact ⟨0, mk, _, [], [], none, 0, none, 0, Nat.zero_le _, rfl, rfl, rfl, ⟨HLB.out, HGM.out, World.ownsRow_nil _ _ _ _, World.ownsRow_nil _ _ _ _, (fun b hb => by cases hb), Hkp.out⟩⟩
      case round =>
        clear HLB HGM Hkp mk
        obtain ⟨k, mk, rs, ones, mores, A1, c1, A2, c2, hk, rfl, rfl, rfl, hbb⟩ := hrel
        have Hbb := Lib.hid hbb; clear hbb
        rw [← HN.out] at hk
        have hbag := HBag.out _ Hbb.out.kept
        have hk0 : (0 : Int) ≤ k := by omega
        by_cases hlt : k < N
        · obtain ⟨⟨A, n, c⟩, hbk⟩ : ∃ x, bl[k]? = some x := ⟨_, List.getElem?_eq_getElem (by rw [← HN.out]; exact hlt)⟩
          obtain ⟨bh, rfl, _, hhd⟩ := HHdr.out _ Hbb.out.kept k A n c hbk
          have hn47 := HL.out k A n c hbk
          have Hbk := Lib.hid hbk; clear hbk
          have HLI := Lib.hid (LI.start Hbb.out.lb Hd.out Hbk.out)
          have Hst : Hid (BIprel base bl w k n (.slice A2 k c2) (.slice A1 k c1) (.slice A n c) (.int .i64 n) wr) := Lib.hid ⟨0, n, mk, rs, ones, mores, A1, k, c1, A, c, rfl, by omega, rfl, rfl, rfl, by omega, ⟨HLI.out, Hbb.out.gm, Hbb.out.one, Hbb.out.more, Hbb.out.apart, Hbb.out.kept, fun b hb => .inl ⟨k, A, n, c, Hbk.out, hb⟩⟩⟩
          clear HLI
          obtain ⟨wo, hwo⟩ : ∃ wo : World, wo = wr := ⟨_, rfl⟩
          subst hwo
          go_wp2_with fail
          clear hbag hhd
          go_loopw [5, 8, 9] (fun o l i wr => BIprel base bl w k n (.slice A2 k c2) o l i wr) (fun _ _ i _ => n + 70 - (intOf i).toNat)
          case atStart => exact Hst.out
          case round =>
            clear Hst Hbb mk
            obtain ⟨j, I, mk, rs, ones, mores, A1, n1, c1, Al, cl, hI, hj, rfl, rfl, rfl, hn1, hbi⟩ := hrel
            have HI := Lib.hid hI
            have Hbi := Lib.hid hbi; clear hbi
            have hbag := HBag.out _ Hbi.out.kept
            obtain ⟨bh', hbh, _, hhd⟩ := HHdr.out _ Hbi.out.kept k A n c Hbk.out
            injection hbh with hbh
            injection hbh with hbh
            subst hbh
            have hI0 : (0 : Int) ≤ I := by omega
            have hI47 : I ≤ n + 70 := by omega
            by_cases hjl : j < 70
            · have hIl : I < n + 70 := by omega
              clear hI
              have hIl' : (I : Int) < (n : Int) + 70 := by omega
              have HC := Lib.hid (bag_text k I (by omega) (by omega) wr (HT.out wr Hbi.out.kept))
              go_wp2_with fail
              refine HC.out.mono ?_
              rintro e W1 ⟨rfl, hbe⟩
              have hcv := Lib.run_convert_string_bytes (P := Tryd.prog) W1 9 24 5 (textS k I) Tryd.underlying9 Tryd.underlying24 Tryd.underlying5
              have hS2 : Below wr.heap.size wr (Lib.bytesWorld W1 5 (textS k I)) := hbe.trans ((bytes_below W1 5 (textS k I)).mono hbe.size)
              have hgood := GoodT.new W1 k I
              obtain ⟨g3, hg3⟩ : ∃ g3, g3 = W1.heap.size := ⟨_, rfl⟩
              rw [← hg3] at hcv hgood
              clear hg3 hbe hbag hhd HC
              generalize Lib.bytesWorld W1 5 (textS k I) = W2 at *
              have hBI := (Hbi.out.below hS2).text Hbk.out (v := .slice (some ⟨g3, 0, none⟩) (textS k I).size (grownCap W1 (textS k I).size 0 5)) (by rw [← HI.out]; exact hgood)
              have hmk := upd_self mk k (n + j) (.slice (some ⟨g3, 0, none⟩) (textS k I).size (grownCap W1 (textS k I).size 0 5))
              clear hgood hS2 Hbi
              generalize cutT rs k (n + j) = rs2 at *
              generalize upd mk k (n + j) (.slice (some ⟨g3, 0, none⟩) (textS k I).size (grownCap W1 (textS k I).size 0 5)) = mk2 at *
              generalize (textS k I).size = tn at *
              generalize grownCap W1 tn 0 5 = tc at *
              have Hmk := Lib.hid hmk; clear hmk
              have HBI := Lib.hid hBI; clear hBI
              have hbag := HBag.out _ HBI.out.kept
              obtain ⟨bh', hbh, _, hhd⟩ := HHdr.out _ HBI.out.kept k A n c Hbk.out
              injection hbh with hbh
              injection hbh with hbh
              subst hbh
              have hown : W2.ownsRow base 24 1 (.slice Al I cl) I (mks mk2 k I) := by have := HBI.out.li.ownl; rw [← HI.out] at this; exact this
              have Hown := Lib.hid hown; clear hown
              have hszr : w.heap.size ≤ W2.heap.size := HBI.out.kept.size
              have hcu : (W2.alloc (.cells #[.slice (some ⟨g3, 0, none⟩) tn tc] 24)).cell? ⟨W2.heap.size, 0, none⟩ = some (.slice (some ⟨g3, 0, none⟩) tn tc) := (Blk.new W2 24 [.slice (some ⟨g3, 0, none⟩) tn tc]).cell 0
              have Hcu := Lib.hid hcu; clear hcu
              by_cases hj0 : j = 0
              case' pos =>
                have hq : ((I : Int) == n) = true := by have := HI.out; simp; omega
              case' neg =>
                have hq : ((I : Int) == n) = false := by have := HI.out; simp; omega
              case' neg =>
                go_wp2_with (at_builtin; (refine app1_bs _ rfl (.tmp 79) (.tmp 84) rfl base Al I cl (mks mk2 k I) rfl (Hown.out.alloc _) W2.heap.size 1 (.slice (some ⟨g3, 0, none⟩) tn tc) rfl Hcu.out rfl (by omega) (by simp; omega) ?_; intro A3 c3 w3 h2 h3 h4; have hk3 := (HBI.out.kept.alloc _).app h3 h4 (by rw [ownBlock_of]; exact HBI.out.alb); have Hk3 := Lib.hid hk3; have Hone3 := Lib.hid (((EKeep.alloc 29 _ _).trans (EKeep.app (Hown.out.alloc _) h3 h4 (by decide))).own HBI.out.one); have Hmore3 := Lib.hid (((EKeep.alloc 29 _ _).trans (EKeep.app (Hown.out.alloc _) h3 h4 (by decide))).own HBI.out.more); have Hgm3 := Lib.hid (HBI.out.gm.keep ((TKeep.below ((Below.refl _ _).alloc (Nat.le_refl _) _)).trans (TKeep.app (Hown.out.alloc _) h3 h4 (by decide)))); have hsz3 : w.heap.size ≤ w3.heap.size := hk3.1.size; have H2 := Lib.hid h2; have H3 := Lib.hid h3; have H4 := Lib.hid h4; clear h2 h3 h4 hk3; have hbag3 := HBag.out _ Hk3.out.1; have hhd3 := (HHdr.out _ Hk3.out.1 k A n c Hbk.out); obtain ⟨bh2, hbh, _, hhd3⟩ := hhd3; injection hbh with hbh; injection hbh with hbh; subst hbh))
                have e := HI.out
                subst e
                refine ⟨⟨j + 1, n + j + 1, mk2, rs2, ones, mores, A1, n1, c1, A3, c3, by omega, by omega, by go_num, rfl, rfl, hn1, ?_⟩, by simp [intOf]; omega⟩
                have h2 := H2.out
                rw [← Hmk.out] at h2
                exact ⟨(HBI.out.li.keep (EKeep.alloc _ _ _)).went (by omega) h2 H3.out H4.out, Hgm3.out, Hone3.out, Hmore3.out, HBI.out.apart, Hk3.out.1, fun b hb => Hk3.out.2 b (by rw [ownBlock_of]; exact hb)⟩
              case' pos =>
                subst hj0
                have hn1k : n1 = k := by have h1 := HBI.out.li.one.1 rfl; have h2 := HBI.out.one.1; omega
                have Hn1k := Lib.hid hn1k; clear hn1k
                have tok1 : True := trivial
                go_wp2_with (at_builtin; first | (have _t := tok1; refine app1_bs _ rfl (.tmp 79) (.tmp 84) rfl base Al I cl (mks mk2 k I) rfl (Hown.out.alloc _) W2.heap.size 1 (.slice (some ⟨g3, 0, none⟩) tn tc) rfl Hcu.out rfl (by omega) (by simp; omega) ?_; intro A3 c3 w3 h2 h3 h4; have hk3 := (HBI.out.kept.alloc _).app h3 h4 (by rw [ownBlock_of]; exact HBI.out.alb); have Hk3 := Lib.hid hk3; have Hone3 := Lib.hid (((EKeep.alloc 29 _ _).trans (EKeep.app (Hown.out.alloc _) h3 h4 (by decide))).own HBI.out.one); have Hmore3 := Lib.hid (((EKeep.alloc 29 _ _).trans (EKeep.app (Hown.out.alloc _) h3 h4 (by decide))).own HBI.out.more); have Hgm3 := Lib.hid (HBI.out.gm.keep ((TKeep.below ((Below.refl _ _).alloc (Nat.le_refl _) _)).trans (TKeep.app (Hown.out.alloc _) h3 h4 (by decide)))); have hsz3 : w.heap.size ≤ w3.heap.size := hk3.1.size; have H2 := Lib.hid h2; have H3 := Lib.hid h3; have H4 := Lib.hid h4; clear h2 h3 h4 hk3; have hbag3 := HBag.out _ Hk3.out.1; have hhd3 := (HHdr.out _ Hk3.out.1 k A n c Hbk.out); obtain ⟨bh2, hbh, _, hhd3⟩ := hhd3; injection hbh with hbh; injection hbh with hbh; subst hbh; have hc4 : (w3.alloc (.cells #[.slice A3 (I + 1) c3] 29)).cell? ⟨w3.heap.size, 0, none⟩ = some (.slice A3 (I + 1) c3) := (Blk.new w3 29 [.slice A3 (I + 1) c3]).cell 0; have Hc4 := Lib.hid hc4; clear hc4 tok1 _t) | (refine app1_pgs _ rfl (.tmp 96) (.tmp 98) rfl w.heap.size A1 n1 c1 ones rfl (Hone3.out.alloc _) w3.heap.size 1 (.slice A3 (I + 1) c3) rfl Hc4.out rfl (by omega) (by simp; omega) ?_; intro A5 c5 w4 g2 g3' g4; have G2 := Lib.hid g2; have G3 := Lib.hid g3'; have G4 := Lib.hid g4; clear g2 g3' g4))
                have hk4 := KeptB.app (Hk3.out.1.alloc (.cells #[.slice A3 (I + 1) c3] 29)) G3.out G4.out (own_ge Hone3.out)
                have hm4 := own_app (Hmore3.out.alloc (.cells #[.slice A3 (I + 1) c3] 29)) G3.out G4.out HBI.out.apart
                have hgm4 := Hgm3.out.keep ((TKeep.below ((Below.refl _ _).alloc (Nat.le_refl _) _)).trans (TKeep.app (Hone3.out.alloc (.cells #[.slice A3 (I + 1) c3] 29)) G3.out G4.out (by decide)))
                have e := HI.out
                subst e
                have e1 := Hn1k.out
                subst e1
                have h2 := H2.out
                rw [← Hmk.out] at h2
                have hE : EKeep 24 w3 w4 := (EKeep.alloc _ _ _).trans (EKeep.app (Hone3.out.alloc _) G3.out G4.out (by decide))
                have hli := (HBI.out.li.keep (EKeep.alloc _ _ (.cells #[.slice (some ⟨g3, 0, none⟩) tn tc] 24))).noted Hbk.out h2 H3.out H4.out hE
                exact ⟨⟨1, _, mk2, _, _, mores, A5, n1 + 1, c5, A3, c3, by omega, by omega, by go_num, rfl, rfl, by omega, ⟨hli, hgm4, G2.out, hm4.1, hm4.2, hk4.1, fun b hb => Hk3.out.2 b (by rw [ownBlock_of]; exact hb)⟩⟩, by first | (simp [intOf]; done) | (simp [intOf]; omega)⟩
            · obtain rfl : j = 70 := by omega
              have hI2 : I = n + 70 := hI
              clear hI
              subst hI2
              have hIl' : decide ((n : Int) + 70 < (n : Int) + 70) = false := by simp
              have hcl : (wr.alloc (.cells #[.slice Al (n + 70) cl] 29)).cell? ⟨wr.heap.size, 0, none⟩ = some (.slice Al (n + 70) cl) := (Blk.new wr 29 [.slice Al (n + 70) cl]).cell 0
              have Hcl := Lib.hid hcl; clear hcl
              have hszr : w.heap.size ≤ wr.heap.size := Hbi.out.kept.size
              go_wp2_with (at_builtin; refine app1_pgs _ rfl (.tmp 100) (.tmp 102) rfl w.heap.size A2 k c2 mores rfl (Hbi.out.more.alloc _) wr.heap.size 1 (.slice Al (n + 70) cl) rfl Hcl.out rfl (by omega) (by simp; omega) ?_; intro A5 c5 w4 g2 g3 g4; have G2 := Lib.hid g2; have G3 := Lib.hid g3; have G4 := Lib.hid g4; clear g2 g3 g4)
              have hk4 := KeptB.app (Hbi.out.kept.alloc (.cells #[.slice Al (n + 70) cl] 29)) G3.out G4.out (own_ge Hbi.out.more)
              have hm4 := own_app (Hbi.out.one.alloc (.cells #[.slice Al (n + 70) cl] 29)) G3.out G4.out (fun b h1 h2 => Hbi.out.apart b h2 h1)
              have hn1k : n1 = k + 1 := by have h1 := Hbi.out.li.one.2.1 (by omega); have h2 := Hbi.out.one.1; omega
              have hE : EKeep 24 wr w4 := (EKeep.alloc _ _ _).trans (EKeep.app (Hbi.out.more.alloc (.cells #[.slice Al (n + 70) cl] 29)) G3.out G4.out (by decide))
              have hgm4 := (Hbi.out.gm.mono (P' := P2 bl (k + 1) 0) (fun q x hp => P2.next hp)).keep ((TKeep.below ((Below.refl _ _).alloc (Nat.le_refl _) _)).trans (TKeep.app (Hbi.out.more.alloc (.cells #[.slice Al (n + 70) cl] 29)) G3.out G4.out (by decide)))
              have hlb := Hbi.out.li.done Hbk.out hE
              subst hn1k
              exact ⟨⟨k + 1, mk, _, ones, mores ++ [.slice Al (n + 70) cl], A1, c1, A5, c5, by rw [← HN.out]; omega, by go_num, rfl, rfl, ⟨hlb, hgm4, hm4.1, G2.out, fun b h1 h2 => hm4.2 b h2 h1, hk4.1⟩⟩, by simp [intOf]; omega⟩
        · obtain rfl : N = k := by omega
          have Hlb := Lib.hid Hbb.out.lb
          have Hgm := Lib.hid Hbb.out.gm
          have Hone := Lib.hid Hbb.out.one
          have Hmore := Lib.hid Hbb.out.more
          have Hkp := Lib.hid Hbb.out.kept
          clear Hbb
          obtain ⟨wo, hwo⟩ : ∃ wo : World, wo = wr := ⟨_, rfl⟩
          subst hwo
          go_wp2_with fail
          clear hbag
          go_loopw [10] (fun i wr => LoopB N wo i wr) (fun i _ => N - (intOf i).toNat)
          case atStart => exact ⟨0, Nat.zero_le _, rfl, Below.refl _ _⟩
          case round =>
            obtain ⟨q, hq, rfl, hbq⟩ := hrel
            have Hbq := Lib.hid hbq; clear hbq
            have hq0 : (0 : Int) ≤ q := by omega
            by_cases hql : q < N
            · obtain ⟨A, n, c, Am, cm, hbq, hmq, hmr⟩ := Hlb.out.more.2 q hql
              obtain ⟨A', n', c', Ao, co, hbq', hoq, hor⟩ := Hlb.out.one.2 q hql
              rw [hbq] at hbq'
              injection hbq' with hbq'
              injection hbq' with e1 e2
              injection e2 with e2 e3
              subst e1 e2 e3
              have Hrm := Lib.hid (Hlb.out.reads _ hmr)
              have Hro := Lib.hid (Hlb.out.reads _ hor)
              have Hrg := Lib.hid (Hlb.out.reads _ (Hlb.out.origs q A n c hbq))
              have hn47 := HL.out q A n c hbq
              obtain ⟨bm, rfl, hcm⟩ := own_hdr Hmore.out hmq
              obtain ⟨bo, rfl, hco⟩ := own_hdr Hone.out hoq
              obtain ⟨bh, rfl, _, hhd⟩ := HHdr.out _ Hkp.out q A n c hbq
              have hlm := cell_pos' hcm
              have hlo := cell_pos' hco
              have Hbq' := Lib.hid hbq; clear hbq
              have Hcm := Lib.hid hcm; have Hco := Lib.hid hco; clear hcm hco hhd
              have Hlmo := Lib.hid (And.intro hlm hlo); clear hlm hlo
              clear hmq hoq hmr hor
              obtain ⟨wq, hwq⟩ : ∃ wq : World, wq = wr := ⟨_, rfl⟩
              subst hwq
              go_wp2_with fail
              go_loopw [11] (fun i wr => LoopB (n + 70) wo i wr) (fun i _ => n + 70 - (intOf i).toNat)
              case atStart => exact ⟨0, Nat.zero_le _, rfl, Hbq.out⟩
              case round =>
                obtain ⟨j, hj, rfl, hbq2⟩ := hrel
                have Hbq2 := Lib.hid hbq2; clear hbq2
                have hj0 : (0 : Int) ≤ j := by omega
                have HCM : Hid (wr.cell? ⟨bm, q, none⟩ = some (.slice Am (n + 70) cm)) := Lib.hid ((Hbq2.out.cell (p := ⟨bm, q, none⟩) Hlmo.out.1).trans Hcm.out)
                have hcm := HCM.out
                by_cases hjl : j < n + 70
                · have hjl' : (j : Int) < (n : Int) + 70 := by omega
                  have hkp2 := Hkp.out.more Hbq2.out
                  have HC := Lib.hid (fun W (hW : Below wr.heap.size wr W) => bag_text q j (by omega) (by omega) W (HT.out W (hkp2.more hW)))
                  have hgood := (Hgm.out q j ⟨_, n, c, Hbq'.out, .inr (.inl ⟨hql, hjl⟩)⟩).keep (TKeep.below Hbq2.out)
                  obtain ⟨b1, cb, hv, hb1, hcv⟩ := hgood.read
                  have Hcv := Lib.hid hcv; clear hcv hgood
                  have hrm := Hrm.out.keep (EKeep.of_below _ Hbq2.out)
                  obtain ⟨bx, hbx, hxm⟩ := hrm.cell (mks_get mk q (n + 70) j hjl)
                  rw [hv] at hxm
                  subst hbx
                  have hxl := cell_pos' hxm
                  have HXM := Lib.hid hxm
                  have HLT : Hid (bm < wr.heap.size ∧ bx < wr.heap.size) := Lib.hid ⟨cell_pos' hcm, hxl⟩
                  have hbag := HBag.out _ hkp2
                  obtain ⟨bh2, hbh, _, hhd⟩ := HHdr.out _ hkp2 q A n c Hbq'.out
                  injection hbh with hbh
                  injection hbh with hbh
                  subst hbh
                  clear hrm hxl hkp2
                  have hcv0 := Hcv.out wr (Below.refl _ _)
                  have hcv1 := Hcv.out wr.drew ((Below.refl _ _).drew)
                  have hco : wr.cell? ⟨bo, q, none⟩ = some (.slice Ao (n + 1) co) := (Hbq2.out.cell (p := ⟨bo, q, none⟩) Hlmo.out.2).trans Hco.out
                  by_cases hjn : j < n
                  · have hq1 : decide (j < n) = true := decide_eq_true hjn
                    have hq2 : ((j : Int) == n) = false := by simp; omega
                    have hrg := Hrg.out.keep (EKeep.of_below _ Hbq2.out)
                    obtain ⟨b2, hb2, hx2⟩ := hrg.cell (mks_get mk q n j hjn)
                    rw [hv] at hx2
                    have hb2' : A = some ⟨b2, 0, none⟩ := hb2
                    subst hb2'
                    clear hv hb2 hrg
                    go_wp2_with fail
                    clear hcm hxm hbag hhd hx2 hco
                    go_region_held3 (fun w' => (convert 24 9 (.slice (some ⟨b1, 0, none⟩) (textS q j).size cb)).run Tryd.prog w' = .ok (.string (textS q j)) w' ∧ Below wr.heap.size wr w')
                      (first | exact ⟨hcv0, Below.refl _ _⟩ | exact ⟨hcv1, (Below.refl _ _).drew⟩ | exact ⟨hcv2, hS1⟩)
                      (first | (go_at_call 82; refine (HC.out _ (by exact (Below.refl _ _).drew)).mono ?_; rintro e W1 ⟨rfl, hb⟩; have hS1 : Below wr.heap.size wr W1 := ⟨hb.os, hb.tape, hb.output, hb.size, hb.block⟩; have hcv2 := Hcv.out W1 hS1; clear hb))
                    have HW1 := Lib.hid hS1
                    clear hcv0 hcv1 hcv2 hS1
                    have hcm1 := (HW1.out.cell (p := ⟨bm, q, none⟩) HLT.out.1).trans HCM.out
                    have hxm1 := (HW1.out.cell (p := ⟨bx, j, none⟩) HLT.out.2).trans HXM.out
                    have hcv0 := Hcv.out W1 HW1.out
                    have hcv1 := Hcv.out W1.drew HW1.out.drew
                    go_wp2_with fail
                    go_region_held3 (fun w' => (convert 24 9 (.slice (some ⟨b1, 0, none⟩) (textS q j).size cb)).run Tryd.prog w' = .ok (.string (textS q j)) w' ∧ Below wr.heap.size wr w')
                      (first | exact ⟨hcv0, HW1.out⟩ | exact ⟨hcv1, HW1.out.drew⟩ | exact ⟨hcv2, hS1⟩)
                      (first | (go_at_call 82; refine (HC.out _ (by exact HW1.out.drew)).mono ?_; rintro e W3 ⟨rfl, hb⟩; have hS1 : Below wr.heap.size wr W3 := HW1.out.trans ((show Below W1.heap.size W1 W3 from ⟨hb.os, hb.tape, hb.output, hb.size, hb.block⟩).mono HW1.out.size); have hcv2 := Hcv.out W3 hS1; clear hb))
                    have HW3 := Lib.hid hS1
                    clear hcv0 hcv1 hcv2 hS1
                    go_wp2_with fail
                    exact ⟨⟨j + 1, by omega, by go_num, Hbq2.out.trans (HW3.out.mono Hbq2.out.size)⟩, by simp [intOf]; omega⟩
                  · have hq1 : decide (j < n) = false := decide_eq_false hjn
                    by_cases hje : j = n
                    · have hq2 : ((j : Int) == n) = true := by simp; omega
                      have hro := Hro.out.keep (EKeep.of_below _ Hbq2.out)
                      obtain ⟨b2, hb2, hx2⟩ := hro.cell (mks_get mk q (n + 1) j (by omega))
                      rw [hv] at hx2
                      have hb2' : Ao = some ⟨b2, 0, none⟩ := hb2
                      subst hb2'
                      clear hv hb2 hro hje
                      have hjn1 : (j : Int) < (n : Int) + 1 := by have := hq2; simp at this; omega
                      go_wp2_with fail
                      clear hcm hxm hbag hhd hx2 hco
                      go_region_held3 (fun w' => (convert 24 9 (.slice (some ⟨b1, 0, none⟩) (textS q j).size cb)).run Tryd.prog w' = .ok (.string (textS q j)) w' ∧ Below wr.heap.size wr w')
                        (first | exact ⟨hcv0, Below.refl _ _⟩ | exact ⟨hcv1, (Below.refl _ _).drew⟩ | exact ⟨hcv2, hS1⟩)
                        (first | (go_at_call 82; refine (HC.out _ (by exact (Below.refl _ _).drew)).mono ?_; rintro e W1 ⟨rfl, hb⟩; have hS1 : Below wr.heap.size wr W1 := ⟨hb.os, hb.tape, hb.output, hb.size, hb.block⟩; have hcv2 := Hcv.out W1 hS1; clear hb))
                      have HW1 := Lib.hid hS1
                      clear hcv0 hcv1 hcv2 hS1
                      have hcm1 := (HW1.out.cell (p := ⟨bm, q, none⟩) HLT.out.1).trans HCM.out
                      have hxm1 := (HW1.out.cell (p := ⟨bx, j, none⟩) HLT.out.2).trans HXM.out
                      have hcv0 := Hcv.out W1 HW1.out
                      have hcv1 := Hcv.out W1.drew HW1.out.drew
                      go_wp2_with fail
                      go_region_held3 (fun w' => (convert 24 9 (.slice (some ⟨b1, 0, none⟩) (textS q j).size cb)).run Tryd.prog w' = .ok (.string (textS q j)) w' ∧ Below wr.heap.size wr w')
                        (first | exact ⟨hcv0, HW1.out⟩ | exact ⟨hcv1, HW1.out.drew⟩ | exact ⟨hcv2, hS1⟩)
                        (first | (go_at_call 82; refine (HC.out _ (by exact HW1.out.drew)).mono ?_; rintro e W3 ⟨rfl, hb⟩; have hS1 : Below wr.heap.size wr W3 := HW1.out.trans ((show Below W1.heap.size W1 W3 from ⟨hb.os, hb.tape, hb.output, hb.size, hb.block⟩).mono HW1.out.size); have hcv2 := Hcv.out W3 hS1; clear hb))
                      have HW3 := Lib.hid hS1
                      clear hcv0 hcv1 hcv2 hS1
                      go_wp2_with fail
                      exact ⟨⟨j + 1, by omega, by go_num, Hbq2.out.trans (HW3.out.mono Hbq2.out.size)⟩, by simp [intOf]; omega⟩
                    · have hq2 : ((j : Int) == n) = false := by simp; omega
                      clear hv hje
                      go_wp2_with fail
                      clear hcm hxm hbag hhd hco
                      go_region_held3 (fun w' => (convert 24 9 (.slice (some ⟨b1, 0, none⟩) (textS q j).size cb)).run Tryd.prog w' = .ok (.string (textS q j)) w' ∧ Below wr.heap.size wr w')
                        (first | exact ⟨hcv0, Below.refl _ _⟩ | exact ⟨hcv1, (Below.refl _ _).drew⟩ | exact ⟨hcv2, hS1⟩)
                        (first | (go_at_call 82; refine (HC.out _ (by exact (Below.refl _ _).drew)).mono ?_; rintro e W1 ⟨rfl, hb⟩; have hS1 : Below wr.heap.size wr W1 := ⟨hb.os, hb.tape, hb.output, hb.size, hb.block⟩; have hcv2 := Hcv.out W1 hS1; clear hb))
                      have HW1 := Lib.hid hS1
                      clear hcv0 hcv1 hcv2 hS1
                      have hcm1 := (HW1.out.cell (p := ⟨bm, q, none⟩) HLT.out.1).trans HCM.out
                      have hxm1 := (HW1.out.cell (p := ⟨bx, j, none⟩) HLT.out.2).trans HXM.out
                      have hcv0 := Hcv.out W1 HW1.out
                      have hcv1 := Hcv.out W1.drew HW1.out.drew
                      go_wp2_with fail
                      go_region_held3 (fun w' => (convert 24 9 (.slice (some ⟨b1, 0, none⟩) (textS q j).size cb)).run Tryd.prog w' = .ok (.string (textS q j)) w' ∧ Below wr.heap.size wr w')
                        (first | exact ⟨hcv0, HW1.out⟩ | exact ⟨hcv1, HW1.out.drew⟩ | exact ⟨hcv2, hS1⟩)
                        (first | (go_at_call 82; refine (HC.out _ (by exact HW1.out.drew)).mono ?_; rintro e W3 ⟨rfl, hb⟩; have hS1 : Below wr.heap.size wr W3 := HW1.out.trans ((show Below W1.heap.size W1 W3 from ⟨hb.os, hb.tape, hb.output, hb.size, hb.block⟩).mono HW1.out.size); have hcv2 := Hcv.out W3 hS1; clear hb))
                      have HW3 := Lib.hid hS1
                      clear hcv0 hcv1 hcv2 hS1
                      go_wp2_with fail
                      exact ⟨⟨j + 1, by omega, by go_num, Hbq2.out.trans (HW3.out.mono Hbq2.out.size)⟩, by simp [intOf]; omega⟩
                · obtain rfl : j = n + 70 := by omega
                  have hjl' : decide ((n : Int) + 70 < (n : Int) + 70) = false := by simp
                  go_wp2_with fail
                  exact ⟨⟨q + 1, by omega, by go_num, Hbq2.out⟩, by simp [intOf]; omega⟩
            · obtain rfl : N = q := by omega
              go_wp2_with fail
              go_ret
              exact ⟨rfl, Hkp.out.more Hbq.out⟩
end Go.Proofs.YtndkhlafpcedbaaDoor
