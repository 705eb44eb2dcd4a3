/- flagonref00.Bag: apartBytes. -/
import Derived.Test.YtndkhlafpcedbaaDoorBagP
import Derived.Test.YtndkhlafpcedbaaDoorProg
import Derived.Test.YtndkhlafpcedbaaDoorApp
import Derived.Handy
import Derived.KernelRfl
namespace Go.Proofs.YtndkhlafpcedbaaDoor
set_option linter.unusedVariables false
open Go.RowKit
theorem Tryd.info_u8' : (Tryd.prog.info? 5).map (fun i => (i.zero, i.size, i.bytes)) = some (some (.int .u8 0), 1, 1) := by kernel_rfl
theorem Tryd.info_bs' : (Tryd.prog.info? 24).map (fun i => (i.zero, i.size, i.bytes)) = some (some (.slice none 0 0), 1, 24) := by kernel_rfl
def mkB (k i : Nat) : Value := .int .u8 (((31 * k + 7 * i + 3) % 256 : Nat) : Int)
theorem mkB_form (k i : Nat) : ∃ x : Nat, mkB k i = .int .u8 (x : Int) ∧ IntKind.u8.wrap (31 * (k : Int) + 7 * (i : Int) + 3) = (x : Int) :=
  ⟨(31 * k + 7 * i + 3) % 256, rfl, by rw [IntKind.wrap_u8]; omega⟩
theorem app1_u8 (w : World) {ops : Array Oper} {rest : List Oper} {o : Oper} {a : Act} {Q : Exit → Act → World → Prop} (hgd : o.guard = none) (s x : Operand)
    (ho : o.op = .call { callee := .builtin .append, args := #[s, x], argTypes := #[24, 24] }) (base : Nat)
    (A : Option Addr) (n c : Nat) (xs : List Value) (hs : a.eval s = .slice A n c) (hown : w.ownsRow base 5 1 (.slice A n c) n xs) (sb c2 : Nat) (u : Value) (hx : a.eval x = .slice (some ⟨sb, 0, none⟩) 1 c2) (hu : w.cell? ⟨sb, 0, none⟩ = some u) (h1 : u.oneCell' = true)
    (h47 : n + 1 ≤ 140737488351232) (hbase : base ≤ w.heap.size)
    (h : ∀ A' c' w', w'.ownsRow base 5 1 (.slice A' (n + 1) c') (n + 1) (xs ++ [u]) → w.grownBy w' (Value.slice A' (n + 1) c').ownBlock → ((Value.slice A' (n + 1) c').ownBlock = (Value.slice A n c).ownBlock ∨ (Value.slice A' (n + 1) c').ownBlock = some w.heap.size) → wpList Tryd.prog ops Q rest (a.put o.dst (.slice A' (n + 1) c')) w') : wpList Tryd.prog ops Q (o :: rest) a w := by
  obtain ⟨i0, hi, hz, hs', hb⟩ := info_parts Tryd.info_u8'
  exact wpList_app1 w hgd s x 24 ho base 5 i0 (.int .u8 0) 1 Tryd.underlying24 hi hz hs' hb rfl _ n xs hs hown sb c2 u hx hu h1 (by unfold maxLen; omega) (by omega) hbase h
theorem app1_bs (w : World) {ops : Array Oper} {rest : List Oper} {o : Oper} {a : Act} {Q : Exit → Act → World → Prop} (hgd : o.guard = none) (s x : Operand)
    (ho : o.op = .call { callee := .builtin .append, args := #[s, x], argTypes := #[29, 29] }) (base : Nat)
    (A : Option Addr) (n c : Nat) (xs : List Value) (hs : a.eval s = .slice A n c) (hown : w.ownsRow base 24 1 (.slice A n c) n xs) (sb c2 : Nat) (u : Value) (hx : a.eval x = .slice (some ⟨sb, 0, none⟩) 1 c2) (hu : w.cell? ⟨sb, 0, none⟩ = some u) (h1 : u.oneCell' = true)
    (h47 : n ≤ 1000000) (hbase : base ≤ w.heap.size)
    (h : ∀ A' c' w', w'.ownsRow base 24 1 (.slice A' (n + 1) c') (n + 1) (xs ++ [u]) → w.grownBy w' (Value.slice A' (n + 1) c').ownBlock → ((Value.slice A' (n + 1) c').ownBlock = (Value.slice A n c).ownBlock ∨ (Value.slice A' (n + 1) c').ownBlock = some w.heap.size) → wpList Tryd.prog ops Q rest (a.put o.dst (.slice A' (n + 1) c')) w') : wpList Tryd.prog ops Q (o :: rest) a w := by
  obtain ⟨i0, hi, hz, hs', hb⟩ := info_parts Tryd.info_bs'
  exact wpList_app1 w hgd s x 29 ho base 24 i0 (.slice none 0 0) 24 Tryd.underlying29 hi hz hs' hb rfl _ n xs hs hown sb c2 u hx hu h1 (by unfold maxLen; omega) (by omega) hbase h
section
variable (base : Nat) (bl : List Hd) (w : World)
def BA (i : Value) (wr : World) : Prop := ∃ k : Nat, k ≤ bl.length ∧ i = .int .i64 k ∧ MA base 5 mkB bl wr k 0 ∧ KeptB w wr (Foot bl)
def BAin (k n : Nat) (i : Value) (wr : World) : Prop := ∃ j : Nat, j ≤ n ∧ i = .int .i64 j ∧ MA base 5 mkB bl wr k j ∧ KeptB w wr (Foot bl)
structure BB (k : Nat) (o m : Value) (wr : World) (rs : List Tr) (ones mores : List Value) : Prop where
  lb : LB base 5 mkB bl wr k rs ones mores
  one : wr.ownsRow w.heap.size 24 1 o k ones
  more : wr.ownsRow w.heap.size 24 1 m k mores
  apart : ∀ b, m.ownBlock = some b → o.ownBlock ≠ some b
  kept : KeptB w wr (Foot bl)
def BBrel (o m i : Value) (wr : World) : Prop := ∃ (k : Nat) (rs : List Tr) (ones mores : List Value) (A1 : Option Addr) (c1 : Nat) (A2 : Option Addr) (c2 : Nat),
  k ≤ bl.length ∧ i = .int .i64 k ∧ o = .slice A1 k c1 ∧ m = .slice A2 k c2 ∧ BB base bl w k o m wr rs ones mores
structure BI (k j L : Nat) (Al : Option Addr) (cl : Nat) (o m : Value) (n1 : Nat) (wr : World) (rs : List Tr) (ones mores : List Value) : Prop where
  li : LI base 5 mkB bl wr k j L Al cl rs ones mores
  one : wr.ownsRow w.heap.size 24 1 o n1 ones
  more : wr.ownsRow w.heap.size 24 1 m k mores
  apart : ∀ b, m.ownBlock = some b → o.ownBlock ≠ some b
  kept : KeptB w wr (Foot bl)
  alb : ∀ b, blockOf Al = some b → Foot bl b ∨ w.heap.size ≤ b
def BIrel (k L : Nat) (m : Value) (o l i : Value) (wr : World) : Prop := ∃ (j I : Nat) (rs : List Tr) (ones mores : List Value) (A1 : Option Addr) (n1 c1 : Nat) (Al : Option Addr) (cl : Nat),
  I = L + j ∧ j ≤ 70 ∧ i = .int .i64 I ∧ l = .slice Al I cl ∧ o = .slice A1 n1 c1 ∧ n1 ≤ k + 1 ∧ BI base bl w k j L Al cl o m n1 wr rs ones mores
end
set_option maxRecDepth 100000 in
set_option maxHeartbeats 8000000 in
theorem apart_bytes (g base N cH : Nat) (cells : List Value) (AH : Option Addr) (bl : List Hd) (w : World) (hb : Blk w g 47 cells) (hc0 : cells[0]? = some (.slice AH N cH)) (hN : N = bl.length) (hN300 : N ≤ 300)
    (hH : w.ownsRow base 24 1 (.slice AH N cH) N (bl.map hdV)) (hown : ∀ (q : Nat) A n c, bl[q]? = some (A, n, c) → ∃ xs, w.ownsRow base 5 1 (.slice A n c) n xs) (hd : Dist bl)
    (hL : ∀ (q : Nat) A n c, bl[q]? = some (A, n, c) → n ≤ 70368744177000) (hbase : base ≤ w.heap.size) :
    Calls Tryd.prog 64 #[.pointer (some ⟨g, 0, none⟩)] w fun e w' => e = .returned (.bool true) ∧ KeptB w w' (Foot bl) := by
  have hfg := foot_blk hown hb (by decide)
  have hfh := foot_own hown hH (by decide)
  have HBag : Hid (∀ W, KeptB w W (Foot bl) → W.cell? ⟨g, 0, none⟩ = some (.slice AH N cH)) := Lib.hid (fun W hW => by rw [(hW.blk hb hfg).cell 0, hc0])
  have HHdr : Hid (∀ W, KeptB w W (Foot bl) → ∀ (k : Nat) A n c, bl[k]? = some (A, n, c) → ∃ b, AH = some ⟨b, 0, none⟩ ∧ W.cell? ⟨b, k, none⟩ = some (.slice A n c)) := Lib.hid (fun W hW k A n c hk =>
    own_hdr (hW.own hH hfh) (by rw [List.getElem?_map, hk]; rfl))
  have HL := Lib.hid hL; clear hL
  have Hd := Lib.hid hd; clear hd
  have HN := Lib.hid hN; clear hN
  have HMA : Hid (MA base 5 mkB bl w 0 0) := Lib.hid (MA.start hown)
  clear hb hc0 hH hown hfg hfh
  go_enter Tryd.func64, Tryd.ntmps64
  go_wp2_with fail
  go_loopw [3] (fun i wr => BA base bl w i wr) (fun i _ => N - (intOf i).toNat)
  case atStart => exact ⟨0, Nat.zero_le _, rfl, HMA.out, KeptB.refl _ _⟩
  case round =>
    obtain ⟨k, hk, rfl, hma, hkept⟩ := hrel
    have Hma := Lib.hid hma; clear hma
    have Hkept := Lib.hid hkept; clear hkept
    rw [← HN.out] at hk
    have hbag := HBag.out _ Hkept.out
    have hk0 : (0 : Int) ≤ k := by omega
    by_cases hlt : k < N
    · obtain ⟨⟨A, n, c⟩, hbk⟩ : ∃ x, bl[k]? = some x := ⟨_, List.getElem?_eq_getElem (by rw [← HN.out]; exact hlt)⟩
      obtain ⟨bh, rfl, hhd⟩ := HHdr.out _ Hkept.out k A n c hbk
      have hn47 := HL.out k A n c hbk
      have Hbk := Lib.hid hbk; clear hbk
      clear hhd hbag
      obtain ⟨wo, hwo⟩ : ∃ wo : World, wo = wr := ⟨_, rfl⟩
      subst hwo
      have hbag := HBag.out _ Hkept.out
      go_wp2_with fail
      clear hbag
      go_loopw [4] (fun i wr => BAin base bl w k n i wr) (fun i _ => n - (intOf i).toNat)
      case atStart => exact ⟨0, Nat.zero_le _, rfl, Hma.out, Hkept.out⟩
      case round =>
        obtain ⟨j, hj, rfl, hma, hkept⟩ := hrel
        have Hma2 := Lib.hid hma; clear hma
        have Hkept2 := Lib.hid hkept; clear hkept
        have hbag := HBag.out _ Hkept2.out
        obtain ⟨bh', hbh, hhd⟩ := HHdr.out _ Hkept2.out k A n c Hbk.out
        injection hbh with hbh
        injection hbh with hbh
        subst hbh
        have hj0 : (0 : Int) ≤ j := by omega
        by_cases hjl : j < n
        · obtain ⟨gr, u, rfl, hcu, hfr⟩ := Hma2.out.place Hbk.out hjl
          obtain ⟨x, hx, hwx⟩ := mkB_form k j
          have Hx := Lib.hid hx; clear hx
          have hFg : Hid (Foot bl gr) := Lib.hid ⟨k, _, n, c, Hbk.out, rfl⟩
          go_wp2_with fail
          refine ⟨⟨j + 1, by omega, by go_num, ?_, Hkept2.out.set ⟨gr, j, none⟩ _ hFg.out⟩, by simp [intOf]; omega⟩
          rw [← Hx.out]
          exact Hma2.out.step Hd.out Hbk.out hjl
        · obtain rfl : n = j := by omega
          go_wp2_with fail
          exact ⟨⟨k + 1, by rw [← HN.out]; omega, by go_num, Hma2.out.next Hbk.out rfl, Hkept2.out⟩, by simp [intOf]; omega⟩
    · obtain rfl : N = k := by omega
      have HLB := Lib.hid (LB.start (by have := Hma.out; rw [HN.out] at this; exact this) Hd.out)
      clear HMA
      obtain ⟨wo, hwo⟩ : ∃ wo : World, wo = wr := ⟨_, rfl⟩
      subst hwo
      go_wp2_with fail
      clear hbag
      go_loopw [5, 6, 7] (fun o m i wr => BBrel base bl w o m i wr) (fun _ _ i _ => N - (intOf i).toNat)
      case atStart => exact ⟨0, _, [], [], none, 0, none, 0, Nat.zero_le _, rfl, rfl, rfl, HLB.out, World.ownsRow_nil _ _ _ _, World.ownsRow_nil _ _ _ _, (fun b hb => by cases hb), Hkept.out⟩
      case round =>
        obtain ⟨k, rs, ones, mores, A1, c1, A2, c2, hk, rfl, rfl, rfl, hbb⟩ := hrel
        have Hbb := Lib.hid hbb; clear hbb
        rw [← HN.out] at hk
        have hbag := HBag.out _ Hbb.out.kept
        have hk0 : (0 : Int) ≤ k := by omega
        by_cases hlt : k < N
        · obtain ⟨⟨A, n, c⟩, hbk⟩ : ∃ x, bl[k]? = some x := ⟨_, List.getElem?_eq_getElem (by rw [← HN.out]; exact hlt)⟩
          obtain ⟨bh, rfl, hhd⟩ := HHdr.out _ Hbb.out.kept k A n c hbk
          have hn47 := HL.out k A n c hbk
          have Hbk := Lib.hid hbk; clear hbk
          have HLI := Lib.hid (LI.start Hbb.out.lb Hd.out Hbk.out)
          have Hst : Hid (BIrel base bl w k n (.slice A2 k c2) (.slice A1 k c1) (.slice A n c) (.int .i64 n) wr) := Lib.hid ⟨0, n, rs, ones, mores, A1, k, c1, A, c, rfl, by omega, rfl, rfl, rfl, by omega, HLI.out, Hbb.out.one, Hbb.out.more, Hbb.out.apart, Hbb.out.kept, fun b hb => .inl ⟨k, A, n, c, Hbk.out, hb⟩⟩
          clear HLI
          obtain ⟨wo, hwo⟩ : ∃ wo : World, wo = wr := ⟨_, rfl⟩
          subst hwo
          go_wp2_with fail
          clear hbag hhd
          go_loopw [5, 8, 9] (fun o l i wr => BIrel base bl w k n (.slice A2 k c2) o l i wr) (fun _ _ i _ => n + 70 - (intOf i).toNat)
          case atStart => exact Hst.out
          case round =>
            obtain ⟨j, I, rs, ones, mores, A1, n1, c1, Al, cl, hI, hj, rfl, rfl, rfl, hn1, hbi⟩ := hrel
            have HI := Lib.hid hI
            have Hbi := Lib.hid hbi; clear hbi
            have hbag := HBag.out _ Hbi.out.kept
            obtain ⟨bh', hbh, hhd⟩ := HHdr.out _ Hbi.out.kept k A n c Hbk.out
            injection hbh with hbh
            injection hbh with hbh
            subst hbh
            have hI0 : (0 : Int) ≤ I := by omega
            have hI47 : I ≤ n + 70 := by omega
            by_cases hjl : j < 70
            · have hIl : I < n + 70 := by omega
              clear hI
              obtain ⟨x, hx, hwx⟩ := mkB_form k I
              have Hx := Lib.hid hx; clear hx
              have hIl' : (I : Int) < (n : Int) + 70 := by omega
              have hown : wr.ownsRow base 5 1 (.slice Al I cl) I (mks mkB k I) := by have := Hbi.out.li.ownl; rw [← HI.out] at this; exact this
              have Hown := Lib.hid hown; clear hown
              have hszr : w.heap.size ≤ wr.heap.size := Hbi.out.kept.size
              have hcu : (wr.alloc (.cells #[.int .u8 x] 5)).cell? ⟨wr.heap.size, 0, none⟩ = some (.int .u8 x) := (Blk.new wr 5 [.int .u8 x]).cell 0
              have Hcu := Lib.hid hcu; clear hcu
              by_cases hj0 : j = 0
              case' pos =>
                have hq : ((I : Int) == n) = true := by have := HI.out; simp; omega
              case' neg =>
                have hq : ((I : Int) == n) = false := by have := HI.out; simp; omega
              case' neg =>
                go_wp2_with (at_builtin; (refine app1_u8 _ rfl (.tmp 82) (.tmp 90) rfl base Al I cl (mks mkB k I) rfl (Hown.out.alloc _) wr.heap.size 1 (.int .u8 x) rfl Hcu.out rfl (by omega) (by simp; omega) ?_; intro A3 c3 w3 h2 h3 h4; have hk3 := (Hbi.out.kept.alloc _).app h3 h4 (by rw [ownBlock_of]; exact Hbi.out.alb); have Hk3 := Lib.hid hk3; have Hone3 := Lib.hid (((EKeep.alloc 24 _ _).trans (EKeep.app (Hown.out.alloc _) h3 h4 (by decide))).own Hbi.out.one); have Hmore3 := Lib.hid (((EKeep.alloc 24 _ _).trans (EKeep.app (Hown.out.alloc _) h3 h4 (by decide))).own Hbi.out.more); have hsz3 : w.heap.size ≤ w3.heap.size := hk3.1.size; have H2 := Lib.hid h2; have H3 := Lib.hid h3; have H4 := Lib.hid h4; clear h2 h3 h4 hk3; have hbag3 := HBag.out _ Hk3.out.1; have hhd3 := (HHdr.out _ Hk3.out.1 k A n c Hbk.out); obtain ⟨bh2, hbh, hhd3⟩ := hhd3; injection hbh with hbh; injection hbh with hbh; subst hbh))
                have e := HI.out
                subst e
                refine ⟨⟨j + 1, n + j + 1, rs, ones, mores, A1, n1, c1, A3, c3, by omega, by omega, by go_num, rfl, rfl, hn1, ?_⟩, by simp [intOf]; omega⟩
                have h2 := H2.out
                rw [← Hx.out] at h2
                exact ⟨(Hbi.out.li.keep (EKeep.alloc _ _ _)).went (by omega) h2 H3.out H4.out, Hone3.out, Hmore3.out, Hbi.out.apart, Hk3.out.1, fun b hb => Hk3.out.2 b (by rw [ownBlock_of]; exact hb)⟩
              case' pos =>
                subst hj0
                have hn1k : n1 = k := by have h1 := Hbi.out.li.one.1 rfl; have h2 := Hbi.out.one.1; omega
                have Hn1k := Lib.hid hn1k; clear hn1k
                have tok1 : True := trivial
                go_wp2_with (at_builtin; first | (have _t := tok1; refine app1_u8 _ rfl (.tmp 82) (.tmp 90) rfl base Al I cl (mks mkB k I) rfl (Hown.out.alloc _) wr.heap.size 1 (.int .u8 x) rfl Hcu.out rfl (by omega) (by simp; omega) ?_; intro A3 c3 w3 h2 h3 h4; have hk3 := (Hbi.out.kept.alloc _).app h3 h4 (by rw [ownBlock_of]; exact Hbi.out.alb); have Hk3 := Lib.hid hk3; have Hone3 := Lib.hid (((EKeep.alloc 24 _ _).trans (EKeep.app (Hown.out.alloc _) h3 h4 (by decide))).own Hbi.out.one); have Hmore3 := Lib.hid (((EKeep.alloc 24 _ _).trans (EKeep.app (Hown.out.alloc _) h3 h4 (by decide))).own Hbi.out.more); have hsz3 : w.heap.size ≤ w3.heap.size := hk3.1.size; have H2 := Lib.hid h2; have H3 := Lib.hid h3; have H4 := Lib.hid h4; clear h2 h3 h4 hk3; have hbag3 := HBag.out _ Hk3.out.1; have hhd3 := (HHdr.out _ Hk3.out.1 k A n c Hbk.out); obtain ⟨bh2, hbh, hhd3⟩ := hhd3; injection hbh with hbh; injection hbh with hbh; subst hbh; have hc4 : (w3.alloc (.cells #[.slice A3 (I + 1) c3] 24)).cell? ⟨w3.heap.size, 0, none⟩ = some (.slice A3 (I + 1) c3) := (Blk.new w3 24 [.slice A3 (I + 1) c3]).cell 0; have Hc4 := Lib.hid hc4; clear hc4 tok1 _t) | (refine app1_bs _ rfl (.tmp 102) (.tmp 104) rfl w.heap.size A1 n1 c1 ones rfl (Hone3.out.alloc _) w3.heap.size 1 (.slice A3 (I + 1) c3) rfl Hc4.out rfl (by omega) (by simp; omega) ?_; intro A5 c5 w4 g2 g3 g4; have G2 := Lib.hid g2; have G3 := Lib.hid g3; have G4 := Lib.hid g4; clear g2 g3 g4))
                have hk4 := KeptB.app (Hk3.out.1.alloc (.cells #[.slice A3 (I + 1) c3] 24)) G3.out G4.out (own_ge Hone3.out)
                have hm4 := own_app (Hmore3.out.alloc (.cells #[.slice A3 (I + 1) c3] 24)) G3.out G4.out Hbi.out.apart
                have e := HI.out
                subst e
                have e1 := Hn1k.out
                subst e1
                have h2 := H2.out
                rw [← Hx.out] at h2
                have hE : EKeep 5 w3 w4 := (EKeep.alloc _ _ _).trans (EKeep.app (Hone3.out.alloc _) G3.out G4.out (by decide))
                have hli := (Hbi.out.li.keep (EKeep.alloc _ _ (.cells #[.int .u8 x] 5))).noted Hbk.out h2 H3.out H4.out hE
                exact ⟨⟨1, _, _, _, mores, A5, n1 + 1, c5, A3, c3, by omega, by omega, by go_num, rfl, rfl, by omega, hli, G2.out, hm4.1, hm4.2, hk4.1, fun b hb => Hk3.out.2 b (by rw [ownBlock_of]; exact hb)⟩, by first | (simp [intOf]; done) | (simp [intOf]; omega)⟩
            · obtain rfl : j = 70 := by omega
              have hI2 : I = n + 70 := hI
              clear hI
              subst hI2
              have hIl' : decide ((n : Int) + 70 < (n : Int) + 70) = false := by simp
              have hcl : (wr.alloc (.cells #[.slice Al (n + 70) cl] 24)).cell? ⟨wr.heap.size, 0, none⟩ = some (.slice Al (n + 70) cl) := (Blk.new wr 24 [.slice Al (n + 70) cl]).cell 0
              have Hcl := Lib.hid hcl; clear hcl
              have hszr : w.heap.size ≤ wr.heap.size := Hbi.out.kept.size
              go_wp2_with (at_builtin; refine app1_bs _ rfl (.tmp 106) (.tmp 108) rfl w.heap.size A2 k c2 mores rfl (Hbi.out.more.alloc _) wr.heap.size 1 (.slice Al (n + 70) cl) rfl Hcl.out rfl (by omega) (by simp; omega) ?_; intro A5 c5 w4 g2 g3 g4; have G2 := Lib.hid g2; have G3 := Lib.hid g3; have G4 := Lib.hid g4; clear g2 g3 g4)
              have hk4 := KeptB.app (Hbi.out.kept.alloc (.cells #[.slice Al (n + 70) cl] 24)) G3.out G4.out (own_ge Hbi.out.more)
              have hm4 := own_app (Hbi.out.one.alloc (.cells #[.slice Al (n + 70) cl] 24)) G3.out G4.out (fun b h1 h2 => Hbi.out.apart b h2 h1)
              have hn1k : n1 = k + 1 := by have h1 := Hbi.out.li.one.2.1 (by omega); have h2 := Hbi.out.one.1; omega
              have hE : EKeep 5 wr w4 := (EKeep.alloc _ _ _).trans (EKeep.app (Hbi.out.more.alloc (.cells #[.slice Al (n + 70) cl] 24)) G3.out G4.out (by decide))
              have hlb := Hbi.out.li.done Hbk.out hE
              subst hn1k
              exact ⟨⟨k + 1, _, ones, mores ++ [.slice Al (n + 70) cl], A1, c1, A5, c5, by rw [← HN.out]; omega, by go_num, rfl, rfl, hlb, hm4.1, G2.out, fun b h1 h2 => hm4.2 b h2 h1, hk4.1⟩, by simp [intOf]; omega⟩
        · obtain rfl : N = k := by omega
          have Hlb := Lib.hid Hbb.out.lb
          have Hone := Lib.hid Hbb.out.one
          have Hmore := Lib.hid Hbb.out.more
          have Hkp := Lib.hid Hbb.out.kept
          clear Hbb
          obtain ⟨wo, hwo⟩ : ∃ wo : World, wo = wr := ⟨_, rfl⟩
          subst hwo
          go_wp2_with fail
          go_loopw [10] (fun i wr => ∃ q : Nat, q ≤ N ∧ i = .int .i64 q ∧ wr = wo) (fun i _ => N - (intOf i).toNat)
          case atStart => exact ⟨0, Nat.zero_le _, rfl, rfl⟩
          case round =>
            obtain ⟨q, hq, rfl, rfl⟩ := hrel
            have hq0 : (0 : Int) ≤ q := by omega
            by_cases hql : q < N
            · obtain ⟨A, n, c, Am, cm, hbq, hmq, hmr⟩ := Hlb.out.more.2 q hql
              obtain ⟨A', n', c', Ao, co, hbq', hoq, hor⟩ := Hlb.out.one.2 q hql
              rw [hbq] at hbq'
              injection hbq' with hbq'
              injection hbq' with e1 e2
              injection e2 with e2 e3
              subst e1 e2 e3
              have Hrm := Lib.hid (Hlb.out.reads _ hmr)
              have Hro := Lib.hid (Hlb.out.reads _ hor)
              have Hrg := Lib.hid (Hlb.out.reads _ (Hlb.out.origs q A n c hbq))
              have hn47 := HL.out q A n c hbq
              obtain ⟨bm, rfl, hcm⟩ := own_hdr Hmore.out hmq
              obtain ⟨bo, rfl, hco⟩ := own_hdr Hone.out hoq
              obtain ⟨bh, rfl, hhd⟩ := HHdr.out _ Hkp.out q A n c hbq
              have Hbq := Lib.hid hbq; clear hbq
              clear hmq hoq hmr hor
              obtain ⟨wq, hwq⟩ : ∃ wq : World, wq = wr := ⟨_, rfl⟩
              subst hwq
              go_wp2_with fail
              go_loopw [11] (fun i wr => ∃ j : Nat, j ≤ n + 70 ∧ i = .int .i64 j ∧ wr = wq) (fun i _ => n + 70 - (intOf i).toNat)
              case atStart => exact ⟨0, Nat.zero_le _, rfl, rfl⟩
              case round =>
                obtain ⟨j, hj, rfl, rfl⟩ := hrel
                have hj0 : (0 : Int) ≤ j := by omega
                by_cases hjl : j < n + 70
                · have hjl' : (j : Int) < (n : Int) + 70 := by omega
                  obtain ⟨x, hx, hwx⟩ := mkB_form q j
                  obtain ⟨b1, rfl, hx1⟩ := Hrm.out.cell (mks_get mkB q (n + 70) j hjl)
                  rw [hx] at hx1
                  by_cases hjn : j < n
                  · have hq1 : decide (j < n) = true := decide_eq_true hjn
                    have hq2 : ((j : Int) == n) = false := by simp; omega
                    obtain ⟨b2, rfl, hx2⟩ := Hrg.out.cell (mks_get mkB q n j hjn)
                    rw [hx] at hx2
                    clear hx
                    go_wp2_with fail
                    exact ⟨⟨j + 1, by omega, by go_num, trivial⟩, by simp [intOf]; omega⟩
                  · have hq1 : decide (j < n) = false := decide_eq_false hjn
                    by_cases hje : j = n
                    · have hq2 : ((j : Int) == n) = true := by simp; omega
                      obtain ⟨b2, rfl, hx2⟩ := Hro.out.cell (mks_get mkB q (n + 1) j (by omega))
                      rw [hx] at hx2
                      clear hx hje
                      have hjn1 : (j : Int) < (n : Int) + 1 := by have := hq2; simp at this; omega
                      go_wp2_with fail
                      exact ⟨⟨j + 1, by omega, by go_num, trivial⟩, by simp [intOf]; omega⟩
                    · have hq2 : ((j : Int) == n) = false := by simp; omega
                      clear hx hje
                      go_wp2_with fail
                      exact ⟨⟨j + 1, by omega, by go_num, trivial⟩, by simp [intOf]; omega⟩
                · obtain rfl : j = n + 70 := by omega
                  have hjl' : decide ((n : Int) + 70 < (n : Int) + 70) = false := by simp
                  go_wp2_with fail
                  exact ⟨⟨q + 1, by omega, by go_num, trivial⟩, by simp [intOf]; omega⟩
            · obtain rfl : N = q := by omega
              go_wp2_with fail
              go_ret
              exact ⟨rfl, Hkp.out⟩
end Go.Proofs.YtndkhlafpcedbaaDoor
