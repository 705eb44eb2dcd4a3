/- mem: Grow, walked. -/
import Derived.Test.YtndkhlafpcedbaaMemJ
namespace Go.Proofs.Ytndkhlafpcedbaa
set_option linter.unusedVariables false
open Go.RowKit
def GrRel (base : Nat) (m : MemV) (n : Nat) (w : World) (i : Value) (wr : World) : Prop := ∃ (k : Nat) (m' : MemV), k ≤ n ∧ i = .int .u64 k ∧ Grown base m k w wr m'
set_option maxRecDepth 100000 in
set_option maxHeartbeats 1000000 in
theorem mem_Grow (base : Nat) (m : MemV) (n : Nat) (w : World) (hm : MAt base w m) (hn : n < 18446744073709551616) :
    Calls Try.prog 56 #[.pointer (some ⟨m.p, 0, none⟩), .int .u64 n] w fun e w' =>
      if m.most < m.bs.length + n then w = w' ∧ e = .returned (.int .i64 (-1)) else e = .returned (.int .i64 m.bs.length) ∧ ∃ m', Grown base m n w w' m' := by
  have HO := Lib.hid (mem_ok base m w hm)
  have HM := Lib.hid hm
  have hc1 := hm.cell1
  have hc2 := hm.cell2
  have hnp := hm.np
  have hmo := hm.most
  clear hm
  by_cases hbig : m.most < m.bs.length + n
  · simp only [if_pos hbig]
    have q1 : ((m.most : Int) - m.bs.length) < n := by omega
    have q0 : (0 : Int) ≤ (m.most : Int) - m.bs.length := by omega
    clear HM
    generalize m.bs.length = np at *
    generalize m.most = mo at *
    generalize m.p = p at *
    generalize m.A = A at *
    generalize m.c = c at *
    go_enter Try.func56, Try.ntmps56
    go_wp2_with fail
    refine HO.out.mono ?_
    rintro e w' ⟨rfl, rfl⟩
    go_wp2_with fail
    go_ret
    exact ⟨rfl, rfl⟩
  · simp only [if_neg hbig]
    have q1 : decide (((m.most : Int) - m.bs.length) < n) = false := decide_eq_false (by omega)
    have q0 : (0 : Int) ≤ (m.most : Int) - m.bs.length := by omega
    have hn64 : m.bs.length + n ≤ 64 := by omega
    have Hle : Hid (m.bs.length + n ≤ m.most) := Lib.hid (by omega)
    clear hbig
    go_enter Try.func56, Try.ntmps56
    go_wp2_with fail
    refine HO.out.mono ?_
    rintro e w' ⟨rfl, rfl⟩
    go_wp2_with fail
    go_loopw [24] (fun i wr => GrRel base m n w i wr) (fun i _ => n - (intOf i).toNat)
    case atStart => exact ⟨0, m, Nat.zero_le _, rfl, Grown.start HM.out⟩
    case round =>
      obtain ⟨k, m', hk, rfl, hgr⟩ := hrel
      have Hg := Lib.hid hgr; clear hgr
      by_cases hlt : k < n
      · have hc1' := Hg.out.at_.cell1
        rw [Hg.out.p, Hg.out.bs] at hc1'
        have hj : m.bs.length + k < 64 := by omega
        have hcd := Hg.out.at_.celld hj
        have hfd := Hg.out.at_.own.frozen (3 + (m.bs.length + k))
        rw [Hg.out.p] at hcd hfd
        obtain ⟨q, hq⟩ : ∃ q, q = m.bs.length + k := ⟨_, rfl⟩
        rw [← hq] at hc1' hcd hfd hj
        have Hq := Lib.hid hq; clear hq
        have hqi : (q : Int) < 64 := by omega
        go_wp2_with fail
        go_region
        have hmd : MAt base (wr.setCell ⟨m.p, 3 + q, none⟩ (.bool true)).drew (m'.mark q) := by
          have := Hg.out.at_.mark (by decide) (by decide) q
          rw [Hg.out.p] at this
          exact this.keep fun _ _ => rfl
        have hkd : KeptF wr (wr.setCell ⟨m.p, 3 + q, none⟩ (.bool true)).drew m.foot := (KeptF.setCell (p := ⟨m.p, 3 + q, none⟩) (.inl rfl) _).drewN 1
        generalize (wr.setCell ⟨m.p, 3 + q, none⟩ (.bool true)).drew = wd at *
        have HMd := Lib.hid hmd; clear hmd
        have HKd := Lib.hid hkd; clear hkd
        clear hc1' hcd hfd
        have hpe : (m'.mark q).p = m.p := Hg.out.p
        have hbs : (m'.mark q).bs.length = q := by rw [Hq.out]; exact Hg.out.bs
        have hc1 := HMd.out.cell1
        have hf1 := HMd.out.own.frozen 1
        rw [hpe, hbs, show (m'.mark q).A = m'.A from rfl, show (m'.mark q).c = m'.c from rfl] at hc1
        rw [hpe] at hf1
        have Hrow := Lib.hid HMd.out.row
        rw [hbs, show (m'.mark q).bs = m'.bs from rfl, show (m'.mark q).A = m'.A from rfl, show (m'.mark q).c = m'.c from rfl] at Hrow
        have Hp := Lib.hid hpe; clear hpe
        have Hbs := Lib.hid hbs; clear hbs
        have Hone : Hid (Row ((wd.alloc (.cells (zpageB.map bv).toArray 111)).alloc (.cells #[ptrV wd.heap.size] 109)) (wd.heap.size + 1 + 1) (some ⟨wd.heap.size + 1, 0, none⟩) [ptrV wd.heap.size]) := by
          have := row_one (wd.alloc (.cells (zpageB.map bv).toArray 111)) (ptrV wd.heap.size) 109
          rw [World.size_alloc] at this
          exact Lib.hid this
        have hzp := zpage
        have hbz : base ≤ wd.heap.size := by have := HMd.out.low.1; have := HMd.out.own.lt; omega
        go_wp2_with (at_builtin; refine app_page _ rfl (.tmp 39) (.tmp 42) rfl base m'.A q m'.c (m'.bs.map ptrV) rfl ((Hrow.out.alloc _).alloc _) (wd.heap.size + 1 + 1) _ 1 1 [ptrV wd.heap.size] rfl rfl Hone.out (ptr_one [wd.heap.size]) (by omega) (by simp; omega) ?_; intro A' c' w3 h2 h3 h4; have hb3 := Lib.hid (HMd.out.grow_own (by decide) (by rw [Hbs.out]; exact h3)); have hc3 := hb3.out.cell 1; have hf3 := hb3.out.frozen 1; rw [Hp.out] at hc3 hf3; rw [show (m'.mark q).cells[1]? = some (.slice m'.A m'.bs.length m'.c) from rfl] at hc3; have H2 := Lib.hid h2; have H3 := Lib.hid h3; have H4 := Lib.hid h4; clear h2 h3 h4)
        have Hn := Hg.out.next (A' := A') (c' := c') (w3 := w3) (by have := Hle.out; omega) (by rw [← Hq.out]; exact HMd.out) HKd.out (by rw [← Hq.out]; exact H2.out) (by rw [← Hq.out]; exact H3.out) (by rw [← Hq.out]; have := H4.out; simpa using this)
        rw [← Hq.out] at Hn
        exact ⟨⟨k + 1, _, by omega, by go_num, Hn⟩, by simp [intOf]; omega⟩
      · obtain rfl : k = n := by omega
        go_wp2_with fail
        go_ret
        exact ⟨rfl, m', Hg.out⟩
end Go.Proofs.Ytndkhlafpcedbaa
