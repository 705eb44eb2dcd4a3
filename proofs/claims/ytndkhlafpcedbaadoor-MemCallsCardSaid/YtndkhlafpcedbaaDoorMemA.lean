/- mem: ok, lies, at, Load. -/
import Derived.Test.YtndkhlafpcedbaaDoorProg
import Derived.Test.YtndkhlafpcedbaaDoorMemV
import Derived.Handy
import Derived.KernelRfl
namespace Go.Proofs.YtndkhlafpcedbaaDoor
set_option linter.unusedVariables false
open Go.RowKit
/-- A memory in the world, at this program's types. -/
abbrev MAt (base : Nat) (w : World) (m : MemV) : Prop := MemAt 105 106 108 base w m
def ptrM (m : MemV) : Value := .pointer (some ⟨m.p, 0, none⟩)
set_option maxRecDepth 100000 in
set_option maxHeartbeats 400000 in
theorem mem_ok (base : Nat) (m : MemV) (w : World) (hm : MAt base w m) :
    Calls Tryd.prog 84 #[.pointer (some ⟨m.p, 0, none⟩)] w fun e w' => w = w' ∧ e = .returned (.bool true) := by
  have hc := hm.cell0
  clear hm
  go_enter Tryd.func84, Tryd.ntmps84
  go_wp2_with fail
  go_ret
  exact ⟨rfl, rfl⟩
def liesB (L a : Nat) (n : Int) : Bool := decide ((n = 1 ∨ n = 2 ∨ n = 4 ∨ n = 8) ∧ n ≤ L ∧ (a : Int) ≤ L - n)
set_option maxRecDepth 100000 in
set_option maxHeartbeats 1000000 in
theorem mem_lies (base : Nat) (m : MemV) (a : Nat) (n : Int) (w : World) (hm : MAt base w m) (ha : a < 18446744073709551616) :
    Calls Tryd.prog 85 #[.pointer (some ⟨m.p, 0, none⟩), .int .u64 a, .int .i64 n] w fun e w' => w = w' ∧ e = .returned (.bool (liesB m.B.length a n)) := by
  have HO := Lib.hid (mem_ok base m w hm)
  have hc := hm.cell1
  have hL := hm.len
  have hnp := hm.np
  have hmo := hm.most
  rw [hL]
  clear hL
  generalize m.bs.length = np at *
  generalize m.p = p at *
  generalize m.A = A at *
  generalize m.c = c at *
  have hnp64 : np ≤ 64 := by omega
  clear hm hnp hmo
  by_cases hn : n = 1 ∨ n = 2 ∨ n = 4 ∨ n = 8
  · have Hn := Lib.hid hn
    have hn8 : 0 ≤ n ∧ n ≤ 8 := by omega
    have hq : Hid (((n != 1) = false ∧ True) ∨ ((n != 1) = true ∧ (n != 2) = false) ∨ ((n != 1) = true ∧ (n != 2) = true ∧ (n != 4) = false) ∨ ((n != 1) = true ∧ (n != 2) = true ∧ (n != 4) = true ∧ (n != 8) = false)) := by
      refine Lib.hid ?_
      rcases hn with rfl | rfl | rfl | rfl <;> simp
    by_cases h1 : n ≤ (4096 * np : Nat)
    · have h1' : n ≤ (np : Int) * 4096 := by omega
      by_cases h2 : (a : Int) ≤ (4096 * np : Nat) - n
      · have h2' : (a : Int) ≤ (np : Int) * 4096 - n := by omega
        have HF : Hid (liesB (4096 * np) a n = true) := Lib.hid (by unfold liesB; exact decide_eq_true ⟨Hn.out, h1, h2⟩)
        clear h1 h2 hn
        rcases hq.out with ⟨q1, _⟩ | ⟨q1, q2⟩ | ⟨q1, q2, q4⟩ | ⟨q1, q2, q4, q8⟩ <;>
        · go_enter Tryd.func85, Tryd.ntmps85
          go_wp2_with fail
          refine HO.out.mono ?_
          rintro e w' ⟨rfl, rfl⟩
          go_wp2_with fail
          go_ret
          exact ⟨rfl, by rw [HF.out]; rfl⟩
      · have h2' : ¬ (a : Int) ≤ (np : Int) * 4096 - n := by omega
        have h2b : decide ((a : Int) ≤ (np : Int) * 4096 - n) = false := decide_eq_false h2'
        have HF : Hid (liesB (4096 * np) a n = false) := Lib.hid (by unfold liesB; exact decide_eq_false fun h => h2 h.2.2)
        clear h1 h2 hn
        rcases hq.out with ⟨q1, _⟩ | ⟨q1, q2⟩ | ⟨q1, q2, q4⟩ | ⟨q1, q2, q4, q8⟩ <;>
        · go_enter Tryd.func85, Tryd.ntmps85
          go_wp2_with fail
          refine HO.out.mono ?_
          rintro e w' ⟨rfl, rfl⟩
          go_wp2_with fail
          go_ret
          exact ⟨rfl, by rw [HF.out]; rfl⟩
    · have h1' : ¬ n ≤ (np : Int) * 4096 := by omega
      have h1b : decide (n ≤ (np : Int) * 4096) = false := decide_eq_false h1'
      have HF : Hid (liesB (4096 * np) a n = false) := Lib.hid (by unfold liesB; exact decide_eq_false fun h => h1 h.2.1)
      clear h1 hn
      rcases hq.out with ⟨q1, _⟩ | ⟨q1, q2⟩ | ⟨q1, q2, q4⟩ | ⟨q1, q2, q4, q8⟩ <;>
      · go_enter Tryd.func85, Tryd.ntmps85
        go_wp2_with fail
        refine HO.out.mono ?_
        rintro e w' ⟨rfl, rfl⟩
        go_wp2_with fail
        go_ret
        exact ⟨rfl, by rw [HF.out]; rfl⟩
  · have HF : Hid (liesB (4096 * np) a n = false) := Lib.hid (by unfold liesB; simp [hn])
    have q1 : (n != 1) = true := by simp; omega
    have q2 : (n != 2) = true := by simp; omega
    have q4 : (n != 4) = true := by simp; omega
    have q8 : (n != 8) = true := by simp; omega
    clear hn
    go_enter Tryd.func85, Tryd.ntmps85
    go_wp2_with fail
    refine HO.out.mono ?_
    rintro e w' ⟨rfl, rfl⟩
    go_wp2_with fail
    go_ret
    exact ⟨rfl, by rw [HF.out]; rfl⟩
set_option maxRecDepth 100000 in
set_option maxHeartbeats 400000 in
theorem mem_at (base : Nat) (m : MemV) (a : Nat) (w : World) (hm : MAt base w m) (ha : a < m.B.length) :
    Calls Tryd.prog 86 #[.pointer (some ⟨m.p, 0, none⟩), .int .u64 a] w fun e w' => w = w' ∧ e = .returned (.pointer (some ⟨m.bs[a / 4096]?.getD 0, a % 4096, none⟩)) := by
  have hc := hm.cell1
  have hL := hm.len
  have hnp := hm.np
  have hmo := hm.most
  have hi : a / 4096 < m.bs.length := by omega
  obtain ⟨g, hA, hcell⟩ := hm.pg hi
  rw [hA] at hc
  unfold ptrV at hcell
  have hlt : a < 262144 := by omega
  clear hL ha
  generalize m.bs[a / 4096]?.getD 0 = b at *
  generalize m.bs.length = np at *
  generalize m.p = p at *
  generalize m.c = c at *
  clear hm hA hnp hmo
  have hi2 : (a : Int) / 4096 < np := by omega
  have hi3 : (0 : Int) ≤ (a : Int) / 4096 := by omega
  have hi4 : (0 : Int) ≤ (a : Int) % 4096 := by omega
  have hi5 : (a : Int) % 4096 < 4096 := by omega
  go_enter Tryd.func86, Tryd.ntmps86
  go_wp2_with fail
  go_ret
  exact ⟨rfl, rfl⟩
end Go.Proofs.YtndkhlafpcedbaaDoor
namespace Go.Proofs.YtndkhlafpcedbaaDoor
set_option linter.unusedVariables false
open Go.RowKit
def LdRel (B : List UInt8) (a n : Nat) (w : World) (v i : Value) (wr : World) : Prop := ∃ k : Nat, k ≤ n ∧ i = .int .u64 k ∧ v = .int .u64 (ld B a k) ∧ wr = w
set_option maxRecDepth 100000 in
set_option maxHeartbeats 1000000 in
theorem mem_Load (base : Nat) (m : MemV) (a : Nat) (n : Int) (w : World) (hm : MAt base w m) (ha : a < 18446744073709551616) :
    Calls Tryd.prog 31 #[.pointer (some ⟨m.p, 0, none⟩), .int .u64 a, .int .i64 n] w fun e w' => w = w' ∧
      e = .returned (.tuple #[.int .u64 (if liesB m.B.length a n = true then ld m.B a n.toNat else 0 : Nat), .bool (liesB m.B.length a n)]) := by
  have HL := Lib.hid (mem_lies base m a n w hm ha)
  have HM := Lib.hid hm
  have hL := hm.len
  have hnp := hm.np
  have hmo := hm.most
  clear hm
  have HLies : Hid (liesB m.B.length a n = true → (n = 1 ∨ n = 2 ∨ n = 4 ∨ n = 8) ∧ n ≤ m.B.length ∧ (a : Int) ≤ m.B.length - n) := Lib.hid (fun h => by unfold liesB at h; exact of_decide_eq_true h)
  cases hb : liesB m.B.length a n with
  | false =>
    rw [hb] at HL
    rw [if_neg (by simp)]
    clear hb HLies
    go_enter Tryd.func31, Tryd.ntmps31
    go_wp2_with fail
    refine HL.out.mono ?_
    rintro e w' ⟨rfl, rfl⟩
    go_wp2_with fail
    go_ret2
    exact ⟨rfl, rfl⟩
  | true =>
    obtain ⟨h1, h2, h3⟩ := HLies.out hb
    rw [hb] at HL
    rw [if_pos rfl]
    obtain ⟨n, rfl⟩ := Int.eq_ofNat_of_zero_le (show 0 ≤ n by omega)
    have hn8 : n ≤ 8 := by omega
    have hend : a + n ≤ m.B.length := by omega
    have hbig : m.B.length ≤ 262144 := by omega
    clear hb HLies h1 h2 h3 hL hnp hmo
    go_enter Tryd.func31, Tryd.ntmps31
    go_wp2_with fail
    refine HL.out.mono ?_
    rintro e w' ⟨rfl, rfl⟩
    go_wp2_with fail
    go_loopw [8, 17] (fun v i wr => LdRel m.B a n w v i wr) (fun _ i _ => n - (intOf i).toNat)
    case atStart => exact ⟨0, Nat.zero_le _, rfl, rfl, rfl⟩
    case round =>
      obtain ⟨k, hk, rfl, rfl, rfl⟩ := hrel
      have HX := Lib.hid (ld_lt m.B a k)
      by_cases hlt : k < n
      · have hcell := HM.out.byte (a := a + k) (by omega)
        have hc : (m.B[a + k]?.getD 0).toNat < 256 := UInt8.toNat_lt _
        have HA := Lib.hid (acc8 _ _ k (by omega) HX.out hc)
        have HLd : Hid (ld m.B a (k + 1) = ld m.B a k + (m.B[a + k]?.getD 0).toNat * 256 ^ k) := Lib.hid rfl
        have HAt := Lib.hid (mem_at _ m (a + k) _ HM.out (by omega))
        generalize (m.B[a + k]?.getD 0).toNat = c at *
        generalize m.bs[(a + k) / 4096]?.getD 0 = b at *
        have hak : (a : Int) + k < 18446744073709551616 := by omega
        have hak0 : (0 : Int) ≤ (a : Int) + k := by omega
        have hk8 : (8 : Int) * k < 64 := by omega
        go_wp2_with fail
        rw [show ((a : Int) + k) = ((a + k : Nat) : Int) from by omega]
        refine HAt.out.mono ?_
        rintro e w' ⟨rfl, rfl⟩
        go_wp2_with fail
        exact ⟨⟨k + 1, by omega, by go_num, by rw [HLd.out, ← HA.out], rfl⟩, by simp [intOf]; omega⟩
      · obtain rfl : k = n := by omega
        go_wp2_with fail
        go_ret2
        exact ⟨rfl, rfl⟩
end Go.Proofs.YtndkhlafpcedbaaDoor
namespace Go.Proofs.YtndkhlafpcedbaaDoor
set_option linter.unusedVariables false
open Go.RowKit
/-- The memory behind the first k bytes of a store. -/
def MemV.store (m : MemV) (a v k : Nat) : MemV := { m with B := st m.B a v k, d := dt m.d a k }
theorem MemV.store_succ (m : MemV) (a v k : Nat) : m.store a v (k + 1) = (m.store a v k).put (a + k) (UInt8.ofNat (v / 256 ^ k % 256)) := rfl
def StRel (base : Nat) (m : MemV) (a v n : Nat) (w : World) (i : Value) (wr : World) : Prop := ∃ k : Nat, k ≤ n ∧ i = .int .u64 k ∧ MAt base wr (m.store a v k) ∧ KeptF w wr m.foot
theorem shr8 (v k : Nat) (hk : k < 8) : (((v / 256 ^ k % 256 : Nat)) : Int) = (v : Int) / 2 ^ (8 * k) % 256 := by
  have e : (256 : Nat) ^ k = 2 ^ (8 * k) := by rw [Nat.pow_mul]
  rw [e]; simp
set_option maxRecDepth 100000 in
set_option maxHeartbeats 1000000 in
theorem mem_Store (base : Nat) (m : MemV) (a v : Nat) (n : Int) (w : World) (hm : MAt base w m) (ha : a < 18446744073709551616) (hv : v < 18446744073709551616) :
    Calls Tryd.prog 33 #[.pointer (some ⟨m.p, 0, none⟩), .int .u64 a, .int .i64 n, .int .u64 v] w fun e w' =>
      e = .returned (.bool (liesB m.B.length a n)) ∧ MAt base w' (if liesB m.B.length a n = true then m.store a v n.toNat else m) ∧ KeptF w w' m.foot := by
  have HL := Lib.hid (mem_lies base m a n w hm ha)
  have HM := Lib.hid hm
  have hL := hm.len
  have hnp := hm.np
  have hmo := hm.most
  clear hm
  have HLies : Hid (liesB m.B.length a n = true → (n = 1 ∨ n = 2 ∨ n = 4 ∨ n = 8) ∧ n ≤ m.B.length ∧ (a : Int) ≤ m.B.length - n) := Lib.hid (fun h => by unfold liesB at h; exact of_decide_eq_true h)
  cases hb : liesB m.B.length a n with
  | false =>
    rw [hb] at HL
    rw [if_neg (by simp)]
    clear hb HLies
    go_enter Tryd.func33, Tryd.ntmps33
    go_wp2_with fail
    refine HL.out.mono ?_
    rintro e w' ⟨rfl, rfl⟩
    go_wp2_with fail
    go_ret
    exact ⟨rfl, HM.out, KeptF.refl _ _⟩
  | true =>
    obtain ⟨h1, h2, h3⟩ := HLies.out hb
    rw [hb] at HL
    rw [if_pos rfl]
    obtain ⟨n, rfl⟩ := Int.eq_ofNat_of_zero_le (show 0 ≤ n by omega)
    rw [Int.toNat_natCast]
    have hn8 : n ≤ 8 := by omega
    have hend : a + n ≤ m.B.length := by omega
    have hbig : m.B.length ≤ 262144 := by omega
    clear hb HLies h1 h2 h3 hL hnp hmo
    go_enter Tryd.func33, Tryd.ntmps33
    go_wp2_with fail
    refine HL.out.mono ?_
    rintro e w' ⟨rfl, rfl⟩
    go_wp2_with fail
    go_loopw [17] (fun i wr => StRel base m a v n w i wr) (fun i _ => n - (intOf i).toNat)
    case atStart => exact ⟨0, Nat.zero_le _, rfl, HM.out, KeptF.refl _ _⟩
    case round =>
      obtain ⟨k, hk, rfl, hmk, hkept⟩ := hrel
      have HMk := Lib.hid hmk; clear hmk
      have HKept := Lib.hid hkept; clear hkept
      by_cases hlt : k < n
      · have hak2 : a + k < (m.store a v k).B.length := by show a + k < (st m.B a v k).length; rw [st_len]; omega
        have hcell := HMk.out.byte hak2
        have hfr : wr.frozen? ⟨(m.store a v k).bs[(a + k) / 4096]?.getD 0, (a + k) % 4096, none⟩ = false := by
          have hi : (a + k) / 4096 < (m.store a v k).bs.length := by have := HMk.out.len; omega
          exact (HMk.out.page _ _ (bsGet _ hi)).frozen _
        have hj : (a + k) / 4096 < 64 := by omega
        have hcelld := HMk.out.celld hj
        have hfrd := HMk.out.own.frozen (3 + (a + k) / 4096)
        have hpb : m.p ≠ (m.store a v k).bs[(a + k) / 4096]?.getD 0 := by
          have hi : (a + k) / 4096 < (m.store a v k).bs.length := by have := HMk.out.len; omega
          exact HMk.out.own.ne_ (HMk.out.page _ _ (bsGet _ hi)) (by decide)
        have HAt := Lib.hid (mem_at _ (m.store a v k) (a + k) wr HMk.out hak2)
        have HPut := Lib.hid (HMk.out.put (by decide) (by decide) (by decide) hak2 (UInt8.ofNat (v / 256 ^ k % 256)))
        have HPk := Lib.hid (HMk.out.put_kept hak2 (.int .u8 (((v / 256 ^ k % 256 : Nat)) : Int)) (.bool true))
        rw [u8_of' _ (by omega)] at HPut
        have hsh : Hid ((((v / 256 ^ k % 256 : Nat)) : Int) = (v : Int) / 2 ^ (8 * k) % 256) := Lib.hid (shr8 v k (by omega))
        rw [show (m.store a v k).p = m.p from rfl] at hcelld hfrd HAt HPut HPk
        generalize (m.B[a + k]?.getD 0).toNat = c at *
        generalize (m.store a v k).bs[(a + k) / 4096]?.getD 0 = b at *
        have hcd2 : (wr.setCell ⟨b, (a + k) % 4096, none⟩ (.int .u8 ((v : Int) / 2 ^ (8 * k) % 256))).cell? ⟨m.p, 3 + (a + k) / 4096, none⟩ = some (.bool ((m.store a v k).d[(a + k) / 4096]?.getD false)) := by
          rw [World.cell?_setCell_other _ _ _ _ (by intro h; injection h with h1 h2; exact hpb h1.symm)]
          exact hcelld
        have hak : (a : Int) + k < 18446744073709551616 := by omega
        have hak0 : (0 : Int) ≤ (a : Int) + k := by omega
        have hk8 : (8 : Int) * k < 64 := by omega
        have hv0 : (0 : Int) ≤ v := by omega
        go_wp2_with fail
        rw [show ((a : Int) + k) = ((a + k : Nat) : Int) from by omega]
        refine HAt.out.mono ?_
        rintro e w' ⟨rfl, rfl⟩
        go_wp2_with fail
        rw [hsh.out] at HPut HPk
        exact ⟨⟨k + 1, by omega, by go_num, HPut.out, HKept.out.trans HPk.out⟩, by simp [intOf]; omega⟩
      · obtain rfl : k = n := by omega
        go_wp2_with fail
        go_ret
        exact ⟨rfl, HMk.out, HKept.out⟩
end Go.Proofs.YtndkhlafpcedbaaDoor
namespace Go.Proofs.YtndkhlafpcedbaaDoor
set_option linter.unusedVariables false
open Go.RowKit
theorem zpage : Tryd.zeroCells108 = (zpageB.map bv).toArray := by kernel_rfl
theorem Tryd.info_pg : (Tryd.prog.info? 106).map (fun i => (i.zero, i.size, i.bytes)) = some (some (.pointer none), 1, 8) := by kernel_rfl
theorem zmem : Tryd.zeroCells105 = (Value.bool false :: .slice none 0 0 :: .int .i64 0 :: (List.replicate 64 false).map Value.bool).toArray := by kernel_rfl
/-- append of a page's pointer onto a row of the call's own, at this program. -/
theorem app_page (w : World) {ops : Array Oper} {rest : List Oper} {o : Oper} {a : Act} {Q : Exit → Act → World → Prop} (hgd : o.guard = none) (s x : Operand)
    (ho : o.op = .call { callee := .builtin .append, args := #[s, x], argTypes := #[101, 101] }) (base : Nat)
    (A : Option Addr) (n c : Nat) (xs : List Value) (hs : a.eval s = .slice A n c) (hown : w.ownsRow base 106 1 (.slice A n c) n xs)
    (B : Nat) (A2 : Option Addr) (m c2 : Nat) (ys : List Value) (hx : a.eval x = .slice A2 m c2) (hm : m = ys.length) (hr : Row w B A2 ys) (h1 : ∀ u ∈ ys, u.oneCell' = true)
    (h47 : n + m ≤ 1000000) (hbase : base ≤ w.heap.size)
    (h : ∀ A' c' w', w'.ownsRow base 106 1 (.slice A' (n + m) c') (n + m) (xs ++ ys) → w.grownBy w' (Value.slice A n c).ownBlock →
      ((Value.slice A' (n + m) c').ownBlock = (Value.slice A n c).ownBlock ∨ (Value.slice A' (n + m) c').ownBlock = some w.heap.size) → wpList Tryd.prog ops Q rest (a.put o.dst (.slice A' (n + m) c')) w') : wpList Tryd.prog ops Q (o :: rest) a w := by
  obtain ⟨i0, hi, hz, hs', hb⟩ := info_parts Tryd.info_pg
  exact wpList_app w hgd s x 101 ho base 106 i0 (.pointer none) 8 Tryd.underlying101 hi hz hs' hb rfl _ n xs hs hown B A2 m c2 ys hx hm hr h1 (by unfold maxLen; omega) (by omega) hbase h
/-- What New leaves: n pages of noughts, none dirty. -/
def NewPost (n most : Nat) (w : World) (e : Ending) (w' : World) : Prop :=
  ∃ m : MemV, e = .returned (.tuple #[.pointer (some ⟨m.p, 0, none⟩), .int .i64 0]) ∧ m.most = most ∧ m.bs.length = n ∧ m.B = List.replicate (4096 * n) 0 ∧ m.d = List.replicate 64 false ∧ MAt w.heap.size w' m ∧ Below w.heap.size w w'
def NewRel (n most p : Nat) (w : World) (i : Value) (wr : World) : Prop :=
  ∃ (k : Nat) (m : MemV), k ≤ n ∧ i = .int .i64 k ∧ m.p = p ∧ m.most = most ∧ m.bs.length = k ∧ m.B = List.replicate (4096 * k) 0 ∧ m.d = List.replicate 64 false ∧ MAt w.heap.size wr m ∧ Below w.heap.size w wr
theorem new_start (w : World) (most : Nat) (h : most ≤ 64) : MAt w.heap.size (w.alloc (.cells ((Tryd.zeroCells105.setIfInBounds 0 (.bool true)).setIfInBounds 2 (.int .i64 (most : Int))) 105)) ⟨w.heap.size, none, 0, [], most, [], List.replicate 64 false⟩ := by
  refine ⟨?_, rfl, World.ownsRow_nil _ _ _ _, fun i b h => by simp at h, rfl, by simp, Nat.zero_le _, h, ⟨Nat.le_refl _, fun b h => by simp at h⟩⟩
  rw [zmem]
  exact Blk.new w _ _
set_option maxRecDepth 100000 in
set_option maxHeartbeats 1000000 in
theorem mem_New (n most : Nat) (hn : n ≤ most) (hm : most ≤ 64) (w : World) :
    Calls Tryd.prog 19 #[.int .i64 n, .int .i64 most] w (NewPost n most w) := by
  have q1 : decide ((n : Int) < 0) = false := by simp
  have q2 : ¬ (64 : Int) < most := by omega
  have q3 : decide ((64 : Int) < most) = false := by simp; omega
  have q4 : decide (most < n) = false := by simp; omega
  go_enter Tryd.func19, Tryd.ntmps19
  go_wp2_with fail
  go_loopw [22] (fun i wr => NewRel n most w.heap.size w i wr) (fun i _ => n - (intOf i).toNat)
  case atStart => exact ⟨0, _, Nat.zero_le _, rfl, rfl, rfl, rfl, rfl, rfl, new_start w most hm, (Below.refl _ _).alloc (Nat.le_refl _) _⟩
  case round =>
    obtain ⟨k, m, hk, rfl, hp, hmo, hbs, hB, hd, hmat, hbel⟩ := hrel
    have HM := Lib.hid hmat; clear hmat
    have Hbel := Lib.hid hbel; clear hbel
    have Hmo := Lib.hid hmo; clear hmo
    have HB := Lib.hid hB; clear hB
    have Hd := Lib.hid hd; clear hd
    by_cases hlt : k < n
    · have hc1 := HM.out.cell1
      have hf1 := HM.out.own.frozen 1
      rw [hp, hbs] at hc1
      rw [hp] at hf1
      have Hrow := Lib.hid HM.out.row
      rw [hbs] at Hrow
      have Hp := Lib.hid hp; clear hp
      have Hbs := Lib.hid hbs; clear hbs
      have Hone : Hid (Row ((wr.alloc (.cells (zpageB.map bv).toArray 108)).alloc (.cells #[ptrV wr.heap.size] 106)) (wr.heap.size + 1 + 1) (some ⟨wr.heap.size + 1, 0, none⟩) [ptrV wr.heap.size]) := by
        have := row_one (wr.alloc (.cells (zpageB.map bv).toArray 108)) (ptrV wr.heap.size) 106
        rw [World.size_alloc] at this
        exact Lib.hid this
      have hzp := zpage
      have hsz : w.heap.size ≤ wr.heap.size := Hbel.out.size
      go_wp2_with (at_builtin; refine app_page _ rfl (.tmp 28) (.tmp 31) rfl w.heap.size m.A k m.c (m.bs.map ptrV) rfl ((Hrow.out.alloc _).alloc _) (wr.heap.size + 1 + 1) _ 1 1 [ptrV wr.heap.size] rfl rfl Hone.out (ptr_one [wr.heap.size]) (by omega) (by simp; omega) ?_; intro A' c' w3 h2 h3 h4; have hb3 := Lib.hid (HM.out.grow_own (by decide) (by rw [Hbs.out]; exact h3)); have hc3 := hb3.out.cell 1; have hf3 := hb3.out.frozen 1; rw [Hp.out] at hc3 hf3; rw [show m.cells[1]? = some (.slice m.A m.bs.length m.c) from rfl] at hc3; have H2 := Lib.hid h2; have H3 := Lib.hid h3; have H4 := Lib.hid h4; clear h2 h3 h4)
      have hgrow := HM.out.grow (A' := A') (c' := c') (w3 := w3) (by decide) (by decide) (by decide) (by rw [Hbs.out, Hmo.out]; omega) hsz (by rw [Hbs.out]; exact H2.out) (by rw [Hbs.out]; exact H3.out)
      have hkept := HM.out.grow_kept (w3 := w3) (u := .slice A' (m.bs.length + 1) c') (by rw [Hbs.out]; exact H3.out)
      have hlow := HM.out.ge
      rw [Hbs.out, Hp.out] at hgrow hkept
      refine ⟨⟨k + 1, m.more A' c' wr.heap.size, by omega, by go_num, Hp.out, Hmo.out, by show (m.bs ++ [_]).length = _; simp [Hbs.out], ?_, Hd.out, hgrow, Hbel.out.trans (hkept.below hlow hsz)⟩, by simp [intOf]; omega⟩
      show m.B ++ zpageB = _
      rw [HB.out]
      unfold zpageB
      rw [List.replicate_append_replicate]
      congr 1
    · obtain rfl : k = n := by omega
      go_wp2_with fail
      go_ret2
      exact ⟨m, by rw [hp]; rfl, Hmo.out, hbs, HB.out, Hd.out, HM.out, Hbel.out⟩
end Go.Proofs.YtndkhlafpcedbaaDoor
