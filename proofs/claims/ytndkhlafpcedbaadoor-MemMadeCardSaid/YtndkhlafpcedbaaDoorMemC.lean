/- mem: Store. -/
import Derived.Test.YtndkhlafpcedbaaDoorMemB
import Derived.Test.YtndkhlafpcedbaaDoorMemV
namespace Go.Proofs.YtndkhlafpcedbaaDoor
set_option linter.unusedVariables false
open Go.RowKit
/-- The memory behind the first k bytes of a store. -/
def MemV.store (m : MemV) (a v k : Nat) : MemV := { m with B := st m.B a v k, d := dt m.d a k }
theorem MemV.store_succ (m : MemV) (a v k : Nat) : m.store a v (k + 1) = (m.store a v k).put (a + k) (UInt8.ofNat (v / 256 ^ k % 256)) := rfl
def StRel (base : Nat) (m : MemV) (a v n : Nat) (w : World) (i : Value) (wr : World) : Prop := ∃ k : Nat, k ≤ n ∧ i = .int .u64 k ∧ MAt base wr (m.store a v k) ∧ KeptF w wr m.foot
theorem shr8 (v k : Nat) (hk : k < 8) : (((v / 256 ^ k % 256 : Nat)) : Int) = (v : Int) / 2 ^ (8 * k) % 256 := by
  have e : (256 : Nat) ^ k = 2 ^ (8 * k) := by rw [Nat.pow_mul]
  rw [e]; simp
set_option maxRecDepth 100000 in
set_option maxHeartbeats 1000000 in
theorem mem_Store (base : Nat) (m : MemV) (a v : Nat) (n : Int) (w : World) (hm : MAt base w m) (ha : a < 18446744073709551616) (hv : v < 18446744073709551616) :
    Calls Tryd.prog 33 #[.pointer (some ⟨m.p, 0, none⟩), .int .u64 a, .int .i64 n, .int .u64 v] w fun e w' =>
      e = .returned (.bool (liesB m.B.length a n)) ∧ MAt base w' (if liesB m.B.length a n = true then m.store a v n.toNat else m) ∧ KeptF w w' m.foot := by
  have HL := Lib.hid (mem_lies base m a n w hm ha)
  have HM := Lib.hid hm
  have hL := hm.len
  have hnp := hm.np
  have hmo := hm.most
  clear hm
  have HLies : Hid (liesB m.B.length a n = true → (n = 1 ∨ n = 2 ∨ n = 4 ∨ n = 8) ∧ n ≤ m.B.length ∧ (a : Int) ≤ m.B.length - n) := Lib.hid (fun h => by unfold liesB at h; exact of_decide_eq_true h)
  cases hb : liesB m.B.length a n with
  | false =>
    rw [hb] at HL
    rw [if_neg (by simp)]
    clear hb HLies
    go_enter Tryd.func33, Tryd.ntmps33
    go_wp2_with fail
    refine HL.out.mono ?_
    rintro e w' ⟨rfl, rfl⟩
    go_wp2_with fail
    go_ret
    exact ⟨rfl, HM.out, KeptF.refl _ _⟩
  | true =>
    obtain ⟨h1, h2, h3⟩ := HLies.out hb
    rw [hb] at HL
    rw [if_pos rfl]
    obtain ⟨n, rfl⟩ := Int.eq_ofNat_of_zero_le (show 0 ≤ n by omega)
    rw [Int.toNat_natCast]
    have hn8 : n ≤ 8 := by omega
    have hend : a + n ≤ m.B.length := by omega
    have hbig : m.B.length ≤ 262144 := by omega
    clear hb HLies h1 h2 h3 hL hnp hmo
    go_enter Tryd.func33, Tryd.ntmps33
    go_wp2_with fail
    refine HL.out.mono ?_
    rintro e w' ⟨rfl, rfl⟩
    go_wp2_with fail
    go_loopw [17] (fun i wr => StRel base m a v n w i wr) (fun i _ => n - (intOf i).toNat)
    case atStart => exact ⟨0, Nat.zero_le _, rfl, HM.out, KeptF.refl _ _⟩
    case round =>
      obtain ⟨k, hk, rfl, hmk, hkept⟩ := hrel
      have HMk := Lib.hid hmk; clear hmk
      have HKept := Lib.hid hkept; clear hkept
      by_cases hlt : k < n
      · have hak2 : a + k < (m.store a v k).B.length := by show a + k < (st m.B a v k).length; rw [st_len]; omega
        have hcell := HMk.out.byte hak2
        have hfr : wr.frozen? ⟨(m.store a v k).bs[(a + k) / 4096]?.getD 0, (a + k) % 4096, none⟩ = false := by
          have hi : (a + k) / 4096 < (m.store a v k).bs.length := by have := HMk.out.len; omega
          exact (HMk.out.page _ _ (bsGet _ hi)).frozen _
        have hj : (a + k) / 4096 < 64 := by omega
        have hcelld := HMk.out.celld hj
        have hfrd := HMk.out.own.frozen (3 + (a + k) / 4096)
        have hpb : m.p ≠ (m.store a v k).bs[(a + k) / 4096]?.getD 0 := by
          have hi : (a + k) / 4096 < (m.store a v k).bs.length := by have := HMk.out.len; omega
          exact HMk.out.own.ne_ (HMk.out.page _ _ (bsGet _ hi)) (by decide)
        have HAt := Lib.hid (mem_at _ (m.store a v k) (a + k) wr HMk.out hak2)
        have HPut := Lib.hid (HMk.out.put (by decide) (by decide) (by decide) hak2 (UInt8.ofNat (v / 256 ^ k % 256)))
        have HPk := Lib.hid (HMk.out.put_kept hak2 (.int .u8 (((v / 256 ^ k % 256 : Nat)) : Int)) (.bool true))
        rw [u8_of' _ (by omega)] at HPut
        have hsh : Hid ((((v / 256 ^ k % 256 : Nat)) : Int) = (v : Int) / 2 ^ (8 * k) % 256) := Lib.hid (shr8 v k (by omega))
        rw [show (m.store a v k).p = m.p from rfl] at hcelld hfrd HAt HPut HPk
        generalize (m.B[a + k]?.getD 0).toNat = c at *
        generalize (m.store a v k).bs[(a + k) / 4096]?.getD 0 = b at *
        have hcd2 : (wr.setCell ⟨b, (a + k) % 4096, none⟩ (.int .u8 ((v : Int) / 2 ^ (8 * k) % 256))).cell? ⟨m.p, 3 + (a + k) / 4096, none⟩ = some (.bool ((m.store a v k).d[(a + k) / 4096]?.getD false)) := by
          rw [World.cell?_setCell_other _ _ _ _ (by intro h; injection h with h1 h2; exact hpb h1.symm)]
          exact hcelld
        have hak : (a : Int) + k < 18446744073709551616 := by omega
        have hak0 : (0 : Int) ≤ (a : Int) + k := by omega
        have hk8 : (8 : Int) * k < 64 := by omega
        have hv0 : (0 : Int) ≤ v := by omega
        go_wp2_with fail
        rw [show ((a : Int) + k) = ((a + k : Nat) : Int) from by omega]
        refine HAt.out.mono ?_
        rintro e w' ⟨rfl, rfl⟩
        go_wp2_with fail
        rw [hsh.out] at HPut HPk
        exact ⟨⟨k + 1, by omega, by go_num, HPut.out, HKept.out.trans HPk.out⟩, by simp [intOf]; omega⟩
      · obtain rfl : k = n := by omega
        go_wp2_with fail
        go_ret
        exact ⟨rfl, HMk.out, HKept.out⟩
end Go.Proofs.YtndkhlafpcedbaaDoor
