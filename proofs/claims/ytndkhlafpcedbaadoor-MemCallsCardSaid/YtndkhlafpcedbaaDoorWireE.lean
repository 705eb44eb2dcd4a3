/- wire.put, wire.Uvar, wire.Svar, wire.Text: numbers and texts as bytes. -/
import Derived.Test.YtndkhlafpcedbaaDoorWide
import Derived.Test.YtndkhlafpcedbaaDoorApp
import Derived.Handy
namespace Go.Proofs.YtndkhlafpcedbaaDoor
set_option linter.unusedVariables false
open Go.RowKit
/-- append of bytes onto a row of the call's own, at this program. -/
theorem app_bytes (w : World) {ops : Array Oper} {rest : List Oper} {o : Oper} {a : Act} {Q : Exit → Act → World → Prop} (hgd : o.guard = none) (s x : Operand)
    (ho : o.op = .call { callee := .builtin .append, args := #[s, x], argTypes := #[24, 24] }) (base : Nat)
    (A : Option Addr) (n c : Nat) (xs : List Value) (hs : a.eval s = .slice A n c) (hown : w.ownsRow base 5 1 (.slice A n c) n xs)
    (B : Nat) (A2 : Option Addr) (m c2 : Nat) (ys : List Value) (hx : a.eval x = .slice A2 m c2) (hm : m = ys.length) (hr : Row w B A2 ys) (h1 : ∀ u ∈ ys, u.oneCell' = true)
    (h47 : n + m ≤ 140737488351232) (hbase : base ≤ w.heap.size)
    (h : ∀ A' c' w', w'.ownsRow base 5 1 (.slice A' (n + m) c') (n + m) (xs ++ ys) → w.grownBy w' (Value.slice A n c).ownBlock → Below base w w' → wpList Tryd.prog ops Q rest (a.put o.dst (.slice A' (n + m) c')) w') : wpList Tryd.prog ops Q (o :: rest) a w := by
  obtain ⟨i0, hi, hz, hs', hb⟩ := info_parts Tryd.info_u8
  exact wpList_app w hgd s x 24 ho base 5 i0 (.int .u8 0) 1 Tryd.underlying24 hi hz hs' hb rfl _ n xs hs hown B A2 m c2 ys hx hm hr h1 (by unfold maxLen; omega) (by omega) hbase
    fun A' c' w' h2 h3 _ => h A' c' w' h2 h3 (own_below hown h3 hbase)

set_option maxRecDepth 100000 in
set_option maxHeartbeats 400000 in
theorem wire_put (A A2 : Option Addr) (n c m c2 B base : Nat) (w : World) (xs ys : List Value) (hown : w.ownsRow base 5 1 (.slice A n c) n xs) (hm : m = ys.length) (hr : Row w B A2 ys) (h1 : ∀ u ∈ ys, u.oneCell' = true)
    (h47 : n + m ≤ 140737488351232) (hbase : base ≤ w.heap.size) :
    Calls Tryd.prog 62 #[.slice A n c, .slice A2 m c2] w fun e w' => ∃ A' c', e = .returned (.slice A' (n + m) c') ∧ w'.ownsRow base 5 1 (.slice A' (n + m) c') (n + m) (xs ++ ys) ∧ w.grownBy w' (Value.slice A n c).ownBlock := by
  obtain ⟨i0, hi, hz, hs, hb⟩ := info_parts Tryd.info_u8
  have Hm := Lib.hid hm; clear hm
  go_enter Tryd.func62, Tryd.ntmps62
  go_wp2_with (at_builtin; refine wpList_app _ rfl _ _ 24 rfl base 5 i0 (.int .u8 0) 1 Tryd.underlying24 hi hz hs hb rfl _ n xs rfl hown B A2 m c2 ys rfl Hm.out hr h1 (by unfold maxLen; omega) (by omega) hbase ?_; intro A' c' w' h2 h3 _)
  go_ret
  exact ⟨A', c', rfl, h2, h3⟩

/-- A loop's relation: what is gathered, and what is still to be written, are the number's bytes. -/
def UvRel (v0 : Nat) (w : World) (L V : Value) (wr : World) : Prop :=
  ∃ (v : Nat) (xs : List UInt8) (A : Option Addr) (c : Nat), L = .slice A xs.length c ∧ V = .int .u64 v ∧ v < 18446744073709551616 ∧ xs ++ enc v = enc v0 ∧
    wr.ownsRow w.heap.size 5 1 (.slice A xs.length c) xs.length (xs.map bv) ∧ Below w.heap.size w wr
set_option maxRecDepth 100000 in
set_option maxHeartbeats 400000 in
theorem wire_Uvar (v0 : Nat) (hv0 : v0 < 18446744073709551616) (w : World) :
    Calls Tryd.prog 8 #[.int .u64 v0] w fun e w' => ∃ A c, e = .returned (.slice A (enc v0).length c) ∧ w'.ownsRow w.heap.size 5 1 (.slice A (enc v0).length c) (enc v0).length ((enc v0).map bv) ∧ Below w.heap.size w w' := by
  have hl10 := enc_len10 v0 hv0
  go_enter Tryd.func8, Tryd.ntmps8
  go_wp2_with fail
  go_loopw [3, 0] (fun L V wr => UvRel v0 w L V wr) (fun _ V _ => (intOf V).toNat)
  case atStart => exact ⟨v0, [], none, 0, rfl, rfl, hv0, rfl, World.ownsRow_nil _ _ _ _, Below.refl _ _⟩
  case round =>
    obtain ⟨v, xs, A, c, rfl, rfl, hv, hR, hown, hbel⟩ := hrel
    have HR := Lib.hid hR; clear hR
    have Hown := Lib.hid hown; clear hown
    have Hbel := Lib.hid hbel; clear hbel
    have hxs : xs.length ≤ 10 := by have := congrArg List.length HR.out; rw [List.length_append] at this; omega
    by_cases hlt : v < 128
    · have hge : ¬ (128 : Int) ≤ v := by omega
      have Henc : Hid (xs.map bv ++ [.int .u8 (v : Int)] = (enc v0).map bv) := Lib.hid (by rw [← HR.out, enc_small v hlt, List.map_append]; simp [ofNat_small v (by omega)])
      have Hlen : Hid (xs.length + 1 = (enc v0).length) := Lib.hid (by rw [← HR.out, enc_small v hlt, List.length_append]; rfl)
      go_wp2_with fail
      have hsz : w.heap.size ≤ (wr.alloc (.cells #[.int .u8 (v : Int)] 5)).heap.size := by have := Hbel.out.size; simp; omega
      refine (wire_put A _ xs.length c 1 1 (wr.heap.size + 1) w.heap.size _ (xs.map bv) [.int .u8 (v : Int)] (Hown.out.alloc _) rfl (row_one _ _ _) (by simp [Value.oneCell']) (by omega) hsz).mono ?_
      rintro e w1 ⟨A', c', rfl, h2, h3⟩
      have H2 := Lib.hid h2; clear h2
      have H3 : Hid (Below w.heap.size w w1) := Lib.hid (((Hbel.out.alloc Hbel.out.size _)).trans (own_below (Hown.out.alloc _) h3 hsz))
      clear h3 hsz
      go_wp2_with fail
      go_ret
      rw [← Hlen.out, ← Henc.out]
      exact ⟨A', c', rfl, H2.out, H3.out⟩
    · have hge : (128 : Int) ≤ v := by omega
      have hx : bits .or .u8 ((v : Int) % 256) 128 = ((v % 128 + 128 : Nat) : Int) := by
        rw [show (v : Int) % 256 = ((v % 256 : Nat) : Int) from by omega, or128 _ (by omega)]
        omega
      have Hx := Lib.hid hx; clear hx
      have Hnext : Hid ((xs ++ [UInt8.ofNat (v % 128 + 128)]) ++ enc (v / 128) = enc v0) := Lib.hid (by rw [← HR.out, enc_great v hlt, List.append_assoc]; rfl)
      go_wp2_with fail
      rw [Hx.out]
      have hsz : w.heap.size ≤ (wr.alloc (.cells #[.int .u8 ((v % 128 + 128 : Nat) : Int)] 5)).heap.size := by have := Hbel.out.size; simp; omega
      refine (wire_put A _ xs.length c 1 1 (wr.heap.size + 1) w.heap.size _ (xs.map bv) [.int .u8 ((v % 128 + 128 : Nat) : Int)] (Hown.out.alloc _) rfl (row_one _ _ _) (by simp [Value.oneCell']) (by omega) hsz).mono ?_
      rintro e w1 ⟨A', c', rfl, h2, h3⟩
      have H2 := Lib.hid h2; clear h2
      have H3 : Hid (Below w.heap.size w w1) := Lib.hid (((Hbel.out.alloc Hbel.out.size _)).trans (own_below (Hown.out.alloc _) h3 hsz))
      clear h3 hsz
      go_wp2_with fail
      refine ⟨⟨v / 128, xs ++ [UInt8.ofNat (v % 128 + 128)], A', c', by simp, by go_num, by omega, Hnext.out, ?_, H3.out⟩, ?_⟩
      · have := H2.out
        rw [← ofNat_small _ (by omega), show [bv (UInt8.ofNat (v % 128 + 128))] = [UInt8.ofNat (v % 128 + 128)].map bv from rfl, ← List.map_append] at this
        simpa using this
      · simp [intOf]; omega
end Go.Proofs.YtndkhlafpcedbaaDoor
