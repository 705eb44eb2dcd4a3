/- flagonlaw13.MemCalls: refused, long; the arguments opened; joined. -/
import Derived.Test.YtndkhlafpcedbaaDoorCallsF
import Derived.Test.YtndkhlafpcedbaaDoorRd
import Derived.KernelRfl
namespace Go.Proofs.YtndkhlafpcedbaaDoor
set_option linter.unusedVariables false
open Go.RowKit
abbrev CTup := Int × (Bool × (Nat × (Int × (Nat × Unit))))
def rCall : Rd CTup := Rd.i64.pair (Rd.bool.pair (Rd.u64.pair (Rd.i64.pair (Rd.u64.pair Rd.unit))))
def callOkT (x : CTup) : Prop := Rd.B63 x.1 ∧ True ∧ Rd.B64 x.2.2.1 ∧ Rd.B63 x.2.2.2.1 ∧ Rd.B64 x.2.2.2.2.1 ∧ True
set_option maxRecDepth 100000 in
theorem Tryd.opens_call : Opens Tryd.prog 71 rCall callOkT := by
  refine opens_struct Tryd.underlying71 (by kernel_rfl) ?_
  refine opensF_cons (ok := Rd.B63) (ok2 := fun x : Bool × (Nat × (Int × (Nat × Unit))) => True ∧ Rd.B64 x.2.1 ∧ Rd.B63 x.2.2.1 ∧ Rd.B64 x.2.2.2.1 ∧ True) ?_ ?_ ?_
  · rfl
  · exact opens_i64 Tryd.underlying3 (by kernel_rfl)
  refine opensF_cons (ok := fun _ => True) (ok2 := fun x : Nat × (Int × (Nat × Unit)) => Rd.B64 x.1 ∧ Rd.B63 x.2.1 ∧ Rd.B64 x.2.2.1 ∧ True) ?_ ?_ ?_
  · rfl
  · exact opens_bool Tryd.underlying4 (by kernel_rfl)
  refine opensF_cons (ok := Rd.B64) (ok2 := fun x : Int × (Nat × Unit) => Rd.B63 x.1 ∧ Rd.B64 x.2.1 ∧ True) ?_ ?_ ?_
  · rfl
  · exact opens_u64 Tryd.underlying22 (by kernel_rfl)
  refine opensF_cons (ok := Rd.B63) (ok2 := fun x : Nat × Unit => Rd.B64 x.1 ∧ True) ?_ ?_ ?_
  · rfl
  · exact opens_i64 Tryd.underlying3 (by kernel_rfl)
  refine opensF_cons (ok := Rd.B64) (ok2 := fun _ => True) ?_ ?_ opensF_nil
  · rfl
  · exact opens_u64 Tryd.underlying22 (by kernel_rfl)
theorem Tryd.opens_calls : Opens Tryd.prog 69 (rCall.sl false) (fun cs => cs.length * 40 ≤ 140737488351232 ∧ ∀ x ∈ cs, callOkT x) :=
  opens_sl Tryd.underlying69 (by kernel_rfl) Tryd.opens_call (by kernel_rfl) (of_decide_eq_true (by kernel_rfl))
def callV (x : CTup) : CallV := ⟨x.1, x.2.1, x.2.2.1, x.2.2.2.1, x.2.2.2.2.1⟩
theorem csat_of_rd {w : World} {lo hi : Nat} {A : Option Addr} {n c : Nat} {cs : List CTup} (h : (rCall.sl false).R w lo hi [.slice A n c] cs) : n = cs.length ∧ CsAt w hi A (cs.map callV) := by
  obtain ⟨A', c', he, _, h⟩ := h
  injection he with he _
  injection he with h1 h2 h3
  subst h1 h2
  refine ⟨rfl, ⟨fun k x hk => ?_⟩⟩
  rw [List.getElem?_map] at hk
  obtain ⟨y, hy, rfl⟩ := Option.map_eq_some_iff.1 hk
  obtain ⟨b, o, e, _, hlt, hx⟩ := h (by have := (List.getElem?_eq_some_iff.1 hy).1; omega)
  obtain ⟨cs', hc, hr⟩ := hx k y hy
  obtain ⟨c1, r1, rfl, ⟨rfl, _⟩, hr⟩ := hr
  obtain ⟨c2, r2, rfl, ⟨rfl, _⟩, hr⟩ := hr
  obtain ⟨c3, r3, rfl, ⟨rfl, o3⟩, hr⟩ := hr
  obtain ⟨c4, r4, rfl, ⟨rfl, _⟩, hr⟩ := hr
  obtain ⟨c5, r5, rfl, ⟨rfl, o5⟩, hr⟩ := hr
  have hz : rCall.z = 5 := rfl
  rw [hz] at hc
  exact ⟨b, o, e, hlt, hc 0 _ rfl, hc 1 _ rfl, hc 2 _ rfl, hc 3 _ rfl, hc 4 _ rfl, ⟨o3, o5⟩⟩
set_option maxRecDepth 100000 in
set_option maxHeartbeats 4000000 in
theorem law_mc_bad (P M : Int) (hbad : newBad P M) (A : Option Addr) (n c : Nat) (w : World) (hn300 : n ≤ 300) :
    Calls Tryd.prog 5 #[.int .i64 P, .int .i64 M, .slice A n c] w fun e w' => e = .returned (.bool true) ∧ Below w.heap.size w w' := by
  have Hbad := Lib.hid hbad; clear hbad
  go_enter Tryd.func5, Tryd.ntmps5
  go_wp2_with fail
  refine (works13 w).mono ?_
  rintro e w1 ⟨rfl, hb1⟩
  have B1 := Lib.hid hb1; clear hb1
  have q0 : ¬ ((300 : Int) < n) := by omega
  have q00 : decide ((300 : Int) < n) = false := decide_eq_false q0
  go_wp2_with fail
  refine (mem_New_bad P M Hbad.out w1).mono ?_
  rintro e w' ⟨rfl, rfl⟩
  go_wp2_with fail
  refine (ref13_New_bad P M Hbad.out w1).mono ?_
  rintro e w' ⟨rfl, rfl⟩
  go_wp2_with fail
  refine (mem_New_bad P M Hbad.out w1).mono ?_
  rintro e w' ⟨rfl, rfl⟩
  go_wp2_with fail
  refine (ref13_New_bad P M Hbad.out w1).mono ?_
  rintro e w' ⟨rfl, rfl⟩
  go_wp2_with fail
  go_ret
  exact ⟨rfl, B1.out⟩
set_option maxRecDepth 100000 in
set_option maxHeartbeats 4000000 in
theorem law_mc_long (P M : Int) (A : Option Addr) (n c : Nat) (w : World) (hn300 : 300 < n) :
    Calls Tryd.prog 5 #[.int .i64 P, .int .i64 M, .slice A n c] w fun e w' => e = .returned (.bool true) ∧ Below w.heap.size w w' := by
  go_enter Tryd.func5, Tryd.ntmps5
  go_wp2_with fail
  refine (works13 w).mono ?_
  rintro e w1 ⟨rfl, hb1⟩
  have B1 := Lib.hid hb1; clear hb1
  have q0 : (300 : Int) < n := by omega
  go_wp2_with fail
  go_ret
  exact ⟨rfl, B1.out⟩
theorem law_MemCalls (P M : Int) (A : Option Addr) (n c : Nat) (cs : List CTup) (w : World) (h : (rCall.sl false).R w 0 w.heap.size [.slice A n c] cs) (ht : HTab w) :
    Calls Tryd.prog 5 #[.int .i64 P, .int .i64 M, .slice A n c] w fun e w' => e = .returned (.bool true) ∧ Below w.heap.size w w' := by
  by_cases h300 : 300 < n
  · exact law_mc_long P M A n c w h300
  · by_cases hb : newBad P M
    · exact law_mc_bad P M hb A n c w (by omega)
    · obtain ⟨h1, h2⟩ := csat_of_rd h
      unfold newBad at hb
      obtain ⟨N, rfl⟩ := Int.eq_ofNat_of_zero_le (show 0 ≤ P by omega)
      obtain ⟨M1, rfl⟩ := Int.eq_ofNat_of_zero_le (show 0 ≤ M by omega)
      exact law_mc_ok N M1 (by omega) (by omega) A n c (cs.map callV) w (by rw [List.length_map]; exact h1) h2 ht (by omega)
end Go.Proofs.YtndkhlafpcedbaaDoor
