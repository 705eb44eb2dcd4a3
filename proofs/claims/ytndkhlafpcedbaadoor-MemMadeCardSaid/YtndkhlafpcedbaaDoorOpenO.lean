/- Arguments opened: lists of lists of bytes. -/
import Derived.Test.YtndkhlafpcedbaaDoorRd
import Derived.Test.YtndkhlafpcedbaaDoorProg
import Derived.KernelRfl
import Derived.Test.YtndkhlafpcedbaaDoorPagesB
namespace Go.Proofs.YtndkhlafpcedbaaDoor
set_option linter.unusedVariables false
open Go.RowKit
theorem Tryd.opens_bytes : Opens Tryd.prog 24 (Rd.u8.sl false) (fun xs => xs.length * 1 ≤ 140737488351232 ∧ ∀ x ∈ xs, True) :=
  opens_sl Tryd.underlying24 (by kernel_rfl) (opens_u8 Tryd.underlying5 (by kernel_rfl)) (by kernel_rfl) (of_decide_eq_true (by kernel_rfl))
theorem Tryd.opens_pages : Opens Tryd.prog 29 ((Rd.u8.sl false).sl false) (fun cs => cs.length * 24 ≤ 140737488351232 ∧ ∀ l ∈ cs, l.length * 1 ≤ 140737488351232 ∧ ∀ x ∈ l, True) :=
  opens_sl Tryd.underlying29 (by kernel_rfl) Tryd.opens_bytes (by kernel_rfl) (of_decide_eq_true (by kernel_rfl))
/-- What was opened, as lists that can be read. -/
theorem pv_of_rd {w : World} {lo hi : Nat} {A : Option Addr} {n c : Nat} {L : List (List UInt8)} (h : ((Rd.u8.sl false).sl false).R w lo hi [.slice A n c] L) : n = L.length ∧ PV w hi A L := by
  obtain ⟨A', c', he, _, h⟩ := h
  injection he with he _
  injection he with h1 h2 h3
  subst h1 h2
  refine ⟨rfl, ⟨fun k l hk => ?_⟩⟩
  obtain ⟨b, o, e, _, hlt, hx⟩ := h (by have := (List.getElem?_eq_some_iff.1 hk).1; omega)
  obtain ⟨cs, hc, hr⟩ := hx k l hk
  have hr0 := hr
  obtain ⟨A2, c2, rfl, _⟩ := hr0
  refine ⟨b, o, A2, c2, e, hlt, ?_, (Rd.sl_row hr).2⟩
  have h5 := hc 0 _ rfl
  rw [show (Rd.u8.sl false).z = 1 from rfl, Nat.mul_one, Nat.add_zero] at h5
  exact h5
end Go.Proofs.YtndkhlafpcedbaaDoor
