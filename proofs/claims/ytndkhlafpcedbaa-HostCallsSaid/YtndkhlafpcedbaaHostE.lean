/- host.Host: the iterator over what is left. -/
import Derived.Test.YtndkhlafpcedbaaHostD
namespace Go.Proofs.Ytndkhlafpcedbaa
set_option linter.unusedVariables false
open Go.RowKit Go.Shelf
attribute [local go_sem] Oper.semAt_some
theorem host_left_in (F : Fence) (n : Nat) (hf : F.fn 72) (hro : F.round = none) (p : Option Addr) (w : World) :
    CallsIn F n Try.prog 72 #[.pointer p] w fun e w' => e = .returned (.func (.func 95) #[] #[.pointer (some ⟨w.heap.size, 0, none⟩)]) ∧ w' = w.alloc (.cells #[.pointer p] 49) := by
  refine callsIn_of_wp Try.func72 rfl hf ?_ hro
  simp only [Try.ntmps72, List.size_toArray, List.length_cons, List.length_nil, Nat.reduceAdd, Nat.reduceSub, Array.replicate_succ, Array.replicate_zero, List.push_toArray, List.append_toArray, List.nil_append, List.cons_append]
  gi_wp2
  go_ret
  exact ⟨rfl, rfl⟩
/-- The replies from place t on. -/
def leftL (rs : List Rep) (t : Nat) : List (Fin rs.length) := (List.finRange rs.length).drop t
theorem leftL_get (rs : List Rep) (t k : Nat) (h1 : t ≤ k) (h2 : k < rs.length) : (leftL rs t)[k - t]? = some ⟨k, h2⟩ := by
  unfold leftL
  rw [List.getElem?_drop, show t + (k - t) = k by omega, List.getElem?_eq_getElem (by simpa using h2)]
  simp
def repV (rs : List Rep) (hd : Fin rs.length → Value) (k : Fin rs.length) : Value := .agg #[hd k, .bool rs[k].2]
/-- The host's cells and the replies' cells, as the iterator reads them. -/
structure Reads (rs : List Rep) (hd : Fin rs.length → Value) (t n₀ h Bn : Nat) (A : Option Addr) (c : Nat) (W : World) : Prop where
  ptr : Bn < n₀ ∧ W.cell? ⟨Bn, 0, none⟩ = some (.pointer (some ⟨h, 0, none⟩))
  host : h < n₀ ∧ W.cell? ⟨h, 1, none⟩ = some (.slice A rs.length c) ∧ W.cell? ⟨h, 2, none⟩ = some (.int .i64 t)
  cell : ∀ k : Fin rs.length, ∃ b o, A = some ⟨b, o, none⟩ ∧ b < n₀ ∧ W.cell? ⟨b, o + k.val * 2, none⟩ = some (hd k) ∧ W.cell? ⟨b, o + k.val * 2 + 1, none⟩ = some (.bool rs[k].2)
theorem Reads.below {rs : List Rep} {hd : Fin rs.length → Value} {t n₀ h Bn : Nat} {A : Option Addr} {c : Nat} {W W' : World} (H : Reads rs hd t n₀ h Bn A c W) (hb : Below n₀ W W') : Reads rs hd t n₀ h Bn A c W' where
  ptr := ⟨H.ptr.1, (hb.cell (p := ⟨Bn, 0, none⟩) H.ptr.1).trans H.ptr.2⟩
  host := ⟨H.host.1, (hb.cell (p := ⟨h, 1, none⟩) H.host.1).trans H.host.2.1, (hb.cell (p := ⟨h, 2, none⟩) H.host.1).trans H.host.2.2⟩
  cell k := by
    obtain ⟨b, o, e, hb', h1, h2⟩ := H.cell k
    exact ⟨b, o, e, hb', (hb.cell (p := ⟨b, _, none⟩) hb').trans h1, (hb.cell (p := ⟨b, _, none⟩) hb').trans h2⟩
set_option maxRecDepth 100000 in
set_option maxHeartbeats 1000000 in
theorem left1_in (n : Nat) (hn : 1 ≤ n) (l : Nat) (rs : List Rep) (hd : Fin rs.length → Value) (t n₀ h Bn : Nat) (A : Option Addr) (c : Nat) (h47 : rs.length * 32 ≤ 140737488351232) (ht : t < 9223372036854775808)
    (J Jx : List (Fin rs.length) → World → Prop)
    (hY : ∀ pre x W, J pre W → pre.length < rs.length - t → YieldAt Fence.wide (n - 1) Try.prog l #[repV rs hd x] W fun e W' =>
      (e = .returned (.bool true) ∧ J (pre ++ [x]) W' ∧ Below n₀ W W') ∨ (e = .returned (.bool false) ∧ Jx (pre ++ [x]) W'))
    (W : World) (hL : Reads rs hd t n₀ h Bn A c W) (h0 : J [] W) :
    CallsIn Fence.wide n Try.prog 95 #[.func (.yield l) #[] #[], .pointer (some ⟨Bn, 0, none⟩)] W fun e W' => (∃ v, e = .returned v) ∧
      ((∃ ys, ys = leftL rs t ∧ J ys W') ∨ (∃ pre, pre <+: leftL rs t ∧ Jx pre W')) := by
  have HL := Lib.hid hL; clear hL
  have HY := Lib.hid hY; clear hY
  have hp := HL.out.ptr.2
  have hh1 := HL.out.host.2.1
  have hh2 := HL.out.host.2.2
  refine callsIn_of_wp Try.func95 rfl trivial ?_ rfl
  simp only [Try.ntmps95, List.size_toArray, List.length_cons, List.length_nil, Nat.reduceAdd, Nat.reduceSub, Array.replicate_succ, Array.replicate_zero, List.push_toArray, List.append_toArray, List.nil_append, List.cons_append]
  gi_wp2
  clear hp hh1 hh2
  gi_loopw [3] (fun i wr => ∃ k : Nat, i = .int .i64 k ∧ t ≤ k ∧ (k ≤ rs.length ∨ k = t) ∧ J ((leftL rs t).take (k - t)) wr ∧ Reads rs hd t n₀ h Bn A c wr) (fun i wr => rs.length - (intOf i).toNat)
  case atStart => exact ⟨t, rfl, Nat.le_refl _, .inr rfl, by rw [Nat.sub_self]; exact h0, HL.out⟩
  case round =>
    obtain ⟨k, rfl, htk, hk, hJ, hR⟩ := hrel
    have HJ := Lib.hid hJ; clear hJ
    have HR := Lib.hid hR; clear hR
    have hp := HR.out.ptr.2
    have hh1 := HR.out.host.2.1
    by_cases hlt : k < rs.length
    · obtain ⟨b, o, rfl, hb, hc0, hc1⟩ := HR.out.cell ⟨k, hlt⟩
      have hy := HY.out ((leftL rs t).take (k - t)) ⟨k, hlt⟩ wr HJ.out (by
        rw [List.length_take]
        have : (leftL rs t).length = rs.length - t := by simp [leftL]
        omega)
      have hpre : (leftL rs t).take (k - t) ++ [⟨k, hlt⟩] = (leftL rs t).take (k + 1 - t) := by
        rw [show k + 1 - t = (k - t) + 1 by omega, List.take_add_one, leftL_get rs t k htk hlt]; rfl
      rw [hpre] at hy
      have Hpre := Lib.hid hpre; clear hpre
      unfold repV at hy
      obtain ⟨fn, tmps, assign, body, hy1, hR⟩ := hy
      have HRd := Lib.hid hR; clear hR
      have hi0 : (0 : Int) ≤ k := by omega
      simp only at hc0 hc1
      generalize hd ⟨k, hlt⟩ = hv at *
      generalize (rs[(⟨k, hlt⟩ : Fin rs.length)]).2 = tv at *
      gi_wp2
      refine HRd.out.mono ?_
      rintro e W3 (⟨rfl, hJ3, hk3⟩ | ⟨rfl, hJx3⟩)
      · have HJ3 := Lib.hid hJ3; clear hJ3
        have HR3 := Lib.hid (HR.out.below hk3); clear hk3
        gi_wp2
        go_roundw
        case rel => exact ⟨k + 1, by go_num, by omega, .inl (by omega), HJ3.out, HR3.out⟩
        case measure => simp [intOf]; omega
      · have HJ3 := Lib.hid hJx3; clear hJx3
        gi_wp2
        refine bodyPost_ret (results_none rfl _ _ _) rfl ?_
        exact ⟨⟨_, rfl⟩, .inr ⟨_, List.take_prefix _ _, HJ3.out⟩⟩
    · have hlt' : ¬ (k : Int) < rs.length := by omega
      gi_wp2
      go_end0
      have he : (leftL rs t).take (k - t) = leftL rs t := List.take_of_length_le (by simp [leftL]; omega)
      have hj := HJ.out
      rw [he] at hj
      exact ⟨⟨_, rfl⟩, .inl hj⟩
theorem left1_stops (n : Nat) (hn : 1 ≤ n) (rs : List Rep) (hd : Fin rs.length → Value) (t n₀ h Bn : Nat) (A : Option Addr) (c : Nat) (w : World) (h47 : rs.length * 32 ≤ 140737488351232) (ht : t < 9223372036854775808)
    (hn₀ : n₀ ≤ w.heap.size) (hL : Reads rs hd t n₀ h Bn A c w) :
    SeqStopsK Fence.wide n Try.prog 95 #[.pointer (some ⟨Bn, 0, none⟩)] (fun x => #[repV rs hd x]) (Below n₀) (fun ys => ys = leftL rs t) (fun pre => pre <+: leftL rs t) (rs.length - t) w := fun l J Jx W hW _ _ hY h0 =>
  left1_in n hn l rs hd t n₀ h Bn A c h47 ht J Jx hY W (hL.below (hW.mono hn₀)) h0
end Go.Proofs.Ytndkhlafpcedbaa
