/- host.Host: Call of no host; the anchor of layer 15; HostNil, walked. -/
import Derived.Test.YtndkhlafpcedbaaHostF
namespace Go.Proofs.Ytndkhlafpcedbaa
set_option linter.unusedVariables false
open Go.RowKit
theorem call_out {A : Option Addr} {n c : Nat} {b : Bool} {b4 b5 : Nat} {V : World} {tmps : Array Value} {Q : Ending → World → Prop} (h4 : tmps.getD 4 undef = .pointer (some ⟨b4, 0, none⟩)) (h5 : tmps.getD 5 undef = .pointer (some ⟨b5, 0, none⟩))
    (e4 : Blk V b4 52 [.slice A n c]) (e5 : Blk V b5 4 [.bool b]) (hq : Q (.returned (.tuple #[.slice A n c, .bool b])) V) :
    bodyPost Try.prog Try.f38 Q Exit.ret ⟨tmps, []⟩ V := by
  refine bodyPost_ret (v := .tuple #[.slice A n c, .bool b]) ?_ rfl hq
  rw [results_two rfl]
  simp only [h4, h5, asAddr, Sem.run_pure, Result.andThen, load_w1 e4, load_b1 e5]
set_option maxRecDepth 100000 in
set_option maxHeartbeats 1000000 in
theorem host_Call_no (p : Option Addr) (s : ByteArray) (w : World) (hp : ∀ a, p = some a → ∃ h, a = ⟨h, 0, none⟩ ∧ h < w.heap.size ∧ w.cell? ⟨h, 0, none⟩ = some (.bool false)) :
    Calls Try.prog 38 #[.pointer p, .string s] w fun e w' => e = .returned (.tuple #[.slice none 0 0, .bool false]) ∧ Below w.heap.size w w' := by
  obtain ⟨W4, hW4⟩ : ∃ W4, W4 = (((w.alloc (.cells #[.pointer p] 49)).alloc (.cells #[.string s] 9)).alloc (.cells #[.slice none 0 0] 52)).alloc (.cells #[.bool false] 4) := ⟨_, rfl⟩
  have hB4 : Below w.heap.size w W4 := by rw [hW4]; exact ((((Below.refl _ _).alloc (Nat.le_refl _) _).alloc (by simp) _).alloc (by simp; omega) _).alloc (by simp; omega) _
  have hx2 : Blk W4 (w.heap.size + 1 + 1) 52 [.slice none 0 0] := by
    rw [hW4]
    have := (Blk.new ((w.alloc (.cells #[.pointer p] 49)).alloc (.cells #[.string s] 9)) 52 [.slice none 0 0]).alloc (.cells #[.bool false] 4)
    rwa [World.size_alloc, World.size_alloc] at this
  have hx3 : Blk W4 (w.heap.size + 1 + 1 + 1) 4 [.bool false] := by
    rw [hW4]
    have := Blk.new (((w.alloc (.cells #[.pointer p] 49)).alloc (.cells #[.string s] 9)).alloc (.cells #[.slice none 0 0] 52)) 4 [.bool false]
    rwa [World.size_alloc, World.size_alloc, World.size_alloc] at this
  have HB4 := Lib.hid hB4
  have H4 := Lib.hid hx2
  have H5 := Lib.hid hx3
  have HW4 := Lib.hid hW4
  clear hx2 hx3
  rcases p with _ | a
  · clear hB4 hW4
    go_enter Try.func38, Try.ntmps38
    go_wp2_with fail
    rw [← HW4.out]
    exact call_out rfl rfl H4.out H5.out ⟨rfl, HB4.out⟩
  · obtain ⟨h, rfl, hlt, hc⟩ := hp a rfl
    have hc0 := (hB4.cell (p := ⟨h, 0, none⟩) hlt).trans hc
    rw [hW4] at hc0
    clear hB4 hW4 hc hp
    go_enter Try.func38, Try.ntmps38
    go_wp2_with fail
    rw [← HW4.out]
    exact call_out rfl rfl H4.out H5.out ⟨rfl, HB4.out⟩
set_option maxRecDepth 100000 in
set_option maxHeartbeats 1000000 in
theorem works15 (w : World) : Calls Try.prog 31 #[] w fun e w' => e = .returned (.bool true) ∧ Below w.heap.size w w' := by
  go_enter Try.func31, Try.ntmps31
  go_wp2_with fail
  generalize hw : (w.alloc (.cells #[.int .u64 5] 22)).alloc (.cells #[.slice (some ⟨w.heap.size, 0, none⟩) 1 1, .bool false] 54) = w1
  have hB1 : Below w.heap.size w w1 := by rw [← hw]; exact ((Below.refl _ _).alloc (Nat.le_refl _) _).alloc (by simp) _
  have hs1 : w1.heap.size = w.heap.size + 2 := by rw [← hw]; simp
  have hb0 : Blk w1 w.heap.size 22 [.int .u64 5] := by rw [← hw]; exact (Blk.new w 22 [.int .u64 5]).alloc _
  have hb1 : Blk w1 (w.heap.size + 1) 54 [.slice (some ⟨w.heap.size, 0, none⟩) 1 1, .bool false] := by
    rw [← hw]
    have := Blk.new (w.alloc (.cells #[.int .u64 5] 22)) 54 [.slice (some ⟨w.heap.size, 0, none⟩) 1 1, .bool false]
    rwa [World.size_alloc] at this
  have hscr : (rScr true).R w1 0 w1.heap.size [.slice (some ⟨w.heap.size + 1, 0, none⟩) 1 1] [([5], false)] := by
    refine ⟨_, _, rfl, fun _ a e => (by injection e with e; rw [← e]), fun _ => ⟨w.heap.size + 1, 0, rfl, Nat.zero_le _, hb1.lt, fun k x hk => ?_⟩⟩
    have hk0 : k = 0 := by
      have := (List.getElem?_eq_some_iff.1 hk).1
      simp at this; omega
    subst hk0
    simp at hk
    subst hk
    refine ⟨[.slice (some ⟨w.heap.size, 0, none⟩) 1 1, .bool false], fun j u hu => by rw [← hu]; have := hb1.cell j; simpa using this, rRep_iff.2 ⟨_, rfl, _, _, rfl, fun _ a e => (by injection e with e; rw [← e]), fun _ => ⟨w.heap.size, 0, rfl, Nat.zero_le _, hb0.lt, fun k x hk => ?_⟩⟩⟩
    have hk0 : k = 0 := by
      have := (List.getElem?_eq_some_iff.1 hk).1
      simp at this; omega
    subst hk0
    simp at hk
    subst hk
    exact ⟨[.int .u64 5], fun j u hu => by rw [← hu]; have := hb0.cell j; simpa using this, rfl, by unfold Rd.B64; omega⟩
  have HB1 := Lib.hid hB1; clear hB1 hb0 hb1 hs1 hw
  refine (host_New _ 1 1 0 w1.heap.size [([5], false)] 0 w1 hscr (Nat.le_refl _) (by unfold RepsLe; simp) (by omega)).mono ?_
  rintro e w2 ⟨rfl, hh, hb⟩
  have HB2 := Lib.hid (HB1.out.trans (hb.mono HB1.out.size)); clear hb
  rw [show max (0 : Int) 0 = ((0 : Nat) : Int) from rfl] at hh
  have Hh := Lib.hid hh; clear hh hscr
  go_wp2_with fail
  refine (host_Call w1.heap.size w2.heap.size [([5], false)] 0 ⟨#[119]⟩ w2 Hh.out (Nat.le_refl _) (by unfold RepsLe; simp) (by omega) (by decide)).mono ?_
  have hcr : callR [([5], false)] 0 ⟨#[119]⟩ = (([5], true), 1) := by decide +kernel
  rw [hcr]
  rintro e w3 ⟨A', c', rfl, ho, hh3, hg⟩
  obtain ⟨A4, c4, hblk, hscr⟩ := hh3
  have HB3 := Lib.hid (HB2.out.grown hg HB2.out.size (fun k e => by injection e with e; have := HB1.out.size; omega)); clear hg
  have hrow := Row.own ho
  obtain ⟨b, o, rfl, _, hcell⟩ := hrow.word (j := 0) (by simp)
  have hcell' : w3.cell? ⟨b, o, none⟩ = some (.int .u64 5) := hcell
  have Hblk := Lib.hid hblk; clear hblk hscr hrow ho hcell hcr
  go_wp2_with (first | (go_at_call 35; refine (host_Taken w1.heap.size true _ _ _ Hblk.out).mono ?_; rintro e w' ⟨rfl, rfl⟩) | (go_at_call 36; refine (host_Left w1.heap.size true _ 1 _ 1 _ Hblk.out (by omega) (by omega)).mono ?_; rintro e w' ⟨⟨k, rfl⟩, rfl⟩))
  go_ret
  exact ⟨rfl, below_drewN HB3.out k⟩
end Go.Proofs.Ytndkhlafpcedbaa
