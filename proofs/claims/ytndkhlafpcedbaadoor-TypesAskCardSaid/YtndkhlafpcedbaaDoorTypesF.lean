/- types.ReadSig. -/
import Derived.Test.YtndkhlafpcedbaaDoorTypesE
import Derived.Test.YtndkhlafpcedbaaDoorShelf
import Derived.Laws.ResultCell
import Derived.Laws.Rows
namespace Go.Proofs.YtndkhlafpcedbaaDoor
set_option linter.unusedVariables false
open Go.RowKit
def cutA (s : ByteArray) : ByteArray := ⟨(Lib.cut s.data.toList [32, 45, 62, 32]).1.toArray⟩
def cutB (s : ByteArray) : ByteArray := ⟨(Lib.cut s.data.toList [32, 45, 62, 32]).2.1.toArray⟩
def cutK (s : ByteArray) : Bool := (Lib.cut s.data.toList [32, 45, 62, 32]).2.2
theorem cut_size (s : ByteArray) : (cutA s).size ≤ s.size ∧ (cutB s).size ≤ s.size := by
  have h : s.data.toList.length = s.size := by simp
  unfold cutA cutB Lib.cut
  constructor
  · show (List.toArray _).size ≤ _
    split <;> simp <;> omega
  · show (List.toArray _).size ≤ _
    split <;> simp <;> omega
theorem meant_size (s : ByteArray) : (meantS s).1.size ≤ s.size := by
  unfold meantS
  split
  · exact Nat.zero_le _
  · exact Nat.le_refl _
/-- What ReadSig answers: the sides, the error. -/
def readS (s : ByteArray) : ByteArray × ByteArray × Nat :=
  if cutK s = true ∧ (meantS (cutA s)).2 = true ∧ (meantS (cutB s)).2 = true ∧ sigB (meantS (cutA s)).1 (meantS (cutB s)).1 = true then ((meantS (cutA s)).1, (meantS (cutB s)).1, 0) else (none_, none_, 15)
theorem info_sig : (Tryd.prog.info? 81).map (·.size) = some 2 := by kernel_rfl
theorem load_sig {W : World} {g : Nat} {a b : ByteArray} (h : Blk W g 81 [.string a, .string b]) : (loadVar 81 ⟨g, 0, none⟩).run Tryd.prog W = .ok (.agg #[.string a, .string b]) W :=
  run_loadVar_row W g 81 81 #[.string a, .string b] (0, 0) _ h Tryd.underlying81 rfl info_sig
theorem fin_sig {W : World} {tmps : Array Value} {g : Nat} {x : Value} {a b : ByteArray} {Q : Ending → World → Prop} (h : Blk W g 81 [.string a, .string b])
    (h2 : tmps.getD 2 undef = .pointer (some ⟨g, 0, none⟩)) (h3 : tmps.getD 3 undef = x) (hq : Q (.returned (.tuple #[.agg #[.string a, .string b], x])) W) :
    bodyPost Tryd.prog Tryd.f89 Q Exit.ret ⟨tmps, []⟩ W := by
  refine bodyPost_ret (v := .tuple #[.agg #[.string a, .string b], x]) ?_ rfl hq
  rw [results_cell_tmp rfl]
  simp only [h2, h3, asAddr, Sem.run_pure, Result.andThen, load_sig h]
set_option maxRecDepth 100000 in
set_option maxHeartbeats 1000000 in
theorem types_ReadSig (s : ByteArray) (hs : s.size < 4294967281) (m : Int) (w : World) (hm : w.cell? ⟨0, 0, none⟩ = some (.int .i64 m)) :
    Calls Tryd.prog 89 #[.string s] w fun e w' => Below w.heap.size w w' ∧ e = .returned (.tuple #[.agg #[.string (readS s).1, .string (readS s).2.1], .int .i64 (readS s).2.2]) := by
  have h0 : 0 < w.heap.size := by
    rcases Nat.eq_zero_or_pos w.heap.size with h | h
    · exfalso
      have : w.heap[0]? = none := Array.getElem?_eq_none (by omega)
      simp [World.cell?, this] at hm
    · exact h
  have Hm := Lib.hid hm; clear hm
  have hca := (cut_size s).1
  have hcb := (cut_size s).2
  have hma := meant_size (cutA s)
  have hmb := meant_size (cutB s)
  have HC : Hid (∀ W : World, W.cell? ⟨0, 0, none⟩ = some (.int .i64 m) → Calls Tryd.prog 98 #[.string s, .string ⟨#[32, 45, 62, 32]⟩] W fun e w' => e = .returned (.tuple #[.string (cutA s), .string (cutB s), .bool (cutK s)]) ∧ ∃ n, w' = W.drewN n) :=
    Lib.hid (fun W hW => Tryd.strings_Cut s ⟨#[32, 45, 62, 32]⟩ m W hs hW)
  have HA := Lib.hid (fun W => types_meant (cutA s) W)
  have HB := Lib.hid (fun W => types_meant (cutB s) W)
  have HS := Lib.hid (fun W => types_Sig (meantS (cutA s)).1 (meantS (cutB s)).1 (by omega) (by omega) W)
  have HR : Hid (readS s = if cutK s = true ∧ (meantS (cutA s)).2 = true ∧ (meantS (cutB s)).2 = true ∧ sigB (meantS (cutA s)).1 (meantS (cutB s)).1 = true then ((meantS (cutA s)).1, (meantS (cutB s)).1, 0) else (none_, none_, 15)) := Lib.hid rfl
  clear hca hcb hma hmb
  generalize meantS (cutA s) = pa at *
  generalize meantS (cutB s) = pb at *
  generalize cutA s = ca at *
  generalize cutB s = cb at *
  generalize cutK s = ck at *
  obtain ⟨p, bp⟩ := pa
  obtain ⟨r, br⟩ := pb
  simp only at HA HB HS HR
  generalize sigB p r = sg at *
  go_enter Tryd.func89, Tryd.ntmps89
  go_wp2_with fail
  generalize hw : w.alloc (.cells #[.string ⟨#[]⟩, .string ⟨#[]⟩] 81) = w1
  have Hb : Hid (Blk w1 w.heap.size 81 [.string ⟨#[]⟩, .string ⟨#[]⟩]) := by rw [← hw]; exact Lib.hid (Blk.new w 81 [.string ⟨#[]⟩, .string ⟨#[]⟩])
  have H1 : Hid (Below w.heap.size w w1) := by rw [← hw]; exact Lib.hid ((Below.refl _ _).alloc (Nat.le_refl _) _)
  clear hw
  refine (HC.out w1 (by rw [H1.out.cell (p := ⟨0, 0, none⟩) h0]; exact Hm.out)).mono ?_
  rintro e w' ⟨rfl, nd, rfl⟩
  have Hb2 : Hid (Blk (w1.drewN nd) w.heap.size 81 [.string ⟨#[]⟩, .string ⟨#[]⟩]) := Lib.hid (Hb.out.drewN nd)
  have H2 : Hid (Below w.heap.size w (w1.drewN nd)) := Lib.hid (below_drewN H1.out nd)
  generalize w1.drewN nd = w2 at *
  clear Hb H1
  go_wp2_with fail
  refine (HA.out w2).mono ?_
  rintro e w' ⟨rfl, rfl⟩
  go_wp2_with fail
  refine (HB.out w2).mono ?_
  rintro e w' ⟨rfl, rfl⟩
  have hfr0 := Hb2.out.frozen 0
  have hfr1 := Hb2.out.frozen 1
  have hq0 : (w2.alloc (.cells #[.string p, .string r] 81)).cell? ⟨w.heap.size, 0, none⟩ = some (.string ⟨#[]⟩) := (Hb2.out.alloc _).cell 0
  have hq1 : (w2.alloc (.cells #[.string p, .string r] 81)).cell? ⟨w.heap.size, 1, none⟩ = some (.string ⟨#[]⟩) := (Hb2.out.alloc _).cell 1
  have hqf0 := (Hb2.out.alloc (.cells #[.string p, .string r] 81)).frozen 0
  have hqf1 := (Hb2.out.alloc (.cells #[.string p, .string r] 81)).frozen 1
  have Hbel : Hid (Below w.heap.size w (((w2.alloc (.cells #[.string p, .string r] 81)).setCell ⟨w.heap.size, 0, none⟩ (.string ⟨#[]⟩)).setCell ⟨w.heap.size, 1, none⟩ (.string ⟨#[]⟩))) :=
    Lib.hid (((H2.out.alloc H2.out.size _).setCell (p := ⟨w.heap.size, 0, none⟩) (Nat.le_refl _) _).setCell (p := ⟨w.heap.size, 1, none⟩) (Nat.le_refl _) _)
  have Hblk : Hid (Blk (((w2.alloc (.cells #[.string p, .string r] 81)).setCell ⟨w.heap.size, 0, none⟩ (.string ⟨#[]⟩)).setCell ⟨w.heap.size, 1, none⟩ (.string ⟨#[]⟩)) w.heap.size 81 [.string ⟨#[]⟩, .string ⟨#[]⟩]) :=
    Lib.hid (((Hb2.out.alloc _).set 0 (.string ⟨#[]⟩)).set 1 (.string ⟨#[]⟩))
  cases ck <;> cases bp <;> cases br
  case true.true.true =>
    clear Hbel Hblk hq0 hq1 hqf0 hqf1 hfr0 hfr1
    go_wp2_with fail
    generalize hw : w2.alloc (.cells #[.string p, .string r] 81) = w3
    have Hx : Hid (Blk w3 w2.heap.size 81 [.string p, .string r]) := by rw [← hw]; exact Lib.hid (Blk.new w2 81 [.string p, .string r])
    have Hb3 : Hid (Blk w3 w.heap.size 81 [.string ⟨#[]⟩, .string ⟨#[]⟩]) := by rw [← hw]; exact Lib.hid (Hb2.out.alloc _)
    have H3 : Hid (Below w.heap.size w w3) := by rw [← hw]; exact Lib.hid (H2.out.alloc H2.out.size _)
    clear hw
    refine (HS.out w3).mono ?_
    rintro e w4 ⟨h4, rfl⟩
    have H4 : Hid (Below w.heap.size w w4) := Lib.hid (H3.out.trans (h4.mono H3.out.size))
    have Hx4 : Hid (Blk w4 w2.heap.size 81 [.string p, .string r]) := Lib.hid (Hx.out.below h4 Hx.out.lt)
    have Hb4 : Hid (Blk w4 w.heap.size 81 [.string ⟨#[]⟩, .string ⟨#[]⟩]) := Lib.hid (Hb3.out.below h4 Hb3.out.lt)
    clear h4 Hx Hb3
    have hfr0 := Hb4.out.frozen 0
    have hfr1 := Hb4.out.frozen 1
    have hq0 : w4.cell? ⟨w.heap.size, 0, none⟩ = some (.string ⟨#[]⟩) := Hb4.out.cell 0
    have hq1 : w4.cell? ⟨w.heap.size, 1, none⟩ = some (.string ⟨#[]⟩) := Hb4.out.cell 1
    have hx0 : w4.cell? ⟨w2.heap.size, 0, none⟩ = some (.string p) := Hx4.out.cell 0
    have hx1 : w4.cell? ⟨w2.heap.size, 1, none⟩ = some (.string r) := Hx4.out.cell 1
    cases sg with
    | false =>
      have hf : readS s = (none_, none_, 15) := by rw [HR.out]; simp
      go_wp2_with fail
      exact fin_sig ((Hb4.out.set 0 (.string ⟨#[]⟩)).set 1 (.string ⟨#[]⟩)) rfl rfl ⟨(H4.out.setCell (p := ⟨w.heap.size, 0, none⟩) (Nat.le_refl _) _).setCell (p := ⟨w.heap.size, 1, none⟩) (Nat.le_refl _) _, by rw [hf]; rfl⟩
    | true =>
      have hf : readS s = (p, r, 0) := by rw [HR.out]; simp
      go_wp2_with fail
      exact fin_sig ((Hb4.out.set 0 (.string p)).set 1 (.string r)) rfl rfl ⟨(H4.out.setCell (p := ⟨w.heap.size, 0, none⟩) (Nat.le_refl _) _).setCell (p := ⟨w.heap.size, 1, none⟩) (Nat.le_refl _) _, by rw [hf]; rfl⟩
  all_goals
    have hf : readS s = (none_, none_, 15) := by rw [HR.out]; simp
    go_wp2_with fail
    exact fin_sig Hblk.out rfl rfl ⟨Hbel.out, by rw [hf]; rfl⟩
end Go.Proofs.YtndkhlafpcedbaaDoor
