/- mem: Clean. -/
import Derived.Test.YtndkhlafpcedbaaMemE
import Derived.Deep.MidRow
namespace Go.Proofs.Ytndkhlafpcedbaa
set_option linter.unusedVariables false
open Go.RowKit
/-- A row with cells set from o on. -/
def putL : List Value → Nat → List Value → List Value
  | xs, _, [] => xs
  | xs, o, v :: r => putL (xs.set o v) (o + 1) r
theorem putL_end : ∀ (vs pre ys : List Value), ys.length = vs.length → putL (pre ++ ys) pre.length vs = pre ++ vs
  | [], pre, ys, h => by
    have : ys = [] := List.length_eq_zero_iff.1 h
    subst this; rfl
  | v :: r, pre, y :: ys, h => by
    rw [putL, List.set_append_right _ _ (Nat.le_refl _), Nat.sub_self, List.set_cons_zero]
    have := putL_end r (pre ++ [v]) ys (by simpa using h)
    rw [List.length_append, List.append_assoc, List.append_assoc] at this
    exact this
  | v :: r, pre, [], h => by simp at h
theorem Blk.sets {g : Nat} {t : TypeId} : ∀ (vs : List Value) (w : World) (xs : List Value) (o : Nat), Blk w g t xs → Blk (w.setCells g o vs) g t (putL xs o vs)
  | [], _, _, _, h => h
  | v :: r, w, xs, o, h => Blk.sets r _ _ (o + 1) (h.set o v)
theorem KeptF.setCells {F : Nat → Prop} {b : Nat} (hp : F b) : ∀ (vs : List Value) (o : Nat) (w : World), KeptF w (w.setCells b o vs) F
  | [], _, w => KeptF.refl w F
  | v :: r, o, w => (KeptF.setCell (p := ⟨b, o, none⟩) hp v).trans (KeptF.setCells hp r (o + 1) _)
def noD : List Bool := List.replicate 64 false
theorem info_marks : (Try.prog.info? 81).map (·.size) = some 64 := by kernel_rfl
theorem under_marks : ∃ d, Try.prog.underlying 81 = some d ∧ d.isRow = true := ⟨_, Try.underlying81, rfl⟩
section
variable {tm tp tg base : Nat} {w : World} {m : MemV}
def MemV.clean (m : MemV) : MemV := { m with d := noD }
theorem MemAt.clean (h : MemAt tm tp tg base w m) (h1 : tm ≠ tg) (h3 : tp ≠ tm) : MemAt tm tp tg base (w.setCells m.p 3 (noD.map Value.bool)) m.clean := by
  have hk : KeptF w (w.setCells m.p 3 (noD.map Value.bool)) (fun k => k = m.p) := KeptF.setCells (F := fun k => k = m.p) rfl _ _ _
  refine ⟨?_, rfl, ?_, ?_, h.len, h.apart, h.np, h.most, h.low⟩
  · have := Blk.sets (noD.map Value.bool) w m.cells 3 h.own
    have e : putL m.cells 3 (noD.map Value.bool) = m.clean.cells :=
      putL_end (noD.map Value.bool) [.bool true, .slice m.A m.bs.length m.c, .int .i64 m.most] (m.d.map .bool) (by rw [List.length_map, List.length_map, h.dl]; rfl)
    rw [e] at this
    exact this
  · refine ⟨h.row.1, ?_⟩
    rcases h.row.2 with hn | ⟨g, cap, cur, hv, hb', hg, rest⟩
    · exact .inl hn
    · refine .inr ⟨g, cap, cur, hv, hb', ?_, rest⟩
      rw [hk.block g (Array.getElem?_eq_some_iff.1 hg).1 (fun e => own_ne h.row h.own h3 (by rw [hv, ← e]; rfl))]
      exact hg
  · intro i b hib
    have hb := h.page i b hib
    exact (hk.block b hb.lt fun e => h.own.ne_ hb h1 e.symm).trans hb
theorem MemAt.clean_kept : KeptF w (w.setCells m.p 3 (noD.map Value.bool)) m.foot := KeptF.setCells (.inl rfl) _ _ _
end
set_option maxRecDepth 100000 in
set_option maxHeartbeats 400000 in
theorem mem_Clean (base : Nat) (m : MemV) (w : World) (hm : MAt base w m) :
    Calls Try.prog 58 #[.pointer (some ⟨m.p, 0, none⟩)] w fun e w' => e = .returned (.bool true) ∧ MAt base w' m.clean ∧ KeptF w w' m.foot := by
  have HO := Lib.hid (mem_ok base m w hm)
  have H1 := Lib.hid (hm.clean (by decide) (by decide))
  have H2 := Lib.hid (MemAt.clean_kept (w := w) (m := m))
  have ht : w.there m.p 3 (noD.map Value.bool).toArray.size := by
    intro j hj
    have hj' : j < 64 := hj
    exact ⟨by rw [hm.celld hj']; rfl, hm.own.frozen _⟩
  have Ht := Lib.hid ht; clear ht
  clear hm
  go_enter Try.func58, Try.ntmps58
  go_wp2_with fail
  refine HO.out.mono ?_
  rintro e w' ⟨rfl, rfl⟩
  go_wp2_with (refine wpList_store_mid rfl 81 _ _ rfl m.p 3 (noD.map Value.bool).toArray rfl rfl Ht.out info_marks (all_oneCell_toArray (fun v hv => by obtain ⟨_, _, rfl⟩ := List.mem_map.1 hv; rfl)) ?_)
  go_ret
  exact ⟨rfl, H1.out, H2.out⟩
end Go.Proofs.Ytndkhlafpcedbaa
