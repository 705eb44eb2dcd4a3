/- Part 13 of the proof: EachZ TypesZ TypesN -/
import Derived.Test.YtlagonfamllgjaaGreatDoorK05
namespace Go.Proofs.YtlagonfamllgjaaGreatDoor
set_option linter.unusedVariables false
set_option linter.unusedSimpArgs false
set_option maxRecDepth 100000
set_option maxHeartbeats 4000000
open Go.RowKit Tryz

def zs (n:Nat):List Value:=List.replicate n (.int .u64 0)
def AAA (b:Nat) (w0:World) (i:Nat) (W:World):Prop:=
 ∃A c,AQ W b 31 [.slice A i c]∧W.ownsRow (b+2) 87 1 (.slice A i c) i (zs i)∧Below b w0 W∧b+2≤W.heap.size
theorem AAA.iter {b i:Nat} {w0 W:World} {s:ByteArray} (h:AAA b w0 i W) (pos:Nat):AAA b w0 i (setIter W (b+1) s pos):=by
 obtain⟨A,c,h1,h2,h3,h4⟩:=h
 have hk:W.grownBy (setIter W (b+1) s pos) (some (b+1)):=⟨rfl,rfl,rfl,by simp [setIter],fun k hk hn=>by
  simp only [setIter];rw [Array.getElem?_setIfInBounds_ne (by intro e;exact hn (by rw [e]))]⟩
 refine⟨A,c,?_,h2.kept (row:=some (b+1)) hk ?_,h3.trans (Fw _ (by omega)),by simpa [setIter] using h4⟩
 ·exact(hk.block b h1.lt (by intro e;injection e with e;omega)).trans h1
 ·cases hv:(Value.slice A i c).ownBlock with
  | none=>exact .inl rfl
  | some k=>right;intro e;injection e with e;have:=(h2.lt k hv).1;omega
theorem U7 (v c:Nat) (hc:c<256) (w:World):Calls prog 175 #[.int .u64 v,.int .u8 c] w fun e w'=>w=w'∧e= .returned (.bool (Dr v c)):=by
 by_cases h1:c=119
 ·subst h1
  have HF:=AA (show Dr v 119=decide ((v:Int)<4294967296)by unfold Dr;simp;omega)
  go_enter func175,ntmps175
  go_wp2
  go_ret
  exact⟨rfl,by rw [HF.out];rfl⟩
 ·have h1':((c:Int)==119)=false:=by simp;omega
  have HF:=AA (show Dr v c=((c:Int)==108)by
   have h2:(c==119)=false:=by simp [h1]
   unfold Dr
   rw [h2,Bool.false_and,Bool.or_false]
   by_cases h3:c=108
   ·subst h3;rfl
   ·have h4:(c==108)=false:=by simp [h3]
    have h5:((c:Int)==108)=false:=by simp;omega
    rw [h4,h5])
  clear h1
  go_enter func175,ntmps175
  go_wp2
  go_ret
  exact⟨rfl,by rw [HF.out];rfl⟩
end Go.Proofs.YtlagonfamllgjaaGreatDoor
