/-
  No cell of these rows narrows 'for every input' (looked for: loops, veiled, ifaces, maps, wideKeys, modest, calm, conditions, laid).
  DERIVED. THE GIVEN ROWS OF THIS SEAT. 10 by the template 'for every input the law returns true; each argument reads behind the call as it read before'; 0 by the template 'total and deterministic' (their statements: YtndkhlafpcedbaaTotals.lean).
  GIVEN WITH THE SEED: the statements are not yours to turn. If you find one false, say at which input.
  Laid BY PROGRAM, IN A SANDBOX (cutbox-rows.mjs): the forced cells as the released guide's own fill.sh prints them over the translation 0cf1ed40a24b6098… (all of the seat's roots in one cut). By AI agents, Wed Nov 11 2026. No macro, syntax, notation, axiom, sorry.
-/
import Derived.Test.YtndkhlafpcedbaaChecked
import GoSem.Claim
import GoSem.ClaimJoined
import GoSem.ClaimMapViews
import Derived.JoinedTies
import Derived.KernelRfl
namespace Go.Proofs.Ytndkhlafpcedbaa
/- THE CELL 'sum', in the pinned program and in every row, IS THE sha256 OF THE DUMP (.gsa) THAT YtndkhlafpcedbaaProg.lean LOADS. Nothing in Lean hashes anything: it is a label: what it is worth is what the hold of that sum in a sandbox is worth. -/
noncomputable def Try.pinned : Pinned := { name := "ytndkhlafpcedbaa", sum := "0cf1ed40a24b6098b0dd5bea04660b14f72927ea71924a3f9d9551370930ba7b", checked := Try.checked }
namespace Rows
def none {H : Type} : Left H := { results := [], args := [] }

/-- 'flagonlaw01.WireBack': WHATEVER THE INPUT: true; the input reads as it did. -/
def wireBackSpec : ChangeSpec := { name := "wireBack", fn := fun _ => fun
  | [d1, d2, d3, d4, d5, d6] => { results := [.lit (.bool true)], args := [d1, d2, d3, d4, d5, d6] }
  | _ => none }
def wireBackRow : OpenClaim := { program := "ytndkhlafpcedbaa", sum := "0cf1ed40a24b6098b0dd5bea04660b14f72927ea71924a3f9d9551370930ba7b", func := "flagon/flagonlaw01.WireBack", spec := "wireBack", apart := false }
def WireBackSaid : Prop := wireBackRow.holds Try.pinned (OpenSpec.ofChange wireBackSpec)

/-- ITS FALSE NEIGHBOUR: 'it returns false'. Refute it at one input. -/
def wireBackWrong : ChangeSpec := { name := "wireBack", fn := fun _ => fun
  | [d1, d2, d3, d4, d5, d6] => { results := [.lit (.bool false)], args := [d1, d2, d3, d4, d5, d6] }
  | _ => none }
def WireBackWrongFalsely : Prop := wireBackRow.holds Try.pinned (OpenSpec.ofChange wireBackWrong)

/-- 'flagonlaw01.WireReads': WHATEVER THE INPUT: true; the input reads as it did. -/
def wireReadsSpec : ChangeSpec := { name := "wireReads", fn := fun _ => fun
  | [d1, d2, d3] => { results := [.lit (.bool true)], args := [d1, d2, d3] }
  | _ => none }
def wireReadsRow : OpenClaim := { program := "ytndkhlafpcedbaa", sum := "0cf1ed40a24b6098b0dd5bea04660b14f72927ea71924a3f9d9551370930ba7b", func := "flagon/flagonlaw01.WireReads", spec := "wireReads", apart := false }
def WireReadsSaid : Prop := wireReadsRow.holds Try.pinned (OpenSpec.ofChange wireReadsSpec)

/-- ITS FALSE NEIGHBOUR: 'it returns false'. Refute it at one input. -/
def wireReadsWrong : ChangeSpec := { name := "wireReads", fn := fun _ => fun
  | [d1, d2, d3] => { results := [.lit (.bool false)], args := [d1, d2, d3] }
  | _ => none }
def WireReadsWrongFalsely : Prop := wireReadsRow.holds Try.pinned (OpenSpec.ofChange wireReadsWrong)

/-- 'flagonlaw15.HostCalls': WHATEVER THE INPUT: true; the input reads as it did. -/
def hostCallsSpec : ChangeSpec := { name := "hostCalls", fn := fun _ => fun
  | [d1, d2, d3] => { results := [.lit (.bool true)], args := [d1, d2, d3] }
  | _ => none }
def hostCallsRow : OpenClaim := { program := "ytndkhlafpcedbaa", sum := "0cf1ed40a24b6098b0dd5bea04660b14f72927ea71924a3f9d9551370930ba7b", func := "flagon/flagonlaw15.HostCalls", spec := "hostCalls", unfollowed := true, recurses := true, apart := false }
def HostCallsSaid : Prop := hostCallsRow.holds Try.pinned (OpenSpec.ofChange hostCallsSpec)

/-- ITS FALSE NEIGHBOUR: 'it returns false'. Refute it at one input. -/
def hostCallsWrong : ChangeSpec := { name := "hostCalls", fn := fun _ => fun
  | [d1, d2, d3] => { results := [.lit (.bool false)], args := [d1, d2, d3] }
  | _ => none }
def HostCallsWrongFalsely : Prop := hostCallsRow.holds Try.pinned (OpenSpec.ofChange hostCallsWrong)

/-- 'flagonlaw15.HostNil': WHATEVER THE INPUT: true; the input reads as it did. -/
def hostNilSpec : ChangeSpec := { name := "hostNil", fn := fun _ => fun
  | [d] => { results := [.lit (.bool true)], args := [d] }
  | _ => none }
def hostNilRow : OpenClaim := { program := "ytndkhlafpcedbaa", sum := "0cf1ed40a24b6098b0dd5bea04660b14f72927ea71924a3f9d9551370930ba7b", func := "flagon/flagonlaw15.HostNil", spec := "hostNil", unfollowed := true, recurses := true, apart := false }
def HostNilSaid : Prop := hostNilRow.holds Try.pinned (OpenSpec.ofChange hostNilSpec)

/-- ITS FALSE NEIGHBOUR: 'it returns false'. Refute it at one input. -/
def hostNilWrong : ChangeSpec := { name := "hostNil", fn := fun _ => fun
  | [d] => { results := [.lit (.bool false)], args := [d] }
  | _ => none }
def HostNilWrongFalsely : Prop := hostNilRow.holds Try.pinned (OpenSpec.ofChange hostNilWrong)

/-- 'flagonlaw08.ShapeCalls': WHATEVER THE INPUT: true; the input reads as it did. -/
def shapeCallsSpec : ChangeSpec := { name := "shapeCalls", fn := fun _ => fun
  | [d1, d2, d3] => { results := [.lit (.bool true)], args := [d1, d2, d3] }
  | _ => none }
def shapeCallsRow : OpenClaim := { program := "ytndkhlafpcedbaa", sum := "0cf1ed40a24b6098b0dd5bea04660b14f72927ea71924a3f9d9551370930ba7b", func := "flagon/flagonlaw08.ShapeCalls", spec := "shapeCalls", unfollowed := true, recurses := true, apart := false }
def ShapeCallsSaid : Prop := shapeCallsRow.holds Try.pinned (OpenSpec.ofChange shapeCallsSpec)

/-- ITS FALSE NEIGHBOUR: 'it returns false'. Refute it at one input. -/
def shapeCallsWrong : ChangeSpec := { name := "shapeCalls", fn := fun _ => fun
  | [d1, d2, d3] => { results := [.lit (.bool false)], args := [d1, d2, d3] }
  | _ => none }
def ShapeCallsWrongFalsely : Prop := shapeCallsRow.holds Try.pinned (OpenSpec.ofChange shapeCallsWrong)

/-- 'flagonlaw08.ShapeBack': WHATEVER THE INPUT: true; the input reads as it did. -/
def shapeBackSpec : ChangeSpec := { name := "shapeBack", fn := fun _ => fun
  | [d1, d2, d3] => { results := [.lit (.bool true)], args := [d1, d2, d3] }
  | _ => none }
def shapeBackRow : OpenClaim := { program := "ytndkhlafpcedbaa", sum := "0cf1ed40a24b6098b0dd5bea04660b14f72927ea71924a3f9d9551370930ba7b", func := "flagon/flagonlaw08.ShapeBack", spec := "shapeBack", unfollowed := true, recurses := true, apart := false }
def ShapeBackSaid : Prop := shapeBackRow.holds Try.pinned (OpenSpec.ofChange shapeBackSpec)

/-- ITS FALSE NEIGHBOUR: 'it returns false'. Refute it at one input. -/
def shapeBackWrong : ChangeSpec := { name := "shapeBack", fn := fun _ => fun
  | [d1, d2, d3] => { results := [.lit (.bool false)], args := [d1, d2, d3] }
  | _ => none }
def ShapeBackWrongFalsely : Prop := shapeBackRow.holds Try.pinned (OpenSpec.ofChange shapeBackWrong)

/-- 'flagonlaw13.MemBytes': WHATEVER THE INPUT: true; the input reads as it did. -/
def memBytesSpec : ChangeSpec := { name := "memBytes", fn := fun _ => fun
  | [d1, d2, d3, d4, d5, d6] => { results := [.lit (.bool true)], args := [d1, d2, d3, d4, d5, d6] }
  | _ => none }
def memBytesRow : OpenClaim := { program := "ytndkhlafpcedbaa", sum := "0cf1ed40a24b6098b0dd5bea04660b14f72927ea71924a3f9d9551370930ba7b", func := "flagon/flagonlaw13.MemBytes", spec := "memBytes", apart := false }
def MemBytesSaid : Prop := memBytesRow.holds Try.pinned (OpenSpec.ofChange memBytesSpec)

/-- ITS FALSE NEIGHBOUR: 'it returns false'. Refute it at one input. -/
def memBytesWrong : ChangeSpec := { name := "memBytes", fn := fun _ => fun
  | [d1, d2, d3, d4, d5, d6] => { results := [.lit (.bool false)], args := [d1, d2, d3, d4, d5, d6] }
  | _ => none }
def MemBytesWrongFalsely : Prop := memBytesRow.holds Try.pinned (OpenSpec.ofChange memBytesWrong)

/-- 'flagonlaw13.MemNil': WHATEVER THE INPUT: true; the input reads as it did. -/
def memNilSpec : ChangeSpec := { name := "memNil", fn := fun _ => fun
  | [] => { results := [.lit (.bool true)], args := [] }
  | _ => none }
def memNilRow : OpenClaim := { program := "ytndkhlafpcedbaa", sum := "0cf1ed40a24b6098b0dd5bea04660b14f72927ea71924a3f9d9551370930ba7b", func := "flagon/flagonlaw13.MemNil", spec := "memNil", apart := false }
def MemNilSaid : Prop := memNilRow.holds Try.pinned (OpenSpec.ofChange memNilSpec)

/-- ITS FALSE NEIGHBOUR: 'it returns false'. Refute it at one input. -/
def memNilWrong : ChangeSpec := { name := "memNil", fn := fun _ => fun
  | [] => { results := [.lit (.bool false)], args := [] }
  | _ => none }
def MemNilWrongFalsely : Prop := memNilRow.holds Try.pinned (OpenSpec.ofChange memNilWrong)

/-- 'flagonlaw02.TypesWords': WHATEVER THE INPUT: true; the input reads as it did. -/
def typesWordsSpec : ChangeSpec := { name := "typesWords", fn := fun _ => fun
  | [d1, d2] => { results := [.lit (.bool true)], args := [d1, d2] }
  | _ => none }
def typesWordsRow : OpenClaim := { program := "ytndkhlafpcedbaa", sum := "0cf1ed40a24b6098b0dd5bea04660b14f72927ea71924a3f9d9551370930ba7b", func := "flagon/flagonlaw02.TypesWords", spec := "typesWords", inPlace := ["internal/bytealg.IndexByteString", "internal/bytealg.IndexString"], unfollowed := true, recurses := true, named := ["internal/bytealg.MaxLen"], apart := false }
def TypesWordsSaid : Prop := typesWordsRow.holds Try.pinned (OpenSpec.ofChange typesWordsSpec)

/-- ITS FALSE NEIGHBOUR: 'it returns false'. Refute it at one input. -/
def typesWordsWrong : ChangeSpec := { name := "typesWords", fn := fun _ => fun
  | [d1, d2] => { results := [.lit (.bool false)], args := [d1, d2] }
  | _ => none }
def TypesWordsWrongFalsely : Prop := typesWordsRow.holds Try.pinned (OpenSpec.ofChange typesWordsWrong)

/-- 'flagonlaw02.TypesJoin': WHATEVER THE INPUT: true; the input reads as it did. -/
def typesJoinSpec : ChangeSpec := { name := "typesJoin", fn := fun _ => fun
  | [d1, d2, d3, d4] => { results := [.lit (.bool true)], args := [d1, d2, d3, d4] }
  | _ => none }
def typesJoinRow : OpenClaim := { program := "ytndkhlafpcedbaa", sum := "0cf1ed40a24b6098b0dd5bea04660b14f72927ea71924a3f9d9551370930ba7b", func := "flagon/flagonlaw02.TypesJoin", spec := "typesJoin", inPlace := ["internal/bytealg.IndexByteString", "internal/bytealg.IndexString"], unfollowed := true, recurses := true, named := ["internal/bytealg.MaxLen"], apart := false }
def TypesJoinSaid : Prop := typesJoinRow.holds Try.pinned (OpenSpec.ofChange typesJoinSpec)

/-- ITS FALSE NEIGHBOUR: 'it returns false'. Refute it at one input. -/
def typesJoinWrong : ChangeSpec := { name := "typesJoin", fn := fun _ => fun
  | [d1, d2, d3, d4] => { results := [.lit (.bool false)], args := [d1, d2, d3, d4] }
  | _ => none }
def TypesJoinWrongFalsely : Prop := typesJoinRow.holds Try.pinned (OpenSpec.ofChange typesJoinWrong)

/- THE SECOND FORM. 'bulk': how many values and letters a reading holds, each counted each time it is reached (what is shared counts as often as it is met; a slice's spare places count too). A statement '..UptoSaid' is the law's where the arguments, and the package variables that the reading takes, are together of bulk at most 1048576: NARROWER than '..Said'. Prove '..Said' where nothing that the law and all that it calls make is longer than what came in: it says more and counts as full. Else prove '..UptoSaid'. A law counts once. -/
mutual
def uptoBulk {H : Type} : DataW H → Nat
  | .lit (.string bytes) => bytes.length + 1
  | .lit _ => 1
  | .nil => 1
  | .ptr d => uptoBulk d + 1
  | .slice elems spare => uptoBulkAll elems + uptoBulkAll spare + 1
  | .agg parts => uptoBulkAll parts + 1
  | .iface _ d => uptoBulk d + 1
  | .map entries => uptoBulkEntries entries + 1
  | .held _ => 1
def uptoBulkAll {H : Type} : List (DataW H) → Nat
  | [] => 0
  | d :: r => uptoBulk d + uptoBulkAll r
def uptoBulkEntries {H : Type} : List (Lit × DataW H) → Nat
  | [] => 0
  | x :: r => uptoBulkEntry x + uptoBulkEntries r
def uptoBulkEntry {H : Type} : Lit × DataW H → Nat
  | (.string bytes, d) => bytes.length + uptoBulk d + 1
  | (_, d) => uptoBulk d + 1
 end
def uptoSmall : (H : Type) → List (DataW H) → Bool := fun _ ds => decide (uptoBulkAll ds ≤ 1048576)
def OpenSpec.upto (s : _root_.Go.ChangeSpec) : _root_.Go.OpenSpec := { _root_.Go.OpenSpec.ofChange s with cond := some uptoSmall }

/-- 'flagonlaw01.WireBack', WHERE WHAT IT READS IS OF BULK AT MOST 1048576: true; the input reads as it did. -/
def wireBackUptoRow : OpenClaim := { program := "ytndkhlafpcedbaa", sum := "0cf1ed40a24b6098b0dd5bea04660b14f72927ea71924a3f9d9551370930ba7b", func := "flagon/flagonlaw01.WireBack", spec := "wireBack", apart := false, narrowed := true }
def WireBackUptoSaid : Prop := wireBackUptoRow.holds Try.pinned (OpenSpec.upto wireBackSpec)

/-- 'flagonlaw01.WireReads', WHERE WHAT IT READS IS OF BULK AT MOST 1048576: true; the input reads as it did. -/
def wireReadsUptoRow : OpenClaim := { program := "ytndkhlafpcedbaa", sum := "0cf1ed40a24b6098b0dd5bea04660b14f72927ea71924a3f9d9551370930ba7b", func := "flagon/flagonlaw01.WireReads", spec := "wireReads", apart := false, narrowed := true }
def WireReadsUptoSaid : Prop := wireReadsUptoRow.holds Try.pinned (OpenSpec.upto wireReadsSpec)

/-- 'flagonlaw15.HostCalls', WHERE WHAT IT READS IS OF BULK AT MOST 1048576: true; the input reads as it did. -/
def hostCallsUptoRow : OpenClaim := { program := "ytndkhlafpcedbaa", sum := "0cf1ed40a24b6098b0dd5bea04660b14f72927ea71924a3f9d9551370930ba7b", func := "flagon/flagonlaw15.HostCalls", spec := "hostCalls", unfollowed := true, recurses := true, apart := false, narrowed := true }
def HostCallsUptoSaid : Prop := hostCallsUptoRow.holds Try.pinned (OpenSpec.upto hostCallsSpec)

/-- 'flagonlaw15.HostNil', WHERE WHAT IT READS IS OF BULK AT MOST 1048576: true; the input reads as it did. -/
def hostNilUptoRow : OpenClaim := { program := "ytndkhlafpcedbaa", sum := "0cf1ed40a24b6098b0dd5bea04660b14f72927ea71924a3f9d9551370930ba7b", func := "flagon/flagonlaw15.HostNil", spec := "hostNil", unfollowed := true, recurses := true, apart := false, narrowed := true }
def HostNilUptoSaid : Prop := hostNilUptoRow.holds Try.pinned (OpenSpec.upto hostNilSpec)

/-- 'flagonlaw08.ShapeCalls', WHERE WHAT IT READS IS OF BULK AT MOST 1048576: true; the input reads as it did. -/
def shapeCallsUptoRow : OpenClaim := { program := "ytndkhlafpcedbaa", sum := "0cf1ed40a24b6098b0dd5bea04660b14f72927ea71924a3f9d9551370930ba7b", func := "flagon/flagonlaw08.ShapeCalls", spec := "shapeCalls", unfollowed := true, recurses := true, apart := false, narrowed := true }
def ShapeCallsUptoSaid : Prop := shapeCallsUptoRow.holds Try.pinned (OpenSpec.upto shapeCallsSpec)

/-- 'flagonlaw08.ShapeBack', WHERE WHAT IT READS IS OF BULK AT MOST 1048576: true; the input reads as it did. -/
def shapeBackUptoRow : OpenClaim := { program := "ytndkhlafpcedbaa", sum := "0cf1ed40a24b6098b0dd5bea04660b14f72927ea71924a3f9d9551370930ba7b", func := "flagon/flagonlaw08.ShapeBack", spec := "shapeBack", unfollowed := true, recurses := true, apart := false, narrowed := true }
def ShapeBackUptoSaid : Prop := shapeBackUptoRow.holds Try.pinned (OpenSpec.upto shapeBackSpec)

/-- 'flagonlaw13.MemBytes', WHERE WHAT IT READS IS OF BULK AT MOST 1048576: true; the input reads as it did. -/
def memBytesUptoRow : OpenClaim := { program := "ytndkhlafpcedbaa", sum := "0cf1ed40a24b6098b0dd5bea04660b14f72927ea71924a3f9d9551370930ba7b", func := "flagon/flagonlaw13.MemBytes", spec := "memBytes", apart := false, narrowed := true }
def MemBytesUptoSaid : Prop := memBytesUptoRow.holds Try.pinned (OpenSpec.upto memBytesSpec)

/-- 'flagonlaw13.MemNil', WHERE WHAT IT READS IS OF BULK AT MOST 1048576: true; the input reads as it did. -/
def memNilUptoRow : OpenClaim := { program := "ytndkhlafpcedbaa", sum := "0cf1ed40a24b6098b0dd5bea04660b14f72927ea71924a3f9d9551370930ba7b", func := "flagon/flagonlaw13.MemNil", spec := "memNil", apart := false, narrowed := true }
def MemNilUptoSaid : Prop := memNilUptoRow.holds Try.pinned (OpenSpec.upto memNilSpec)

/-- 'flagonlaw02.TypesWords', WHERE WHAT IT READS IS OF BULK AT MOST 1048576: true; the input reads as it did. -/
def typesWordsUptoRow : OpenClaim := { program := "ytndkhlafpcedbaa", sum := "0cf1ed40a24b6098b0dd5bea04660b14f72927ea71924a3f9d9551370930ba7b", func := "flagon/flagonlaw02.TypesWords", spec := "typesWords", inPlace := ["internal/bytealg.IndexByteString", "internal/bytealg.IndexString"], unfollowed := true, recurses := true, named := ["internal/bytealg.MaxLen"], apart := false, narrowed := true }
def TypesWordsUptoSaid : Prop := typesWordsUptoRow.holds Try.pinned (OpenSpec.upto typesWordsSpec)

/-- 'flagonlaw02.TypesJoin', WHERE WHAT IT READS IS OF BULK AT MOST 1048576: true; the input reads as it did. -/
def typesJoinUptoRow : OpenClaim := { program := "ytndkhlafpcedbaa", sum := "0cf1ed40a24b6098b0dd5bea04660b14f72927ea71924a3f9d9551370930ba7b", func := "flagon/flagonlaw02.TypesJoin", spec := "typesJoin", inPlace := ["internal/bytealg.IndexByteString", "internal/bytealg.IndexString"], unfollowed := true, recurses := true, named := ["internal/bytealg.MaxLen"], apart := false, narrowed := true }
def TypesJoinUptoSaid : Prop := typesJoinUptoRow.holds Try.pinned (OpenSpec.upto typesJoinSpec)

end Rows
end Go.Proofs.Ytndkhlafpcedbaa
