/- Part 9 of the proof: Shelf -/
import Derived.Shelf.Strings.Prefix
import Derived.Shelf.Strings.Fields
import Derived.Shelf.LaysM
import Derived.Shelf.Strings.SplitShaped
import Derived.Shelf.Unicode.Latin
import Derived.Shelf.Unicode.Is16White
import Derived.Shelf.Unicode.IsSpaceAny
import Derived.Shelf.Unicode.Is16WhiteD
import Derived.Shelf.Unicode.Is16Any
import Derived.Shelf.Unicode.Is32Any
import Derived.Shelf.Unicode.ExclAny
import Derived.Test.YtlagonfamllgjaaGreatDoorProg
namespace Go.Proofs
open Go.Shelf
def Tryz.Xk:Go.Shelf.Ren:=⟨fun | 157=>198 | 229=>203 | 199=>204 | 261=>205 | 311=>206 | 312=>207 | n=>n,fun | 9=>9 | 31=>105 | 3=>3 | 5=>5 | 4=>4 | 119=>264 | 0=>0 | 40=>266 | 152=>267 | 21=>21 | 154=>269 | 51=>270 | 141=>272 | 196=>276 | 193=>273 | 198=>279 | 49=>277 | 194=>274 | 201=>282 | 226=>284 | 46=>187 | 227=>285 | n=>n,fun | 0=>0 | 6=>1 | n=>n⟩
theorem Tryz.qW:Go.Proofs.Lays.n157 Tryz.prog Tryz.Xk:= {
 mixed:=by kernel_rfl
 f157:=Tryz.func198.trans (congrArg some (by kernel_rfl))
 f199:=Tryz.func204.trans (congrArg some (by kernel_rfl))
 f229:=Tryz.func203.trans (congrArg some (by kernel_rfl))
 f261:=Tryz.func205.trans (congrArg some (by kernel_rfl))
 f311:=Tryz.func206.trans (congrArg some (by kernel_rfl))
 f312:=Tryz.func207.trans (congrArg some (by kernel_rfl))
 t0:=Tryz.underlying0
 a0:=Tryz.isAgg0
 z0:=Tryz.sizeOf0
 v0:=Tryz.zeroValue0
 t3:=Tryz.underlying3
 a3:=Tryz.isAgg3
 z3:=Tryz.sizeOf3
 v3:=Tryz.zeroValue3
 t4:=Tryz.underlying4
 a4:=Tryz.isAgg4
 z4:=Tryz.sizeOf4
 v4:=Tryz.zeroValue4
 t5:=Tryz.underlying5
 a5:=Tryz.isAgg5
 z5:=Tryz.sizeOf5
 v5:=Tryz.zeroValue5
 t9:=Tryz.underlying9
 a9:=Tryz.isAgg9
 z9:=Tryz.sizeOf9
 v9:=Tryz.zeroValue9
 t21:=Tryz.underlying21
 a21:=Tryz.isAgg21
 z21:=Tryz.sizeOf21
 v21:=Tryz.zeroValue21
 t31:=Tryz.underlying105
 a31:=Tryz.isAgg105
 z31:=Tryz.sizeOf105
 v31:=Tryz.zeroValue105
 t40:=Tryz.underlying266
 a40:=Tryz.isAgg266
 z40:=Tryz.sizeOf266
 v40:=Tryz.zeroValue266
 t46:=Tryz.underlying187
 a46:=Tryz.isAgg187
 z46:=Tryz.sizeOf187
 v46:=Tryz.zeroValue187
 t49:=Tryz.underlying277
 a49:=Tryz.isAgg277
 z49:=Tryz.sizeOf277
 v49:=Tryz.zeroValue277
 t51:=Tryz.underlying270
 a51:=Tryz.isAgg270
 z51:=Tryz.sizeOf270
 v51:=Tryz.zeroValue270
 t119:=Tryz.underlying264
 a119:=Tryz.isAgg264
 z119:=Tryz.sizeOf264
 t141:=Tryz.underlying272
 a141:=Tryz.isAgg272
 z141:=Tryz.sizeOf272
 v141:=Tryz.zeroValue272
 t152:=Tryz.underlying267
 a152:=Tryz.isAgg267
 z152:=Tryz.sizeOf267
 v152:=Tryz.zeroValue267
 t154:=Tryz.underlying269
 a154:=Tryz.isAgg269
 z154:=Tryz.sizeOf269
 v154:=Tryz.zeroValue269
 t193:=Tryz.underlying273
 a193:=Tryz.isAgg273
 z193:=Tryz.sizeOf273
 v193:=Tryz.zeroValue273
 t194:=Tryz.underlying274
 a194:=Tryz.isAgg274
 z194:=Tryz.sizeOf274
 v194:=Tryz.zeroValue274
 t196:=Tryz.underlying276
 a196:=Tryz.isAgg276
 z196:=Tryz.sizeOf276
 v196:=Tryz.zeroValue276
 t198:=Tryz.underlying279
 a198:=Tryz.isAgg279
 z198:=Tryz.sizeOf279
 v198:=Tryz.zeroValue279
 t201:=Tryz.underlying282
 a201:=Tryz.isAgg282
 z201:=Tryz.sizeOf282
 v201:=Tryz.zeroValue282
 t226:=Tryz.underlying284
 a226:=Tryz.isAgg284
 z226:=Tryz.sizeOf284
 v226:=Tryz.zeroValue284
 t227:=Tryz.underlying285
 a227:=Tryz.isAgg285
 z227:=Tryz.sizeOf285
 v227:=Tryz.zeroValue285
 g0:=by kernel_rfl
 g6:=by kernel_rfl}
open Go.RowKit Go.Lib in
theorem Tryz.strings_Fields (s:ByteArray) (w:World) (hs:s.size<4294967281) (hascii: ∀(j:Nat) b,s.data.toList[j]?=some b→b.toNat<128) (htab:Lib.TabIs Tryz.prog w "strings.asciiSpace" .u8 Lib.asciiSpaceTab):
 Calls Tryz.prog 198 #[.string s] w fun e w'=>
  e= .returned (.slice (some ⟨w.heap.size,0,none⟩) (Lib.fields s.data.toList).length (Lib.fields s.data.toList).length)∧w'=w.alloc (.cells ((Lib.fields s.data.toList).map fun l=>Value.string ⟨l.toArray⟩).toArray 9):=Any.strings_Fields Tryz.qW (by kernel_rfl) (by kernel_rfl) s w hs hascii htab
end Go.Proofs
