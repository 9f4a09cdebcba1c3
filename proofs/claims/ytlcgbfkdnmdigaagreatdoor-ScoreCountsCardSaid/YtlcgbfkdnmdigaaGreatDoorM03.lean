/- Lemmas and walks; no statement is proved here. -/
import Derived.Shelf.Strings.Fields
import Derived.Test.YtlcgbfkdnmdigaaGreatDoorM02
set_option linter.unusedVariables false
set_option linter.unusedSimpArgs false
set_option maxRecDepth 20000
set_option maxHeartbeats 6000000
namespace Go.Proofs
open Go.Shelf
def Tryz.lays157_ren:Go.Shelf.Ren:=⟨fun|157=>255|229=>258|199=>259|261=>261|311=>263|312=>264|n=>n,fun|9=>9|31=>139|3=>3|5=>5|4=>4|119=>286|0=>0|40=>288|152=>289|21=>21|154=>291|51=>206|141=>293|196=>297|193=>294|198=>300|49=>298|194=>295|201=>303|226=>305|46=>156|227=>306|n=>n,fun|0=>0|6=>1|n=>n⟩
theorem Tryz.lays157:Go.Proofs.Lays.n157 Tryz.prog Tryz.lays157_ren:={
 mixed:=by kernel_rfl
 f157:=Tryz.func255.trans (congrArg some (by kernel_rfl))
 f199:=Tryz.func259.trans (congrArg some (by kernel_rfl))
 f229:=Tryz.func258.trans (congrArg some (by kernel_rfl))
 f261:=Tryz.func261.trans (congrArg some (by kernel_rfl))
 f311:=Tryz.func263.trans (congrArg some (by kernel_rfl))
 f312:=Tryz.func264.trans (congrArg some (by kernel_rfl))
 t0:=Tryz.underlying0
 a0:=Tryz.isAgg0
 z0:=Tryz.sizeOf0
 v0:=Tryz.zeroValue0
 t3:=Tryz.underlying3
 a3:=Tryz.isAgg3
 z3:=Tryz.sizeOf3
 v3:=Tryz.zeroValue3
 t4:=Tryz.underlying4
 a4:=Tryz.isAgg4
 z4:=Tryz.sizeOf4
 v4:=Tryz.zeroValue4
 t5:=Tryz.underlying5
 a5:=Tryz.isAgg5
 z5:=Tryz.sizeOf5
 v5:=Tryz.zeroValue5
 t9:=Tryz.underlying9
 a9:=Tryz.isAgg9
 z9:=Tryz.sizeOf9
 v9:=Tryz.zeroValue9
 t21:=Tryz.underlying21
 a21:=Tryz.isAgg21
 z21:=Tryz.sizeOf21
 v21:=Tryz.zeroValue21
 t31:=Tryz.underlying139
 a31:=Tryz.isAgg139
 z31:=Tryz.sizeOf139
 v31:=Tryz.zeroValue139
 t40:=Tryz.underlying288
 a40:=Tryz.isAgg288
 z40:=Tryz.sizeOf288
 v40:=Tryz.zeroValue288
 t46:=Tryz.underlying156
 a46:=Tryz.isAgg156
 z46:=Tryz.sizeOf156
 v46:=Tryz.zeroValue156
 t49:=Tryz.underlying298
 a49:=Tryz.isAgg298
 z49:=Tryz.sizeOf298
 v49:=Tryz.zeroValue298
 t51:=Tryz.underlying206
 a51:=Tryz.isAgg206
 z51:=Tryz.sizeOf206
 v51:=Tryz.zeroValue206
 t119:=Tryz.underlying286
 a119:=Tryz.isAgg286
 z119:=Tryz.sizeOf286
 t141:=Tryz.underlying293
 a141:=Tryz.isAgg293
 z141:=Tryz.sizeOf293
 v141:=Tryz.zeroValue293
 t152:=Tryz.underlying289
 a152:=Tryz.isAgg289
 z152:=Tryz.sizeOf289
 v152:=Tryz.zeroValue289
 t154:=Tryz.underlying291
 a154:=Tryz.isAgg291
 z154:=Tryz.sizeOf291
 v154:=Tryz.zeroValue291
 t193:=Tryz.underlying294
 a193:=Tryz.isAgg294
 z193:=Tryz.sizeOf294
 v193:=Tryz.zeroValue294
 t194:=Tryz.underlying295
 a194:=Tryz.isAgg295
 z194:=Tryz.sizeOf295
 v194:=Tryz.zeroValue295
 t196:=Tryz.underlying297
 a196:=Tryz.isAgg297
 z196:=Tryz.sizeOf297
 v196:=Tryz.zeroValue297
 t198:=Tryz.underlying300
 a198:=Tryz.isAgg300
 z198:=Tryz.sizeOf300
 v198:=Tryz.zeroValue300
 t201:=Tryz.underlying303
 a201:=Tryz.isAgg303
 z201:=Tryz.sizeOf303
 v201:=Tryz.zeroValue303
 t226:=Tryz.underlying305
 a226:=Tryz.isAgg305
 z226:=Tryz.sizeOf305
 v226:=Tryz.zeroValue305
 t227:=Tryz.underlying306
 a227:=Tryz.isAgg306
 z227:=Tryz.sizeOf306
 v227:=Tryz.zeroValue306
 g0:=by kernel_rfl
 g6:=by kernel_rfl }
open Go.RowKit Go.Lib in
theorem Tryz.strings_Fields(s:ByteArray)(w:World)(hs:s.size<4294967281)(hascii:∀(j:Nat) b,s.data.toList[j]?=some b->b.toNat<128)(htab:Lib.TabIs Tryz.prog w "strings.asciiSpace" .u8 Lib.asciiSpaceTab):Calls Tryz.prog 255 #[.string s] w fun e w'=>e=.returned (.slice (some ⟨w.heap.size,0,none⟩) (Lib.fields s.data.toList).length (Lib.fields s.data.toList).length)/\w'=w.alloc (.cells ((Lib.fields s.data.toList).map fun l=>Value.string ⟨l.toArray⟩).toArray 9):=Any.strings_Fields Tryz.lays157 (by kernel_rfl) (by kernel_rfl) s w hs hascii htab
end Go.Proofs
