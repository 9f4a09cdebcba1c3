/- Lemmas and walks; no statement is proved here. -/
import Derived.Shelf.Strings.Fields
import Derived.Test.YtefnknhjlejalaaGreatDoorM02
set_option linter.unusedVariables false
set_option linter.unusedSimpArgs false
set_option maxRecDepth 20000
set_option maxHeartbeats 6000000
namespace Go.Proofs
open Go.Shelf
def Tryz.lays157_ren:Go.Shelf.Ren:=⟨fun|157=>213|229=>226|199=>227|261=>235|311=>238|312=>239|n=>n,fun|9=>9|31=>249|3=>3|5=>5|4=>4|119=>271|0=>0|40=>273|152=>279|21=>21|154=>281|51=>268|141=>283|196=>290|193=>287|198=>293|49=>291|194=>288|201=>296|226=>298|46=>189|227=>299|n=>n,fun|0=>0|6=>1|n=>n⟩
theorem Tryz.lays157:Go.Proofs.Lays.n157 Tryz.prog Tryz.lays157_ren:={
 mixed:=by kernel_rfl
 f157:=Tryz.func213.trans (congrArg some (by kernel_rfl))
 f199:=Tryz.func227.trans (congrArg some (by kernel_rfl))
 f229:=Tryz.func226.trans (congrArg some (by kernel_rfl))
 f261:=Tryz.func235.trans (congrArg some (by kernel_rfl))
 f311:=Tryz.func238.trans (congrArg some (by kernel_rfl))
 f312:=Tryz.func239.trans (congrArg some (by kernel_rfl))
 t0:=Tryz.underlying0
 a0:=Tryz.isAgg0
 z0:=Tryz.sizeOf0
 v0:=Tryz.zeroValue0
 t3:=Tryz.underlying3
 a3:=Tryz.isAgg3
 z3:=Tryz.sizeOf3
 v3:=Tryz.zeroValue3
 t4:=Tryz.underlying4
 a4:=Tryz.isAgg4
 z4:=Tryz.sizeOf4
 v4:=Tryz.zeroValue4
 t5:=Tryz.underlying5
 a5:=Tryz.isAgg5
 z5:=Tryz.sizeOf5
 v5:=Tryz.zeroValue5
 t9:=Tryz.underlying9
 a9:=Tryz.isAgg9
 z9:=Tryz.sizeOf9
 v9:=Tryz.zeroValue9
 t21:=Tryz.underlying21
 a21:=Tryz.isAgg21
 z21:=Tryz.sizeOf21
 v21:=Tryz.zeroValue21
 t31:=Tryz.underlying249
 a31:=Tryz.isAgg249
 z31:=Tryz.sizeOf249
 v31:=Tryz.zeroValue249
 t40:=Tryz.underlying273
 a40:=Tryz.isAgg273
 z40:=Tryz.sizeOf273
 v40:=Tryz.zeroValue273
 t46:=Tryz.underlying189
 a46:=Tryz.isAgg189
 z46:=Tryz.sizeOf189
 v46:=Tryz.zeroValue189
 t49:=Tryz.underlying291
 a49:=Tryz.isAgg291
 z49:=Tryz.sizeOf291
 v49:=Tryz.zeroValue291
 t51:=Tryz.underlying268
 a51:=Tryz.isAgg268
 z51:=Tryz.sizeOf268
 v51:=Tryz.zeroValue268
 t119:=Tryz.underlying271
 a119:=Tryz.isAgg271
 z119:=Tryz.sizeOf271
 t141:=Tryz.underlying283
 a141:=Tryz.isAgg283
 z141:=Tryz.sizeOf283
 v141:=Tryz.zeroValue283
 t152:=Tryz.underlying279
 a152:=Tryz.isAgg279
 z152:=Tryz.sizeOf279
 v152:=Tryz.zeroValue279
 t154:=Tryz.underlying281
 a154:=Tryz.isAgg281
 z154:=Tryz.sizeOf281
 v154:=Tryz.zeroValue281
 t193:=Tryz.underlying287
 a193:=Tryz.isAgg287
 z193:=Tryz.sizeOf287
 v193:=Tryz.zeroValue287
 t194:=Tryz.underlying288
 a194:=Tryz.isAgg288
 z194:=Tryz.sizeOf288
 v194:=Tryz.zeroValue288
 t196:=Tryz.underlying290
 a196:=Tryz.isAgg290
 z196:=Tryz.sizeOf290
 v196:=Tryz.zeroValue290
 t198:=Tryz.underlying293
 a198:=Tryz.isAgg293
 z198:=Tryz.sizeOf293
 v198:=Tryz.zeroValue293
 t201:=Tryz.underlying296
 a201:=Tryz.isAgg296
 z201:=Tryz.sizeOf296
 v201:=Tryz.zeroValue296
 t226:=Tryz.underlying298
 a226:=Tryz.isAgg298
 z226:=Tryz.sizeOf298
 v226:=Tryz.zeroValue298
 t227:=Tryz.underlying299
 a227:=Tryz.isAgg299
 z227:=Tryz.sizeOf299
 v227:=Tryz.zeroValue299
 g0:=by kernel_rfl
 g6:=by kernel_rfl }
open Go.RowKit Go.Lib in
theorem Tryz.strings_Fields(s:ByteArray)(w:World)(hs:s.size<4294967281)(hascii:∀(j:Nat) b,s.data.toList[j]?=some b->b.toNat<128)(htab:Lib.TabIs Tryz.prog w "strings.asciiSpace" .u8 Lib.asciiSpaceTab):Calls Tryz.prog 213 #[.string s] w fun e w'=>e=.returned (.slice (some ⟨w.heap.size,0,none⟩) (Lib.fields s.data.toList).length (Lib.fields s.data.toList).length)/\w'=w.alloc (.cells ((Lib.fields s.data.toList).map fun l=>Value.string ⟨l.toArray⟩).toArray 9):=Any.strings_Fields Tryz.lays157 (by kernel_rfl) (by kernel_rfl) s w hs hascii htab
end Go.Proofs
