/- Lemmas -/
import Derived.Shelf.Strings.Fields
import Derived.Test.YtfdmnogfflcllaaGreatDoorM02
set_option linter.all false
set_option maxRecDepth 100000
set_option maxHeartbeats 0
namespace Go.Proofs
open Go.Shelf
def Tryz.lays157_ren:Go.Shelf.Ren:=⟨fun|157=>286|229=>295|199=>296|261=>299|311=>301|312=>302|n=>n,fun|9=>9|31=>195|3=>3|5=>5|4=>4|119=>326|0=>0|40=>328|152=>332|21=>21|154=>334|51=>313|141=>336|196=>340|193=>337|198=>343|49=>341|194=>338|201=>346|226=>348|46=>176|227=>349|n=>n,fun|0=>0|6=>1|n=>n⟩
theorem Tryz.lays157:Go.Proofs.Lays.n157 Tryz.prog Tryz.lays157_ren:={
 mixed:=by kernel_rfl
 f157:=Tryz.func286.trans (congrArg some (by kernel_rfl))
 f199:=Tryz.func296.trans (congrArg some (by kernel_rfl))
 f229:=Tryz.func295.trans (congrArg some (by kernel_rfl))
 f261:=Tryz.func299.trans (congrArg some (by kernel_rfl))
 f311:=Tryz.func301.trans (congrArg some (by kernel_rfl))
 f312:=Tryz.func302.trans (congrArg some (by kernel_rfl))
 t0:=Tryz.underlying0
 a0:=Tryz.isAgg0
 z0:=Tryz.sizeOf0
 v0:=Tryz.zeroValue0
 t3:=Tryz.underlying3
 a3:=Tryz.isAgg3
 z3:=Tryz.sizeOf3
 v3:=Tryz.zeroValue3
 t4:=Tryz.underlying4
 a4:=Tryz.isAgg4
 z4:=Tryz.sizeOf4
 v4:=Tryz.zeroValue4
 t5:=Tryz.underlying5
 a5:=Tryz.isAgg5
 z5:=Tryz.sizeOf5
 v5:=Tryz.zeroValue5
 t9:=Tryz.underlying9
 a9:=Tryz.isAgg9
 z9:=Tryz.sizeOf9
 v9:=Tryz.zeroValue9
 t21:=Tryz.underlying21
 a21:=Tryz.isAgg21
 z21:=Tryz.sizeOf21
 v21:=Tryz.zeroValue21
 t31:=Tryz.underlying195
 a31:=Tryz.isAgg195
 z31:=Tryz.sizeOf195
 v31:=Tryz.zeroValue195
 t40:=Tryz.underlying328
 a40:=Tryz.isAgg328
 z40:=Tryz.sizeOf328
 v40:=Tryz.zeroValue328
 t46:=Tryz.underlying176
 a46:=Tryz.isAgg176
 z46:=Tryz.sizeOf176
 v46:=Tryz.zeroValue176
 t49:=Tryz.underlying341
 a49:=Tryz.isAgg341
 z49:=Tryz.sizeOf341
 v49:=Tryz.zeroValue341
 t51:=Tryz.underlying313
 a51:=Tryz.isAgg313
 z51:=Tryz.sizeOf313
 v51:=Tryz.zeroValue313
 t119:=Tryz.underlying326
 a119:=Tryz.isAgg326
 z119:=Tryz.sizeOf326
 t141:=Tryz.underlying336
 a141:=Tryz.isAgg336
 z141:=Tryz.sizeOf336
 v141:=Tryz.zeroValue336
 t152:=Tryz.underlying332
 a152:=Tryz.isAgg332
 z152:=Tryz.sizeOf332
 v152:=Tryz.zeroValue332
 t154:=Tryz.underlying334
 a154:=Tryz.isAgg334
 z154:=Tryz.sizeOf334
 v154:=Tryz.zeroValue334
 t193:=Tryz.underlying337
 a193:=Tryz.isAgg337
 z193:=Tryz.sizeOf337
 v193:=Tryz.zeroValue337
 t194:=Tryz.underlying338
 a194:=Tryz.isAgg338
 z194:=Tryz.sizeOf338
 v194:=Tryz.zeroValue338
 t196:=Tryz.underlying340
 a196:=Tryz.isAgg340
 z196:=Tryz.sizeOf340
 v196:=Tryz.zeroValue340
 t198:=Tryz.underlying343
 a198:=Tryz.isAgg343
 z198:=Tryz.sizeOf343
 v198:=Tryz.zeroValue343
 t201:=Tryz.underlying346
 a201:=Tryz.isAgg346
 z201:=Tryz.sizeOf346
 v201:=Tryz.zeroValue346
 t226:=Tryz.underlying348
 a226:=Tryz.isAgg348
 z226:=Tryz.sizeOf348
 v226:=Tryz.zeroValue348
 t227:=Tryz.underlying349
 a227:=Tryz.isAgg349
 z227:=Tryz.sizeOf349
 v227:=Tryz.zeroValue349
 g0:=by kernel_rfl
 g6:=by kernel_rfl }
open Go.RowKit Go.Lib in
theorem Tryz.strings_Fields(s:ByteArray)(w:World)(hs:s.size<4294967281)(hascii:∀(j:Nat) b,s.data.toList[j]?=some b->b.toNat<128)(htab:Lib.TabIs Tryz.prog w "strings.asciiSpace" .u8 Lib.asciiSpaceTab):Calls Tryz.prog 286 #[.string s] w fun e w'=>e=.returned (.slice (some ⟨w.heap.size,0,none⟩) (Lib.fields s.data.toList).length (Lib.fields s.data.toList).length)/\w'=w.alloc (.cells ((Lib.fields s.data.toList).map fun l=>Value.string ⟨l.toArray⟩).toArray 9):=Any.strings_Fields Tryz.lays157 (by kernel_rfl) (by kernel_rfl) s w hs hascii htab
end Go.Proofs
