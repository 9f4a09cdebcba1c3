/- Lemmas and walks; no statement is proved here. -/
import Derived.Shelf.Sort.Plain
import Derived.Shelf.Slices.In.SortNone
import Derived.Test.YtefnknhjlejalaaGreatDoorM02
set_option linter.unusedVariables false
set_option linter.unusedSimpArgs false
set_option maxRecDepth 20000
set_option maxHeartbeats 6000000
namespace Go.Proofs
open Go.Shelf Go.Sort Go.RowKit
def Tryz.lays189_ren:Go.Shelf.Ren:=⟨fun|189=>190|125=>207|257=>206|128=>223|129=>193|294=>214|295=>215|296=>216|297=>217|298=>218|299=>219|216=>220|300=>221|301=>222|328=>228|329=>229|330=>230|331=>231|332=>232|215=>233|343=>236|n=>n,fun|28=>26|3=>3|46=>189|0=>0|51=>268|53=>188|4=>4|183=>262|182=>261|131=>219|5=>5|9=>9|218=>274|222=>245|228=>284|229=>285|n=>n,fun|n=>n⟩
theorem Tryz.lays189:Go.Proofs.Lays.n189 Tryz.prog Tryz.lays189_ren:={
 mixed:=by kernel_rfl
 f125:=Tryz.func207.trans (congrArg some (by kernel_rfl))
 f128:=Tryz.func223.trans (congrArg some (by kernel_rfl))
 f129:=Tryz.func193.trans (congrArg some (by kernel_rfl))
 f189:=Tryz.func190.trans (congrArg some (by kernel_rfl))
 f215:=Tryz.func233.trans (congrArg some (by kernel_rfl))
 f216:=Tryz.func220.trans (congrArg some (by kernel_rfl))
 f257:=Tryz.func206.trans (congrArg some (by kernel_rfl))
 f294:=Tryz.func214.trans (congrArg some (by kernel_rfl))
 f295:=Tryz.func215.trans (congrArg some (by kernel_rfl))
 f296:=Tryz.func216.trans (congrArg some (by kernel_rfl))
 f297:=Tryz.func217.trans (congrArg some (by kernel_rfl))
 f298:=Tryz.func218.trans (congrArg some (by kernel_rfl))
 f299:=Tryz.func219.trans (congrArg some (by kernel_rfl))
 f300:=Tryz.func221.trans (congrArg some (by kernel_rfl))
 f301:=Tryz.func222.trans (congrArg some (by kernel_rfl))
 f328:=Tryz.func228.trans (congrArg some (by kernel_rfl))
 f329:=Tryz.func229.trans (congrArg some (by kernel_rfl))
 f330:=Tryz.func230.trans (congrArg some (by kernel_rfl))
 f331:=Tryz.func231.trans (congrArg some (by kernel_rfl))
 f332:=Tryz.func232.trans (congrArg some (by kernel_rfl))
 f343:=Tryz.func236.trans (congrArg some (by kernel_rfl))
 t0:=Tryz.underlying0
 a0:=Tryz.isAgg0
 z0:=Tryz.sizeOf0
 v0:=Tryz.zeroValue0
 t3:=Tryz.underlying3
 a3:=Tryz.isAgg3
 z3:=Tryz.sizeOf3
 v3:=Tryz.zeroValue3
 t4:=Tryz.underlying4
 a4:=Tryz.isAgg4
 z4:=Tryz.sizeOf4
 v4:=Tryz.zeroValue4
 t5:=Tryz.underlying5
 a5:=Tryz.isAgg5
 z5:=Tryz.sizeOf5
 v5:=Tryz.zeroValue5
 t9:=Tryz.underlying9
 a9:=Tryz.isAgg9
 z9:=Tryz.sizeOf9
 v9:=Tryz.zeroValue9
 t28:=Tryz.underlying26
 a28:=Tryz.isAgg26
 z28:=Tryz.sizeOf26
 v28:=Tryz.zeroValue26
 t46:=Tryz.underlying189
 a46:=Tryz.isAgg189
 z46:=Tryz.sizeOf189
 v46:=Tryz.zeroValue189
 t51:=Tryz.underlying268
 a51:=Tryz.isAgg268
 z51:=Tryz.sizeOf268
 v51:=Tryz.zeroValue268
 t53:=Tryz.underlying188
 a53:=Tryz.isAgg188
 z53:=Tryz.sizeOf188
 v53:=Tryz.zeroValue188
 t131:=Tryz.underlying219
 a131:=Tryz.isAgg219
 z131:=Tryz.sizeOf219
 v131:=Tryz.zeroValue219
 t182:=Tryz.underlying261
 a182:=Tryz.isAgg261
 z182:=Tryz.sizeOf261
 v182:=Tryz.zeroValue261
 t183:=Tryz.underlying262
 a183:=Tryz.isAgg262
 z183:=Tryz.sizeOf262
 v183:=Tryz.zeroValue262
 t218:=Tryz.underlying274
 a218:=Tryz.isAgg274
 z218:=Tryz.sizeOf274
 v218:=Tryz.zeroValue274
 t222:=Tryz.underlying245
 a222:=Tryz.isAgg245
 z222:=Tryz.sizeOf245
 v222:=Tryz.zeroValue245
 t228:=Tryz.underlying284
 a228:=Tryz.isAgg284
 z228:=Tryz.sizeOf284
 v228:=Tryz.zeroValue284
 t229:=Tryz.underlying285
 a229:=Tryz.isAgg285
 z229:=Tryz.sizeOf285
 v229:=Tryz.zeroValue285 }
open Go.Sort Go.RowKit in
theorem Tryz.slices_Sort_int(blk off cap:Nat)(zs:List Int)(w:World)(hH:Holds (Value.int .i64) w blk off zs.toArray)(hblk:blk<w.heap.size)(hsz:zs.length<4611686018427387904):Calls Tryz.prog 190 #[.slice (some ⟨blk,off,none⟩) zs.length cap] w fun e w'=>e=.returned (.tuple #[])/\∃n os,w'=grow (putRow (Value.int .i64) (Sort.ahead w n) blk off (zs.mergeSort fun x y=>decide (x<=y)).toArray) os:=Any.slices_Sort_int Tryz.lays189 blk off cap zs w hH hblk hsz
theorem Tryz.slices_Sort_int_none(p:Option Addr)(cap:Nat)(w:World):Calls Tryz.prog 190 #[.slice p 0 cap] w fun e w'=>e=.returned (.tuple #[])/\w'=w:=Any.slices_Sort_int_none Tryz.lays189 p cap w
end Go.Proofs
