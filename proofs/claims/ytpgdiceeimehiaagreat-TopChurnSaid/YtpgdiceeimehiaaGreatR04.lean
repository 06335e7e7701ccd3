/- Part 4 of the proof of spotop.TopChurn. -/
import Derived.Shelf.Sort.Plain
import Derived.Ground.Names2Prog
import Derived.Shelf.Slices.In.SortNone
import Derived.Test.YtpgdiceeimehiaaGreatR01
set_option maxRecDepth 100000
set_option maxHeartbeats 16000000
set_option linter.all false
open Go.Proofs.Tryz
namespace Go.Proofs
open Go.Shelf
def lays189_ren:Go.Shelf.Ren:=⟨fun|189=>74|125=>140|257=>139|128=>219|129=>220|294=>210|295=>211|296=>212|297=>213|298=>214|299=>215|216=>216|300=>217|301=>218|328=>269|329=>270|330=>271|331=>272|332=>273|215=>274|343=>304|n=>n,fun|28=>25|3=>3|46=>205|0=>0|51=>267|53=>269|4=>4|183=>261|182=>260|131=>180|5=>5|9=>9|218=>308|222=>283|228=>330|229=>38|n=>n,fun|n=>n⟩
theorem lays189:Go.Proofs.Lays.n189 prog lays189_ren:={
 mixed:=by kernel_rfl
 f125:=func140.trans (congrArg some (by kernel_rfl))
 f128:=func219.trans (congrArg some (by kernel_rfl))
 f129:=func220.trans (congrArg some (by kernel_rfl))
 f189:=func74.trans (congrArg some (by kernel_rfl))
 f215:=func274.trans (congrArg some (by kernel_rfl))
 f216:=func216.trans (congrArg some (by kernel_rfl))
 f257:=func139.trans (congrArg some (by kernel_rfl))
 f294:=func210.trans (congrArg some (by kernel_rfl))
 f295:=func211.trans (congrArg some (by kernel_rfl))
 f296:=func212.trans (congrArg some (by kernel_rfl))
 f297:=func213.trans (congrArg some (by kernel_rfl))
 f298:=func214.trans (congrArg some (by kernel_rfl))
 f299:=func215.trans (congrArg some (by kernel_rfl))
 f300:=func217.trans (congrArg some (by kernel_rfl))
 f301:=func218.trans (congrArg some (by kernel_rfl))
 f328:=func269.trans (congrArg some (by kernel_rfl))
 f329:=func270.trans (congrArg some (by kernel_rfl))
 f330:=func271.trans (congrArg some (by kernel_rfl))
 f331:=func272.trans (congrArg some (by kernel_rfl))
 f332:=func273.trans (congrArg some (by kernel_rfl))
 f343:=func304.trans (congrArg some (by kernel_rfl))
 t0:=underlying0
 a0:=isAgg0
 z0:=sizeOf0
 v0:=zeroValue0
 t3:=underlying3
 a3:=isAgg3
 z3:=sizeOf3
 v3:=zeroValue3
 t4:=underlying4
 a4:=isAgg4
 z4:=sizeOf4
 v4:=zeroValue4
 t5:=underlying5
 a5:=isAgg5
 z5:=sizeOf5
 v5:=zeroValue5
 t9:=underlying9
 a9:=isAgg9
 z9:=sizeOf9
 v9:=zeroValue9
 t28:=underlying25
 a28:=isAgg25
 z28:=sizeOf25
 v28:=zeroValue25
 t46:=underlying205
 a46:=isAgg205
 z46:=sizeOf205
 v46:=zeroValue205
 t51:=underlying267
 a51:=isAgg267
 z51:=sizeOf267
 v51:=zeroValue267
 t53:=underlying269
 a53:=isAgg269
 z53:=sizeOf269
 v53:=zeroValue269
 t131:=underlying180
 a131:=isAgg180
 z131:=sizeOf180
 v131:=zeroValue180
 t182:=underlying260
 a182:=isAgg260
 z182:=sizeOf260
 v182:=zeroValue260
 t183:=underlying261
 a183:=isAgg261
 z183:=sizeOf261
 v183:=zeroValue261
 t218:=underlying308
 a218:=isAgg308
 z218:=sizeOf308
 v218:=zeroValue308
 t222:=underlying283
 a222:=isAgg283
 z222:=sizeOf283
 v222:=zeroValue283
 t228:=underlying330
 a228:=isAgg330
 z228:=sizeOf330
 v228:=zeroValue330
 t229:=underlying38
 a229:=isAgg38
 z229:=sizeOf38
 v229:=zeroValue38}
open Go.Sort Go.RowKit in
theorem slices_Sort_int(blk off cap:Nat)(zs:List Int)(w:World)(hH:Holds (Value.int .i64) w blk off zs.toArray)(hblk:blk<w.heap.size)(hsz:zs.length<4611686018427387904):Calls prog 74 #[.slice (some ⟨blk,off,none⟩) zs.length cap] w λe w' =>
   e=.returned (.tuple #[])/\∃n os,w'=grow (putRow (Value.int .i64) (Sort.ahead w n) blk off (zs.mergeSort λx y=>decide (x<=y)).toArray) os:=Any.slices_Sort_int lays189 blk off cap zs w hH hblk hsz
open Go.RowKit Go.Sort in
theorem slices_Sort_int_none(p:Option Addr)(cap:Nat)(w:World):Calls prog 74 #[.slice p 0 cap] w λe w'=>e=.returned (.tuple #[])/\w'=w:=Any.slices_Sort_int_none lays189 p cap w
