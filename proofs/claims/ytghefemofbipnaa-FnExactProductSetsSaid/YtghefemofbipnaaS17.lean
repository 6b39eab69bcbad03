/- A part of the proof: a verified generator of conditions, and what each function of the program does. -/
import Derived.Test.YtghefemofbipnaaS16
import Derived.Test.YtghefemofbipnaaProg
import Derived.Conc.WgLib
set_option maxRecDepth 100000
set_option maxHeartbeats 4000000
set_option linter.unusedSimpArgs false
set_option linter.unusedVariables false
set_option linter.unusedSectionVars false
set_option linter.unnecessarySimpa false

namespace Go.Proofs
open Go
abbrev Try.link:Go.Conc.Lib.WgLink:={ add:=61,done:=63,wait:=64,relMerge:=73,disable:=74,enable:=75,inBubble:=76,associate:=77,fatal:=78,uOr:=79,uAdd:=80,raceRead:=81,uLoad:=82,uStore:=83,disassociate:=84,semrelease:=85,acquire:=86,isAssociated:=87,uCas:=88,raceWrite:=89,semacquire:=90,orU64:=95,addU64:=96,loadU64:=97,storeU64:=98,casU64:=99,tWgP:=99,tUP:=101,tAssoc:=102,tWg:=93,tAU:=90,tU64:=88,tUint:=106,tU32:=91,tPU32:=107,tPAU:=116,tPU64:=118,tNoCopy:=85,tANoCopy:=86,tAlign64:=87 }
theorem Try.wgLib:Go.Conc.Lib.WgLib Try.prog Try.link :=
 ⟨Try.func61,Try.func63,Try.func64,Try.func73,Try.func74,Try.func75,Try.func76,Try.func77,Try.func78,Try.func79,Try.func80,Try.func81,Try.func82,Try.func83,Try.func84,Try.func85,Try.func86,Try.func87,Try.func88,Try.func89,Try.func90,Try.func95,Try.func96,Try.func97,Try.func98,Try.func99,Try.underlying99,Try.runUnderlying99,Try.sizeOf99,Try.isAgg99,Try.zeroValue99,Try.underlying101,Try.runUnderlying101,Try.sizeOf101,Try.isAgg101,Try.zeroValue101,Try.underlying102,Try.runUnderlying102,Try.sizeOf102,Try.isAgg102,Try.zeroValue102,Try.underlying93,Try.runUnderlying93,Try.sizeOf93,Try.isAgg93,Try.zeroValue93,Try.underlying90,Try.runUnderlying90,Try.sizeOf90,Try.isAgg90,Try.zeroValue90,Try.underlying88,Try.runUnderlying88,Try.sizeOf88,Try.isAgg88,Try.zeroValue88,Try.underlying106,Try.runUnderlying106,Try.sizeOf106,Try.isAgg106,Try.zeroValue106,Try.underlying91,Try.runUnderlying91,Try.sizeOf91,Try.isAgg91,Try.zeroValue91,Try.underlying107,Try.runUnderlying107,Try.sizeOf107,Try.isAgg107,Try.zeroValue107,Try.underlying116,Try.runUnderlying116,Try.sizeOf116,Try.isAgg116,Try.zeroValue116,Try.underlying118,Try.runUnderlying118,Try.sizeOf118,Try.isAgg118,Try.zeroValue118,Try.underlying0,Try.runUnderlying0,Try.sizeOf0,Try.isAgg0,Try.zeroValue0,Try.underlying3,Try.runUnderlying3,Try.sizeOf3,Try.isAgg3,Try.zeroValue3,Try.underlying4,Try.runUnderlying4,Try.sizeOf4,Try.isAgg4,Try.zeroValue4,Try.underlying9,Try.runUnderlying9,Try.sizeOf9,Try.isAgg9,Try.zeroValue9,Try.underlying20,Try.runUnderlying20,Try.sizeOf20,Try.isAgg20,Try.zeroValue20,Try.underlying21,Try.runUnderlying21,Try.sizeOf21,Try.isAgg21,Try.zeroValue21,(by kernel_rfl),(by kernel_rfl)⟩
end Go.Proofs
