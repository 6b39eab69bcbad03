/- A part of the proof. -/
import Derived.Test.YtghefemofbipnaaGreatX17
import Derived.Test.YtghefemofbipnaaGreatProg
import Derived.Conc.WgLib
set_option maxRecDepth 100000
set_option maxHeartbeats 4000000
set_option linter.unusedSimpArgs false
set_option linter.unusedVariables false
set_option linter.unusedSectionVars false
set_option linter.unnecessarySimpa false

namespace Go.Proofs
open Go
abbrev Tryz.link:Go.Conc.Lib.WgLink:={ add:=94,done:=96,wait:=97,relMerge:=136,disable:=137,enable:=138,inBubble:=139,associate:=140,fatal:=141,uOr:=142,uAdd:=143,raceRead:=144,uLoad:=145,uStore:=146,disassociate:=147,semrelease:=148,acquire:=149,isAssociated:=150,uCas:=151,raceWrite:=152,semacquire:=153,orU64:=168,addU64:=169,loadU64:=170,storeU64:=171,casU64:=172,tWgP:=153,tUP:=155,tAssoc:=156,tWg:=123,tAU:=120,tU64:=118,tUint:=160,tU32:=121,tPU32:=161,tPAU:=179,tPU64:=181,tNoCopy:=115,tANoCopy:=116,tAlign64:=117 }
theorem Tryz.wgLib:Go.Conc.Lib.WgLib Tryz.prog Tryz.link :=
 ⟨Tryz.func94,Tryz.func96,Tryz.func97,Tryz.func136,Tryz.func137,Tryz.func138,Tryz.func139,Tryz.func140,Tryz.func141,Tryz.func142,Tryz.func143,Tryz.func144,Tryz.func145,Tryz.func146,Tryz.func147,Tryz.func148,Tryz.func149,Tryz.func150,Tryz.func151,Tryz.func152,Tryz.func153,Tryz.func168,Tryz.func169,Tryz.func170,Tryz.func171,Tryz.func172,Tryz.underlying153,Tryz.runUnderlying153,Tryz.sizeOf153,Tryz.isAgg153,Tryz.zeroValue153,Tryz.underlying155,Tryz.runUnderlying155,Tryz.sizeOf155,Tryz.isAgg155,Tryz.zeroValue155,Tryz.underlying156,Tryz.runUnderlying156,Tryz.sizeOf156,Tryz.isAgg156,Tryz.zeroValue156,Tryz.underlying123,Tryz.runUnderlying123,Tryz.sizeOf123,Tryz.isAgg123,Tryz.zeroValue123,Tryz.underlying120,Tryz.runUnderlying120,Tryz.sizeOf120,Tryz.isAgg120,Tryz.zeroValue120,Tryz.underlying118,Tryz.runUnderlying118,Tryz.sizeOf118,Tryz.isAgg118,Tryz.zeroValue118,Tryz.underlying160,Tryz.runUnderlying160,Tryz.sizeOf160,Tryz.isAgg160,Tryz.zeroValue160,Tryz.underlying121,Tryz.runUnderlying121,Tryz.sizeOf121,Tryz.isAgg121,Tryz.zeroValue121,Tryz.underlying161,Tryz.runUnderlying161,Tryz.sizeOf161,Tryz.isAgg161,Tryz.zeroValue161,Tryz.underlying179,Tryz.runUnderlying179,Tryz.sizeOf179,Tryz.isAgg179,Tryz.zeroValue179,Tryz.underlying181,Tryz.runUnderlying181,Tryz.sizeOf181,Tryz.isAgg181,Tryz.zeroValue181,Tryz.underlying0,Tryz.runUnderlying0,Tryz.sizeOf0,Tryz.isAgg0,Tryz.zeroValue0,Tryz.underlying3,Tryz.runUnderlying3,Tryz.sizeOf3,Tryz.isAgg3,Tryz.zeroValue3,Tryz.underlying4,Tryz.runUnderlying4,Tryz.sizeOf4,Tryz.isAgg4,Tryz.zeroValue4,Tryz.underlying9,Tryz.runUnderlying9,Tryz.sizeOf9,Tryz.isAgg9,Tryz.zeroValue9,Tryz.underlying20,Tryz.runUnderlying20,Tryz.sizeOf20,Tryz.isAgg20,Tryz.zeroValue20,Tryz.underlying21,Tryz.runUnderlying21,Tryz.sizeOf21,Tryz.isAgg21,Tryz.zeroValue21,(by kernel_rfl),(by kernel_rfl)⟩
end Go.Proofs
