/-
  No cell of these rows narrows 'for every input' (looked for: loops, veiled, ifaces, maps, wideKeys, modest, calm, conditions, laid).
  DERIVED. THE GIVEN ROWS OF THIS SEAT. 6 by the template 'for every input the law returns true; each argument reads behind the call as it read before'; 0 by the template 'total and deterministic' (their statements: YtghefemofbipnaaGreatTotals.lean).
  GIVEN WITH THE SEED: the statements are not yours to turn. If you find one false, say at which input.
  Laid BY PROGRAM, IN A SANDBOX (cutbox-rows.mjs): the forced cells as the released guide's own fill.sh prints them over the translation 4470dbb57c480f11… (all of the seat's roots in one cut). By AI agents, Wed Nov 11 2026. No macro, syntax, notation, axiom, sorry.
-/
import Derived.Test.YtghefemofbipnaaGreatChecked
import GoSem.Claim
import GoSem.ClaimJoined
import GoSem.ClaimMapViews
import Derived.JoinedTies
import Derived.KernelRfl
namespace Go.Proofs.YtghefemofbipnaaGreat
/- THE CELL 'sum', in the pinned program and in every row, IS THE sha256 OF THE DUMP (.gsa) THAT YtghefemofbipnaaGreatProg.lean LOADS. Nothing in Lean hashes anything: it is a label: what it is worth is what the hold of that sum in a sandbox is worth. -/
noncomputable def Tryz.pinned : Pinned := { name := "ytghefemofbipnaagreat", sum := "4470dbb57c480f11e3bd6731a1fbeed25e08847b5229cce5c6b6895dced49237", checked := Tryz.checked }
namespace Rows
def none {H : Type} : Left H := { results := [], args := [] }

/-- 'laws.FnExactPartAsSets': WHATEVER THE INPUT: true; the input reads as it did. -/
def fnExactPartAsSetsSpec : ChangeSpec := { name := "fnExactPartAsSets", fn := fun _ => fun
  | [d1, d2] => { results := [.lit (.bool true)], args := [d1, d2] }
  | _ => none }
def fnExactPartAsSetsRow : OpenClaim := { program := "ytghefemofbipnaagreat", sum := "4470dbb57c480f11e3bd6731a1fbeed25e08847b5229cce5c6b6895dced49237", func := "loop.example/g01083/laws.FnExactPartAsSets", spec := "fnExactPartAsSets", inPlace := ["(*sync.WaitGroup).Add", "internal/race.ReleaseMerge", "internal/race.Disable", "internal/race.Enable", "internal/synctest.IsInBubble", "internal/synctest.Associate[sync.WaitGroup]", "sync.fatal", "sync/atomic.OrUint64", "sync/atomic.AddUint64", "internal/race.Read", "sync/atomic.LoadUint64", "sync/atomic.StoreUint64", "internal/synctest.Disassociate[sync.WaitGroup]", "sync.runtime_Semrelease", "(*sync.WaitGroup).Done", "(*sync.WaitGroup).Wait", "internal/race.Acquire", "internal/synctest.IsAssociated[sync.WaitGroup]", "sync/atomic.CompareAndSwapUint64", "internal/race.Write", "sync.runtime_SemacquireWaitGroup"], unfollowed := true, recurses := true, leaving := true, apart := false }
def FnExactPartAsSetsSaid : Prop := fnExactPartAsSetsRow.holds Tryz.pinned (OpenSpec.ofChange fnExactPartAsSetsSpec)

/-- ITS FALSE NEIGHBOUR: 'it returns false'. Refute it at one input. -/
def fnExactPartAsSetsWrong : ChangeSpec := { name := "fnExactPartAsSets", fn := fun _ => fun
  | [d1, d2] => { results := [.lit (.bool false)], args := [d1, d2] }
  | _ => none }
def FnExactPartAsSetsWrongFalsely : Prop := fnExactPartAsSetsRow.holds Tryz.pinned (OpenSpec.ofChange fnExactPartAsSetsWrong)

/-- 'laws.FnExactCoequalizerSets': WHATEVER THE INPUT: true; the input reads as it did. -/
def fnExactCoequalizerSetsSpec : ChangeSpec := { name := "fnExactCoequalizerSets", fn := fun _ => fun
  | [d1, d2] => { results := [.lit (.bool true)], args := [d1, d2] }
  | _ => none }
def fnExactCoequalizerSetsRow : OpenClaim := { program := "ytghefemofbipnaagreat", sum := "4470dbb57c480f11e3bd6731a1fbeed25e08847b5229cce5c6b6895dced49237", func := "loop.example/g01083/laws.FnExactCoequalizerSets", spec := "fnExactCoequalizerSets", inPlace := ["(*sync.WaitGroup).Add", "internal/race.ReleaseMerge", "internal/race.Disable", "internal/race.Enable", "internal/synctest.IsInBubble", "internal/synctest.Associate[sync.WaitGroup]", "sync.fatal", "sync/atomic.OrUint64", "sync/atomic.AddUint64", "internal/race.Read", "sync/atomic.LoadUint64", "sync/atomic.StoreUint64", "internal/synctest.Disassociate[sync.WaitGroup]", "sync.runtime_Semrelease", "(*sync.WaitGroup).Done", "(*sync.WaitGroup).Wait", "internal/race.Acquire", "internal/synctest.IsAssociated[sync.WaitGroup]", "sync/atomic.CompareAndSwapUint64", "internal/race.Write", "sync.runtime_SemacquireWaitGroup"], unfollowed := true, recurses := true, leaving := true, apart := false }
def FnExactCoequalizerSetsSaid : Prop := fnExactCoequalizerSetsRow.holds Tryz.pinned (OpenSpec.ofChange fnExactCoequalizerSetsSpec)

/-- ITS FALSE NEIGHBOUR: 'it returns false'. Refute it at one input. -/
def fnExactCoequalizerSetsWrong : ChangeSpec := { name := "fnExactCoequalizerSets", fn := fun _ => fun
  | [d1, d2] => { results := [.lit (.bool false)], args := [d1, d2] }
  | _ => none }
def FnExactCoequalizerSetsWrongFalsely : Prop := fnExactCoequalizerSetsRow.holds Tryz.pinned (OpenSpec.ofChange fnExactCoequalizerSetsWrong)

/-- 'laws.FnExactImageSets': WHATEVER THE INPUT: true; the input reads as it did. -/
def fnExactImageSetsSpec : ChangeSpec := { name := "fnExactImageSets", fn := fun _ => fun
  | [d] => { results := [.lit (.bool true)], args := [d] }
  | _ => none }
def fnExactImageSetsRow : OpenClaim := { program := "ytghefemofbipnaagreat", sum := "4470dbb57c480f11e3bd6731a1fbeed25e08847b5229cce5c6b6895dced49237", func := "loop.example/g01083/laws.FnExactImageSets", spec := "fnExactImageSets", inPlace := ["(*sync.WaitGroup).Add", "internal/race.ReleaseMerge", "internal/race.Disable", "internal/race.Enable", "internal/synctest.IsInBubble", "internal/synctest.Associate[sync.WaitGroup]", "sync.fatal", "sync/atomic.OrUint64", "sync/atomic.AddUint64", "internal/race.Read", "sync/atomic.LoadUint64", "sync/atomic.StoreUint64", "internal/synctest.Disassociate[sync.WaitGroup]", "sync.runtime_Semrelease", "(*sync.WaitGroup).Done", "(*sync.WaitGroup).Wait", "internal/race.Acquire", "internal/synctest.IsAssociated[sync.WaitGroup]", "sync/atomic.CompareAndSwapUint64", "internal/race.Write", "sync.runtime_SemacquireWaitGroup"], unfollowed := true, recurses := true, leaving := true, apart := false }
def FnExactImageSetsSaid : Prop := fnExactImageSetsRow.holds Tryz.pinned (OpenSpec.ofChange fnExactImageSetsSpec)

/-- ITS FALSE NEIGHBOUR: 'it returns false'. Refute it at one input. -/
def fnExactImageSetsWrong : ChangeSpec := { name := "fnExactImageSets", fn := fun _ => fun
  | [d] => { results := [.lit (.bool false)], args := [d] }
  | _ => none }
def FnExactImageSetsWrongFalsely : Prop := fnExactImageSetsRow.holds Tryz.pinned (OpenSpec.ofChange fnExactImageSetsWrong)

/-- 'laws.FnExactEqualizerSets': WHATEVER THE INPUT: true; the input reads as it did. -/
def fnExactEqualizerSetsSpec : ChangeSpec := { name := "fnExactEqualizerSets", fn := fun _ => fun
  | [d1, d2] => { results := [.lit (.bool true)], args := [d1, d2] }
  | _ => none }
def fnExactEqualizerSetsRow : OpenClaim := { program := "ytghefemofbipnaagreat", sum := "4470dbb57c480f11e3bd6731a1fbeed25e08847b5229cce5c6b6895dced49237", func := "loop.example/g01083/laws.FnExactEqualizerSets", spec := "fnExactEqualizerSets", inPlace := ["(*sync.WaitGroup).Add", "internal/race.ReleaseMerge", "internal/race.Disable", "internal/race.Enable", "internal/synctest.IsInBubble", "internal/synctest.Associate[sync.WaitGroup]", "sync.fatal", "sync/atomic.OrUint64", "sync/atomic.AddUint64", "internal/race.Read", "sync/atomic.LoadUint64", "sync/atomic.StoreUint64", "internal/synctest.Disassociate[sync.WaitGroup]", "sync.runtime_Semrelease", "(*sync.WaitGroup).Done", "(*sync.WaitGroup).Wait", "internal/race.Acquire", "internal/synctest.IsAssociated[sync.WaitGroup]", "sync/atomic.CompareAndSwapUint64", "internal/race.Write", "sync.runtime_SemacquireWaitGroup"], unfollowed := true, recurses := true, leaving := true, apart := false }
def FnExactEqualizerSetsSaid : Prop := fnExactEqualizerSetsRow.holds Tryz.pinned (OpenSpec.ofChange fnExactEqualizerSetsSpec)

/-- ITS FALSE NEIGHBOUR: 'it returns false'. Refute it at one input. -/
def fnExactEqualizerSetsWrong : ChangeSpec := { name := "fnExactEqualizerSets", fn := fun _ => fun
  | [d1, d2] => { results := [.lit (.bool false)], args := [d1, d2] }
  | _ => none }
def FnExactEqualizerSetsWrongFalsely : Prop := fnExactEqualizerSetsRow.holds Tryz.pinned (OpenSpec.ofChange fnExactEqualizerSetsWrong)

/-- 'laws.FnExactPullbackSets': WHATEVER THE INPUT: true; the input reads as it did. -/
def fnExactPullbackSetsSpec : ChangeSpec := { name := "fnExactPullbackSets", fn := fun _ => fun
  | [d1, d2] => { results := [.lit (.bool true)], args := [d1, d2] }
  | _ => none }
def fnExactPullbackSetsRow : OpenClaim := { program := "ytghefemofbipnaagreat", sum := "4470dbb57c480f11e3bd6731a1fbeed25e08847b5229cce5c6b6895dced49237", func := "loop.example/g01083/laws.FnExactPullbackSets", spec := "fnExactPullbackSets", inPlace := ["(*sync.WaitGroup).Add", "internal/race.ReleaseMerge", "internal/race.Disable", "internal/race.Enable", "internal/synctest.IsInBubble", "internal/synctest.Associate[sync.WaitGroup]", "sync.fatal", "sync/atomic.OrUint64", "sync/atomic.AddUint64", "internal/race.Read", "sync/atomic.LoadUint64", "sync/atomic.StoreUint64", "internal/synctest.Disassociate[sync.WaitGroup]", "sync.runtime_Semrelease", "(*sync.WaitGroup).Done", "(*sync.WaitGroup).Wait", "internal/race.Acquire", "internal/synctest.IsAssociated[sync.WaitGroup]", "sync/atomic.CompareAndSwapUint64", "internal/race.Write", "sync.runtime_SemacquireWaitGroup"], unfollowed := true, recurses := true, leaving := true, apart := false }
def FnExactPullbackSetsSaid : Prop := fnExactPullbackSetsRow.holds Tryz.pinned (OpenSpec.ofChange fnExactPullbackSetsSpec)

/-- ITS FALSE NEIGHBOUR: 'it returns false'. Refute it at one input. -/
def fnExactPullbackSetsWrong : ChangeSpec := { name := "fnExactPullbackSets", fn := fun _ => fun
  | [d1, d2] => { results := [.lit (.bool false)], args := [d1, d2] }
  | _ => none }
def FnExactPullbackSetsWrongFalsely : Prop := fnExactPullbackSetsRow.holds Tryz.pinned (OpenSpec.ofChange fnExactPullbackSetsWrong)

/-- 'laws.FnExactPairSetMaps': WHATEVER THE INPUT: true; the input reads as it did. -/
def fnExactPairSetMapsSpec : ChangeSpec := { name := "fnExactPairSetMaps", fn := fun _ => fun
  | [d1, d2] => { results := [.lit (.bool true)], args := [d1, d2] }
  | _ => none }
def fnExactPairSetMapsRow : OpenClaim := { program := "ytghefemofbipnaagreat", sum := "4470dbb57c480f11e3bd6731a1fbeed25e08847b5229cce5c6b6895dced49237", func := "loop.example/g01083/laws.FnExactPairSetMaps", spec := "fnExactPairSetMaps", inPlace := ["(*sync.WaitGroup).Add", "internal/race.ReleaseMerge", "internal/race.Disable", "internal/race.Enable", "internal/synctest.IsInBubble", "internal/synctest.Associate[sync.WaitGroup]", "sync.fatal", "sync/atomic.OrUint64", "sync/atomic.AddUint64", "internal/race.Read", "sync/atomic.LoadUint64", "sync/atomic.StoreUint64", "internal/synctest.Disassociate[sync.WaitGroup]", "sync.runtime_Semrelease", "(*sync.WaitGroup).Done", "(*sync.WaitGroup).Wait", "internal/race.Acquire", "internal/synctest.IsAssociated[sync.WaitGroup]", "sync/atomic.CompareAndSwapUint64", "internal/race.Write", "sync.runtime_SemacquireWaitGroup"], unfollowed := true, recurses := true, leaving := true, apart := false }
def FnExactPairSetMapsSaid : Prop := fnExactPairSetMapsRow.holds Tryz.pinned (OpenSpec.ofChange fnExactPairSetMapsSpec)

/-- ITS FALSE NEIGHBOUR: 'it returns false'. Refute it at one input. -/
def fnExactPairSetMapsWrong : ChangeSpec := { name := "fnExactPairSetMaps", fn := fun _ => fun
  | [d1, d2] => { results := [.lit (.bool false)], args := [d1, d2] }
  | _ => none }
def FnExactPairSetMapsWrongFalsely : Prop := fnExactPairSetMapsRow.holds Tryz.pinned (OpenSpec.ofChange fnExactPairSetMapsWrong)

/- THE SECOND FORM. 'bulk': how many values and letters a reading holds, each counted each time it is reached (what is shared counts as often as it is met; a slice's spare places count too). A statement '..UptoSaid' is the law's where the arguments, and the package variables that the reading takes, are together of bulk at most 1048576: NARROWER than '..Said'. Prove '..Said' where nothing that the law and all that it calls make is longer than what came in: it says more and counts as full. Else prove '..UptoSaid'. A law counts once. -/
mutual
def uptoBulk {H : Type} : DataW H → Nat
  | .lit (.string bytes) => bytes.length + 1
  | .lit _ => 1
  | .nil => 1
  | .ptr d => uptoBulk d + 1
  | .slice elems spare => uptoBulkAll elems + uptoBulkAll spare + 1
  | .agg parts => uptoBulkAll parts + 1
  | .iface _ d => uptoBulk d + 1
  | .map entries => uptoBulkEntries entries + 1
  | .held _ => 1
def uptoBulkAll {H : Type} : List (DataW H) → Nat
  | [] => 0
  | d :: r => uptoBulk d + uptoBulkAll r
def uptoBulkEntries {H : Type} : List (Lit × DataW H) → Nat
  | [] => 0
  | x :: r => uptoBulkEntry x + uptoBulkEntries r
def uptoBulkEntry {H : Type} : Lit × DataW H → Nat
  | (.string bytes, d) => bytes.length + uptoBulk d + 1
  | (_, d) => uptoBulk d + 1
 end
def uptoSmall : (H : Type) → List (DataW H) → Bool := fun _ ds => decide (uptoBulkAll ds ≤ 1048576)
def OpenSpec.upto (s : _root_.Go.ChangeSpec) : _root_.Go.OpenSpec := { _root_.Go.OpenSpec.ofChange s with cond := some uptoSmall }

/-- 'laws.FnExactPartAsSets', WHERE WHAT IT READS IS OF BULK AT MOST 1048576: true; the input reads as it did. -/
def fnExactPartAsSetsUptoRow : OpenClaim := { program := "ytghefemofbipnaagreat", sum := "4470dbb57c480f11e3bd6731a1fbeed25e08847b5229cce5c6b6895dced49237", func := "loop.example/g01083/laws.FnExactPartAsSets", spec := "fnExactPartAsSets", inPlace := ["(*sync.WaitGroup).Add", "internal/race.ReleaseMerge", "internal/race.Disable", "internal/race.Enable", "internal/synctest.IsInBubble", "internal/synctest.Associate[sync.WaitGroup]", "sync.fatal", "sync/atomic.OrUint64", "sync/atomic.AddUint64", "internal/race.Read", "sync/atomic.LoadUint64", "sync/atomic.StoreUint64", "internal/synctest.Disassociate[sync.WaitGroup]", "sync.runtime_Semrelease", "(*sync.WaitGroup).Done", "(*sync.WaitGroup).Wait", "internal/race.Acquire", "internal/synctest.IsAssociated[sync.WaitGroup]", "sync/atomic.CompareAndSwapUint64", "internal/race.Write", "sync.runtime_SemacquireWaitGroup"], unfollowed := true, recurses := true, leaving := true, apart := false, narrowed := true }
def FnExactPartAsSetsUptoSaid : Prop := fnExactPartAsSetsUptoRow.holds Tryz.pinned (OpenSpec.upto fnExactPartAsSetsSpec)

/-- 'laws.FnExactCoequalizerSets', WHERE WHAT IT READS IS OF BULK AT MOST 1048576: true; the input reads as it did. -/
def fnExactCoequalizerSetsUptoRow : OpenClaim := { program := "ytghefemofbipnaagreat", sum := "4470dbb57c480f11e3bd6731a1fbeed25e08847b5229cce5c6b6895dced49237", func := "loop.example/g01083/laws.FnExactCoequalizerSets", spec := "fnExactCoequalizerSets", inPlace := ["(*sync.WaitGroup).Add", "internal/race.ReleaseMerge", "internal/race.Disable", "internal/race.Enable", "internal/synctest.IsInBubble", "internal/synctest.Associate[sync.WaitGroup]", "sync.fatal", "sync/atomic.OrUint64", "sync/atomic.AddUint64", "internal/race.Read", "sync/atomic.LoadUint64", "sync/atomic.StoreUint64", "internal/synctest.Disassociate[sync.WaitGroup]", "sync.runtime_Semrelease", "(*sync.WaitGroup).Done", "(*sync.WaitGroup).Wait", "internal/race.Acquire", "internal/synctest.IsAssociated[sync.WaitGroup]", "sync/atomic.CompareAndSwapUint64", "internal/race.Write", "sync.runtime_SemacquireWaitGroup"], unfollowed := true, recurses := true, leaving := true, apart := false, narrowed := true }
def FnExactCoequalizerSetsUptoSaid : Prop := fnExactCoequalizerSetsUptoRow.holds Tryz.pinned (OpenSpec.upto fnExactCoequalizerSetsSpec)

/-- 'laws.FnExactImageSets', WHERE WHAT IT READS IS OF BULK AT MOST 1048576: true; the input reads as it did. -/
def fnExactImageSetsUptoRow : OpenClaim := { program := "ytghefemofbipnaagreat", sum := "4470dbb57c480f11e3bd6731a1fbeed25e08847b5229cce5c6b6895dced49237", func := "loop.example/g01083/laws.FnExactImageSets", spec := "fnExactImageSets", inPlace := ["(*sync.WaitGroup).Add", "internal/race.ReleaseMerge", "internal/race.Disable", "internal/race.Enable", "internal/synctest.IsInBubble", "internal/synctest.Associate[sync.WaitGroup]", "sync.fatal", "sync/atomic.OrUint64", "sync/atomic.AddUint64", "internal/race.Read", "sync/atomic.LoadUint64", "sync/atomic.StoreUint64", "internal/synctest.Disassociate[sync.WaitGroup]", "sync.runtime_Semrelease", "(*sync.WaitGroup).Done", "(*sync.WaitGroup).Wait", "internal/race.Acquire", "internal/synctest.IsAssociated[sync.WaitGroup]", "sync/atomic.CompareAndSwapUint64", "internal/race.Write", "sync.runtime_SemacquireWaitGroup"], unfollowed := true, recurses := true, leaving := true, apart := false, narrowed := true }
def FnExactImageSetsUptoSaid : Prop := fnExactImageSetsUptoRow.holds Tryz.pinned (OpenSpec.upto fnExactImageSetsSpec)

/-- 'laws.FnExactEqualizerSets', WHERE WHAT IT READS IS OF BULK AT MOST 1048576: true; the input reads as it did. -/
def fnExactEqualizerSetsUptoRow : OpenClaim := { program := "ytghefemofbipnaagreat", sum := "4470dbb57c480f11e3bd6731a1fbeed25e08847b5229cce5c6b6895dced49237", func := "loop.example/g01083/laws.FnExactEqualizerSets", spec := "fnExactEqualizerSets", inPlace := ["(*sync.WaitGroup).Add", "internal/race.ReleaseMerge", "internal/race.Disable", "internal/race.Enable", "internal/synctest.IsInBubble", "internal/synctest.Associate[sync.WaitGroup]", "sync.fatal", "sync/atomic.OrUint64", "sync/atomic.AddUint64", "internal/race.Read", "sync/atomic.LoadUint64", "sync/atomic.StoreUint64", "internal/synctest.Disassociate[sync.WaitGroup]", "sync.runtime_Semrelease", "(*sync.WaitGroup).Done", "(*sync.WaitGroup).Wait", "internal/race.Acquire", "internal/synctest.IsAssociated[sync.WaitGroup]", "sync/atomic.CompareAndSwapUint64", "internal/race.Write", "sync.runtime_SemacquireWaitGroup"], unfollowed := true, recurses := true, leaving := true, apart := false, narrowed := true }
def FnExactEqualizerSetsUptoSaid : Prop := fnExactEqualizerSetsUptoRow.holds Tryz.pinned (OpenSpec.upto fnExactEqualizerSetsSpec)

/-- 'laws.FnExactPullbackSets', WHERE WHAT IT READS IS OF BULK AT MOST 1048576: true; the input reads as it did. -/
def fnExactPullbackSetsUptoRow : OpenClaim := { program := "ytghefemofbipnaagreat", sum := "4470dbb57c480f11e3bd6731a1fbeed25e08847b5229cce5c6b6895dced49237", func := "loop.example/g01083/laws.FnExactPullbackSets", spec := "fnExactPullbackSets", inPlace := ["(*sync.WaitGroup).Add", "internal/race.ReleaseMerge", "internal/race.Disable", "internal/race.Enable", "internal/synctest.IsInBubble", "internal/synctest.Associate[sync.WaitGroup]", "sync.fatal", "sync/atomic.OrUint64", "sync/atomic.AddUint64", "internal/race.Read", "sync/atomic.LoadUint64", "sync/atomic.StoreUint64", "internal/synctest.Disassociate[sync.WaitGroup]", "sync.runtime_Semrelease", "(*sync.WaitGroup).Done", "(*sync.WaitGroup).Wait", "internal/race.Acquire", "internal/synctest.IsAssociated[sync.WaitGroup]", "sync/atomic.CompareAndSwapUint64", "internal/race.Write", "sync.runtime_SemacquireWaitGroup"], unfollowed := true, recurses := true, leaving := true, apart := false, narrowed := true }
def FnExactPullbackSetsUptoSaid : Prop := fnExactPullbackSetsUptoRow.holds Tryz.pinned (OpenSpec.upto fnExactPullbackSetsSpec)

/-- 'laws.FnExactPairSetMaps', WHERE WHAT IT READS IS OF BULK AT MOST 1048576: true; the input reads as it did. -/
def fnExactPairSetMapsUptoRow : OpenClaim := { program := "ytghefemofbipnaagreat", sum := "4470dbb57c480f11e3bd6731a1fbeed25e08847b5229cce5c6b6895dced49237", func := "loop.example/g01083/laws.FnExactPairSetMaps", spec := "fnExactPairSetMaps", inPlace := ["(*sync.WaitGroup).Add", "internal/race.ReleaseMerge", "internal/race.Disable", "internal/race.Enable", "internal/synctest.IsInBubble", "internal/synctest.Associate[sync.WaitGroup]", "sync.fatal", "sync/atomic.OrUint64", "sync/atomic.AddUint64", "internal/race.Read", "sync/atomic.LoadUint64", "sync/atomic.StoreUint64", "internal/synctest.Disassociate[sync.WaitGroup]", "sync.runtime_Semrelease", "(*sync.WaitGroup).Done", "(*sync.WaitGroup).Wait", "internal/race.Acquire", "internal/synctest.IsAssociated[sync.WaitGroup]", "sync/atomic.CompareAndSwapUint64", "internal/race.Write", "sync.runtime_SemacquireWaitGroup"], unfollowed := true, recurses := true, leaving := true, apart := false, narrowed := true }
def FnExactPairSetMapsUptoSaid : Prop := fnExactPairSetMapsUptoRow.holds Tryz.pinned (OpenSpec.upto fnExactPairSetMapsSpec)

end Rows
end Go.Proofs.YtghefemofbipnaaGreat
