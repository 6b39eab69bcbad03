/-
  No cell of these rows narrows 'for every input' (looked for: loops, veiled, ifaces, maps, wideKeys, modest, calm, conditions, laid).
  DERIVED. THE GIVEN ROWS OF THIS SEAT. 7 by the template 'for every input the law returns true; each argument reads behind the call as it read before'; 0 by the template 'total and deterministic' (their statements: YtbpjpnccoeedoaaTotals.lean).
  GIVEN WITH THE SEED: the statements are not yours to turn. If you find one false, say at which input.
  Laid BY PROGRAM, IN A SANDBOX (cutbox-rows.mjs): the forced cells as the released guide's own fill.sh prints them over the translation 68033fc828917d2d… (all of the seat's roots in one cut). By AI agents, Wed Nov 11 2026. No macro, syntax, notation, axiom, sorry.
-/
import Derived.Test.YtbpjpnccoeedoaaChecked
import GoSem.Claim
import GoSem.ClaimJoined
import GoSem.ClaimMapViews
import Derived.JoinedTies
import Derived.KernelRfl
namespace Go.Proofs.Ytbpjpnccoeedoaa
/- THE CELL 'sum', in the pinned program and in every row, IS THE sha256 OF THE DUMP (.gsa) THAT YtbpjpnccoeedoaaProg.lean LOADS. Nothing in Lean hashes anything: it is a label: what it is worth is what the hold of that sum in a sandbox is worth. -/
noncomputable def Try.pinned : Pinned := { name := "ytbpjpnccoeedoaa", sum := "68033fc828917d2dad8bcd12f9577faf41a31c2a4ef04540f81259a8471dedcd", checked := Try.checked }
namespace Rows
def none {H : Type} : Left H := { results := [], args := [] }

/-- 'laws.FnExactOppositeProfunctor': WHATEVER THE INPUT: true; the input reads as it did. -/
def fnExactOppositeProfunctorSpec : ChangeSpec := { name := "fnExactOppositeProfunctor", fn := fun _ => fun
  | [d] => { results := [.lit (.bool true)], args := [d] }
  | _ => none }
def fnExactOppositeProfunctorRow : OpenClaim := { program := "ytbpjpnccoeedoaa", sum := "68033fc828917d2dad8bcd12f9577faf41a31c2a4ef04540f81259a8471dedcd", func := "loop.example/g01083/laws.FnExactOppositeProfunctor", spec := "fnExactOppositeProfunctor", unfollowed := true, recurses := true, plainKeys := false, apart := false }
def FnExactOppositeProfunctorSaid : Prop := fnExactOppositeProfunctorRow.holds Try.pinned (OpenSpec.ofChange fnExactOppositeProfunctorSpec)

/-- ITS FALSE NEIGHBOUR: 'it returns false'. Refute it at one input. -/
def fnExactOppositeProfunctorWrong : ChangeSpec := { name := "fnExactOppositeProfunctor", fn := fun _ => fun
  | [d] => { results := [.lit (.bool false)], args := [d] }
  | _ => none }
def FnExactOppositeProfunctorWrongFalsely : Prop := fnExactOppositeProfunctorRow.holds Try.pinned (OpenSpec.ofChange fnExactOppositeProfunctorWrong)

/-- 'laws.FnExactRestrictProfunctor': WHATEVER THE INPUT: true; the input reads as it did. -/
def fnExactRestrictProfunctorSpec : ChangeSpec := { name := "fnExactRestrictProfunctor", fn := fun _ => fun
  | [d1, d2, d3] => { results := [.lit (.bool true)], args := [d1, d2, d3] }
  | _ => none }
def fnExactRestrictProfunctorRow : OpenClaim := { program := "ytbpjpnccoeedoaa", sum := "68033fc828917d2dad8bcd12f9577faf41a31c2a4ef04540f81259a8471dedcd", func := "loop.example/g01083/laws.FnExactRestrictProfunctor", spec := "fnExactRestrictProfunctor", unfollowed := true, recurses := true, plainKeys := false, apart := false }
def FnExactRestrictProfunctorSaid : Prop := fnExactRestrictProfunctorRow.holds Try.pinned (OpenSpec.ofChange fnExactRestrictProfunctorSpec)

/-- ITS FALSE NEIGHBOUR: 'it returns false'. Refute it at one input. -/
def fnExactRestrictProfunctorWrong : ChangeSpec := { name := "fnExactRestrictProfunctor", fn := fun _ => fun
  | [d1, d2, d3] => { results := [.lit (.bool false)], args := [d1, d2, d3] }
  | _ => none }
def FnExactRestrictProfunctorWrongFalsely : Prop := fnExactRestrictProfunctorRow.holds Try.pinned (OpenSpec.ofChange fnExactRestrictProfunctorWrong)

/-- 'laws.FnExactRepresentingFunctor': WHATEVER THE INPUT: true; the input reads as it did. -/
def fnExactRepresentingFunctorSpec : ChangeSpec := { name := "fnExactRepresentingFunctor", fn := fun _ => fun
  | [d] => { results := [.lit (.bool true)], args := [d] }
  | _ => none }
def fnExactRepresentingFunctorRow : OpenClaim := { program := "ytbpjpnccoeedoaa", sum := "68033fc828917d2dad8bcd12f9577faf41a31c2a4ef04540f81259a8471dedcd", func := "loop.example/g01083/laws.FnExactRepresentingFunctor", spec := "fnExactRepresentingFunctor", plainKeys := false, apart := false }
def FnExactRepresentingFunctorSaid : Prop := fnExactRepresentingFunctorRow.holds Try.pinned (OpenSpec.ofChange fnExactRepresentingFunctorSpec)

/-- ITS FALSE NEIGHBOUR: 'it returns false'. Refute it at one input. -/
def fnExactRepresentingFunctorWrong : ChangeSpec := { name := "fnExactRepresentingFunctor", fn := fun _ => fun
  | [d] => { results := [.lit (.bool false)], args := [d] }
  | _ => none }
def FnExactRepresentingFunctorWrongFalsely : Prop := fnExactRepresentingFunctorRow.holds Try.pinned (OpenSpec.ofChange fnExactRepresentingFunctorWrong)

/-- 'laws.FnExactTotalCategory': WHATEVER THE INPUT: true; the input reads as it did. -/
def fnExactTotalCategorySpec : ChangeSpec := { name := "fnExactTotalCategory", fn := fun _ => fun
  | [d] => { results := [.lit (.bool true)], args := [d] }
  | _ => none }
def fnExactTotalCategoryRow : OpenClaim := { program := "ytbpjpnccoeedoaa", sum := "68033fc828917d2dad8bcd12f9577faf41a31c2a4ef04540f81259a8471dedcd", func := "loop.example/g01083/laws.FnExactTotalCategory", spec := "fnExactTotalCategory", unfollowed := true, recurses := true, plainKeys := false, apart := false }
def FnExactTotalCategorySaid : Prop := fnExactTotalCategoryRow.holds Try.pinned (OpenSpec.ofChange fnExactTotalCategorySpec)

/-- ITS FALSE NEIGHBOUR: 'it returns false'. Refute it at one input. -/
def fnExactTotalCategoryWrong : ChangeSpec := { name := "fnExactTotalCategory", fn := fun _ => fun
  | [d] => { results := [.lit (.bool false)], args := [d] }
  | _ => none }
def FnExactTotalCategoryWrongFalsely : Prop := fnExactTotalCategoryRow.holds Try.pinned (OpenSpec.ofChange fnExactTotalCategoryWrong)

/-- 'laws.FnExactTotalProjection': WHATEVER THE INPUT: true; the input reads as it did. -/
def fnExactTotalProjectionSpec : ChangeSpec := { name := "fnExactTotalProjection", fn := fun _ => fun
  | [d] => { results := [.lit (.bool true)], args := [d] }
  | _ => none }
def fnExactTotalProjectionRow : OpenClaim := { program := "ytbpjpnccoeedoaa", sum := "68033fc828917d2dad8bcd12f9577faf41a31c2a4ef04540f81259a8471dedcd", func := "loop.example/g01083/laws.FnExactTotalProjection", spec := "fnExactTotalProjection", unfollowed := true, recurses := true, plainKeys := false, apart := false }
def FnExactTotalProjectionSaid : Prop := fnExactTotalProjectionRow.holds Try.pinned (OpenSpec.ofChange fnExactTotalProjectionSpec)

/-- ITS FALSE NEIGHBOUR: 'it returns false'. Refute it at one input. -/
def fnExactTotalProjectionWrong : ChangeSpec := { name := "fnExactTotalProjection", fn := fun _ => fun
  | [d] => { results := [.lit (.bool false)], args := [d] }
  | _ => none }
def FnExactTotalProjectionWrongFalsely : Prop := fnExactTotalProjectionRow.holds Try.pinned (OpenSpec.ofChange fnExactTotalProjectionWrong)

/-- 'laws.FnExactFunctorOnSkeletons': WHATEVER THE INPUT: true; the input reads as it did. -/
def fnExactFunctorOnSkeletonsSpec : ChangeSpec := { name := "fnExactFunctorOnSkeletons", fn := fun _ => fun
  | [d] => { results := [.lit (.bool true)], args := [d] }
  | _ => none }
def fnExactFunctorOnSkeletonsRow : OpenClaim := { program := "ytbpjpnccoeedoaa", sum := "68033fc828917d2dad8bcd12f9577faf41a31c2a4ef04540f81259a8471dedcd", func := "loop.example/g01083/laws.FnExactFunctorOnSkeletons", spec := "fnExactFunctorOnSkeletons", plainKeys := false, apart := false }
def FnExactFunctorOnSkeletonsSaid : Prop := fnExactFunctorOnSkeletonsRow.holds Try.pinned (OpenSpec.ofChange fnExactFunctorOnSkeletonsSpec)

/-- ITS FALSE NEIGHBOUR: 'it returns false'. Refute it at one input. -/
def fnExactFunctorOnSkeletonsWrong : ChangeSpec := { name := "fnExactFunctorOnSkeletons", fn := fun _ => fun
  | [d] => { results := [.lit (.bool false)], args := [d] }
  | _ => none }
def FnExactFunctorOnSkeletonsWrongFalsely : Prop := fnExactFunctorOnSkeletonsRow.holds Try.pinned (OpenSpec.ofChange fnExactFunctorOnSkeletonsWrong)

/-- 'laws.FnExactCanonicalSets': WHATEVER THE INPUT: true; the input reads as it did. -/
def fnExactCanonicalSetsSpec : ChangeSpec := { name := "fnExactCanonicalSets", fn := fun _ => fun
  | [d1, d2] => { results := [.lit (.bool true)], args := [d1, d2] }
  | _ => none }
def fnExactCanonicalSetsRow : OpenClaim := { program := "ytbpjpnccoeedoaa", sum := "68033fc828917d2dad8bcd12f9577faf41a31c2a4ef04540f81259a8471dedcd", func := "loop.example/g01083/laws.FnExactCanonicalSets", spec := "fnExactCanonicalSets", plainKeys := false, apart := false }
def FnExactCanonicalSetsSaid : Prop := fnExactCanonicalSetsRow.holds Try.pinned (OpenSpec.ofChange fnExactCanonicalSetsSpec)

/-- ITS FALSE NEIGHBOUR: 'it returns false'. Refute it at one input. -/
def fnExactCanonicalSetsWrong : ChangeSpec := { name := "fnExactCanonicalSets", fn := fun _ => fun
  | [d1, d2] => { results := [.lit (.bool false)], args := [d1, d2] }
  | _ => none }
def FnExactCanonicalSetsWrongFalsely : Prop := fnExactCanonicalSetsRow.holds Try.pinned (OpenSpec.ofChange fnExactCanonicalSetsWrong)

/- THE SECOND FORM. 'bulk': how many values and letters a reading holds, each counted each time it is reached (what is shared counts as often as it is met; a slice's spare places count too). A statement '..UptoSaid' is the law's where the arguments, and the package variables that the reading takes, are together of bulk at most 1048576: NARROWER than '..Said'. Prove '..Said' where nothing that the law and all that it calls make is longer than what came in: it says more and counts as full. Else prove '..UptoSaid'. A law counts once. -/
mutual
def uptoBulk {H : Type} : DataW H → Nat
  | .lit (.string bytes) => bytes.length + 1
  | .lit _ => 1
  | .nil => 1
  | .ptr d => uptoBulk d + 1
  | .slice elems spare => uptoBulkAll elems + uptoBulkAll spare + 1
  | .agg parts => uptoBulkAll parts + 1
  | .iface _ d => uptoBulk d + 1
  | .map entries => uptoBulkEntries entries + 1
  | .held _ => 1
def uptoBulkAll {H : Type} : List (DataW H) → Nat
  | [] => 0
  | d :: r => uptoBulk d + uptoBulkAll r
def uptoBulkEntries {H : Type} : List (Lit × DataW H) → Nat
  | [] => 0
  | x :: r => uptoBulkEntry x + uptoBulkEntries r
def uptoBulkEntry {H : Type} : Lit × DataW H → Nat
  | (.string bytes, d) => bytes.length + uptoBulk d + 1
  | (_, d) => uptoBulk d + 1
 end
def uptoSmall : (H : Type) → List (DataW H) → Bool := fun _ ds => decide (uptoBulkAll ds ≤ 1048576)
def OpenSpec.upto (s : _root_.Go.ChangeSpec) : _root_.Go.OpenSpec := { _root_.Go.OpenSpec.ofChange s with cond := some uptoSmall }

/-- 'laws.FnExactOppositeProfunctor', WHERE WHAT IT READS IS OF BULK AT MOST 1048576: true; the input reads as it did. -/
def fnExactOppositeProfunctorUptoRow : OpenClaim := { program := "ytbpjpnccoeedoaa", sum := "68033fc828917d2dad8bcd12f9577faf41a31c2a4ef04540f81259a8471dedcd", func := "loop.example/g01083/laws.FnExactOppositeProfunctor", spec := "fnExactOppositeProfunctor", unfollowed := true, recurses := true, plainKeys := false, apart := false, narrowed := true }
def FnExactOppositeProfunctorUptoSaid : Prop := fnExactOppositeProfunctorUptoRow.holds Try.pinned (OpenSpec.upto fnExactOppositeProfunctorSpec)

/-- 'laws.FnExactRestrictProfunctor', WHERE WHAT IT READS IS OF BULK AT MOST 1048576: true; the input reads as it did. -/
def fnExactRestrictProfunctorUptoRow : OpenClaim := { program := "ytbpjpnccoeedoaa", sum := "68033fc828917d2dad8bcd12f9577faf41a31c2a4ef04540f81259a8471dedcd", func := "loop.example/g01083/laws.FnExactRestrictProfunctor", spec := "fnExactRestrictProfunctor", unfollowed := true, recurses := true, plainKeys := false, apart := false, narrowed := true }
def FnExactRestrictProfunctorUptoSaid : Prop := fnExactRestrictProfunctorUptoRow.holds Try.pinned (OpenSpec.upto fnExactRestrictProfunctorSpec)

/-- 'laws.FnExactRepresentingFunctor', WHERE WHAT IT READS IS OF BULK AT MOST 1048576: true; the input reads as it did. -/
def fnExactRepresentingFunctorUptoRow : OpenClaim := { program := "ytbpjpnccoeedoaa", sum := "68033fc828917d2dad8bcd12f9577faf41a31c2a4ef04540f81259a8471dedcd", func := "loop.example/g01083/laws.FnExactRepresentingFunctor", spec := "fnExactRepresentingFunctor", plainKeys := false, apart := false, narrowed := true }
def FnExactRepresentingFunctorUptoSaid : Prop := fnExactRepresentingFunctorUptoRow.holds Try.pinned (OpenSpec.upto fnExactRepresentingFunctorSpec)

/-- 'laws.FnExactTotalCategory', WHERE WHAT IT READS IS OF BULK AT MOST 1048576: true; the input reads as it did. -/
def fnExactTotalCategoryUptoRow : OpenClaim := { program := "ytbpjpnccoeedoaa", sum := "68033fc828917d2dad8bcd12f9577faf41a31c2a4ef04540f81259a8471dedcd", func := "loop.example/g01083/laws.FnExactTotalCategory", spec := "fnExactTotalCategory", unfollowed := true, recurses := true, plainKeys := false, apart := false, narrowed := true }
def FnExactTotalCategoryUptoSaid : Prop := fnExactTotalCategoryUptoRow.holds Try.pinned (OpenSpec.upto fnExactTotalCategorySpec)

/-- 'laws.FnExactTotalProjection', WHERE WHAT IT READS IS OF BULK AT MOST 1048576: true; the input reads as it did. -/
def fnExactTotalProjectionUptoRow : OpenClaim := { program := "ytbpjpnccoeedoaa", sum := "68033fc828917d2dad8bcd12f9577faf41a31c2a4ef04540f81259a8471dedcd", func := "loop.example/g01083/laws.FnExactTotalProjection", spec := "fnExactTotalProjection", unfollowed := true, recurses := true, plainKeys := false, apart := false, narrowed := true }
def FnExactTotalProjectionUptoSaid : Prop := fnExactTotalProjectionUptoRow.holds Try.pinned (OpenSpec.upto fnExactTotalProjectionSpec)

/-- 'laws.FnExactFunctorOnSkeletons', WHERE WHAT IT READS IS OF BULK AT MOST 1048576: true; the input reads as it did. -/
def fnExactFunctorOnSkeletonsUptoRow : OpenClaim := { program := "ytbpjpnccoeedoaa", sum := "68033fc828917d2dad8bcd12f9577faf41a31c2a4ef04540f81259a8471dedcd", func := "loop.example/g01083/laws.FnExactFunctorOnSkeletons", spec := "fnExactFunctorOnSkeletons", plainKeys := false, apart := false, narrowed := true }
def FnExactFunctorOnSkeletonsUptoSaid : Prop := fnExactFunctorOnSkeletonsUptoRow.holds Try.pinned (OpenSpec.upto fnExactFunctorOnSkeletonsSpec)

/-- 'laws.FnExactCanonicalSets', WHERE WHAT IT READS IS OF BULK AT MOST 1048576: true; the input reads as it did. -/
def fnExactCanonicalSetsUptoRow : OpenClaim := { program := "ytbpjpnccoeedoaa", sum := "68033fc828917d2dad8bcd12f9577faf41a31c2a4ef04540f81259a8471dedcd", func := "loop.example/g01083/laws.FnExactCanonicalSets", spec := "fnExactCanonicalSets", plainKeys := false, apart := false, narrowed := true }
def FnExactCanonicalSetsUptoSaid : Prop := fnExactCanonicalSetsUptoRow.holds Try.pinned (OpenSpec.upto fnExactCanonicalSetsSpec)

end Rows
end Go.Proofs.Ytbpjpnccoeedoaa
