/-
  No cell of these rows narrows 'for every input' (looked for: loops, veiled, ifaces, maps, wideKeys, modest, calm, conditions, laid).
  DERIVED. THE GIVEN ROWS OF THIS SEAT. 6 by the template 'for every input the law returns true; each argument reads behind the call as it read before'; 0 by the template 'total and deterministic' (their statements: YtfinipknacaojaaGreatTotals.lean).
  GIVEN WITH THE SEED: the statements are not yours to turn. If you find one false, say at which input.
  Laid BY PROGRAM, IN A SANDBOX (cutbox-rows.mjs): the forced cells as the released guide's own fill.sh prints them over the translation 2a35502bb14f19d5… (all of the seat's roots in one cut). By AI agents, Wed Nov 11 2026. No macro, syntax, notation, axiom, sorry.
-/
import Derived.Test.YtfinipknacaojaaGreatChecked
import GoSem.Claim
import GoSem.ClaimJoined
import GoSem.ClaimMapViews
import Derived.JoinedTies
import Derived.KernelRfl
namespace Go.Proofs.YtfinipknacaojaaGreat
/- THE CELL 'sum', in the pinned program and in every row, IS THE sha256 OF THE DUMP (.gsa) THAT YtfinipknacaojaaGreatProg.lean LOADS. Nothing in Lean hashes anything: it is a label: what it is worth is what the hold of that sum in a sandbox is worth. -/
noncomputable def Tryz.pinned : Pinned := { name := "ytfinipknacaojaagreat", sum := "2a35502bb14f19d573c85504c57baf20d57a8fad7977cbd706ed652892eb50b9", checked := Tryz.checked }
namespace Rows
def none {H : Type} : Left H := { results := [], args := [] }

/-- 'laws.FnExactKleisliAdjunction': WHATEVER THE INPUT: true; the input reads as it did. -/
def fnExactKleisliAdjunctionSpec : ChangeSpec := { name := "fnExactKleisliAdjunction", fn := fun _ => fun
  | [d] => { results := [.lit (.bool true)], args := [d] }
  | _ => none }
def fnExactKleisliAdjunctionRow : OpenClaim := { program := "ytfinipknacaojaagreat", sum := "2a35502bb14f19d573c85504c57baf20d57a8fad7977cbd706ed652892eb50b9", func := "loop.example/g01083/laws.FnExactKleisliAdjunction", spec := "fnExactKleisliAdjunction", unfollowed := true, recurses := true, apart := false }
def FnExactKleisliAdjunctionSaid : Prop := fnExactKleisliAdjunctionRow.holds Tryz.pinned (OpenSpec.ofChange fnExactKleisliAdjunctionSpec)

/-- ITS FALSE NEIGHBOUR: 'it returns false'. Refute it at one input. -/
def fnExactKleisliAdjunctionWrong : ChangeSpec := { name := "fnExactKleisliAdjunction", fn := fun _ => fun
  | [d] => { results := [.lit (.bool false)], args := [d] }
  | _ => none }
def FnExactKleisliAdjunctionWrongFalsely : Prop := fnExactKleisliAdjunctionRow.holds Tryz.pinned (OpenSpec.ofChange fnExactKleisliAdjunctionWrong)

/-- 'laws.FnExactAlgebraArrows': WHATEVER THE INPUT: true; the input reads as it did. -/
def fnExactAlgebraArrowsSpec : ChangeSpec := { name := "fnExactAlgebraArrows", fn := fun _ => fun
  | [d] => { results := [.lit (.bool true)], args := [d] }
  | _ => none }
def fnExactAlgebraArrowsRow : OpenClaim := { program := "ytfinipknacaojaagreat", sum := "2a35502bb14f19d573c85504c57baf20d57a8fad7977cbd706ed652892eb50b9", func := "loop.example/g01083/laws.FnExactAlgebraArrows", spec := "fnExactAlgebraArrows", unfollowed := true, recurses := true, apart := false }
def FnExactAlgebraArrowsSaid : Prop := fnExactAlgebraArrowsRow.holds Tryz.pinned (OpenSpec.ofChange fnExactAlgebraArrowsSpec)

/-- ITS FALSE NEIGHBOUR: 'it returns false'. Refute it at one input. -/
def fnExactAlgebraArrowsWrong : ChangeSpec := { name := "fnExactAlgebraArrows", fn := fun _ => fun
  | [d] => { results := [.lit (.bool false)], args := [d] }
  | _ => none }
def FnExactAlgebraArrowsWrongFalsely : Prop := fnExactAlgebraArrowsRow.holds Tryz.pinned (OpenSpec.ofChange fnExactAlgebraArrowsWrong)

/-- 'laws.FnExactAlgebraCategory': WHATEVER THE INPUT: true; the input reads as it did. -/
def fnExactAlgebraCategorySpec : ChangeSpec := { name := "fnExactAlgebraCategory", fn := fun _ => fun
  | [d] => { results := [.lit (.bool true)], args := [d] }
  | _ => none }
def fnExactAlgebraCategoryRow : OpenClaim := { program := "ytfinipknacaojaagreat", sum := "2a35502bb14f19d573c85504c57baf20d57a8fad7977cbd706ed652892eb50b9", func := "loop.example/g01083/laws.FnExactAlgebraCategory", spec := "fnExactAlgebraCategory", unfollowed := true, recurses := true, apart := false }
def FnExactAlgebraCategorySaid : Prop := fnExactAlgebraCategoryRow.holds Tryz.pinned (OpenSpec.ofChange fnExactAlgebraCategorySpec)

/-- ITS FALSE NEIGHBOUR: 'it returns false'. Refute it at one input. -/
def fnExactAlgebraCategoryWrong : ChangeSpec := { name := "fnExactAlgebraCategory", fn := fun _ => fun
  | [d] => { results := [.lit (.bool false)], args := [d] }
  | _ => none }
def FnExactAlgebraCategoryWrongFalsely : Prop := fnExactAlgebraCategoryRow.holds Tryz.pinned (OpenSpec.ofChange fnExactAlgebraCategoryWrong)

/-- 'laws.FnExactAlgebraAdjunction': WHATEVER THE INPUT: true; the input reads as it did. -/
def fnExactAlgebraAdjunctionSpec : ChangeSpec := { name := "fnExactAlgebraAdjunction", fn := fun _ => fun
  | [d] => { results := [.lit (.bool true)], args := [d] }
  | _ => none }
def fnExactAlgebraAdjunctionRow : OpenClaim := { program := "ytfinipknacaojaagreat", sum := "2a35502bb14f19d573c85504c57baf20d57a8fad7977cbd706ed652892eb50b9", func := "loop.example/g01083/laws.FnExactAlgebraAdjunction", spec := "fnExactAlgebraAdjunction", unfollowed := true, recurses := true, apart := false }
def FnExactAlgebraAdjunctionSaid : Prop := fnExactAlgebraAdjunctionRow.holds Tryz.pinned (OpenSpec.ofChange fnExactAlgebraAdjunctionSpec)

/-- ITS FALSE NEIGHBOUR: 'it returns false'. Refute it at one input. -/
def fnExactAlgebraAdjunctionWrong : ChangeSpec := { name := "fnExactAlgebraAdjunction", fn := fun _ => fun
  | [d] => { results := [.lit (.bool false)], args := [d] }
  | _ => none }
def FnExactAlgebraAdjunctionWrongFalsely : Prop := fnExactAlgebraAdjunctionRow.holds Tryz.pinned (OpenSpec.ofChange fnExactAlgebraAdjunctionWrong)

/-- 'laws.FnExactComparisonFunctor': WHATEVER THE INPUT: true; the input reads as it did. -/
def fnExactComparisonFunctorSpec : ChangeSpec := { name := "fnExactComparisonFunctor", fn := fun _ => fun
  | [d] => { results := [.lit (.bool true)], args := [d] }
  | _ => none }
def fnExactComparisonFunctorRow : OpenClaim := { program := "ytfinipknacaojaagreat", sum := "2a35502bb14f19d573c85504c57baf20d57a8fad7977cbd706ed652892eb50b9", func := "loop.example/g01083/laws.FnExactComparisonFunctor", spec := "fnExactComparisonFunctor", unfollowed := true, recurses := true, apart := false }
def FnExactComparisonFunctorSaid : Prop := fnExactComparisonFunctorRow.holds Tryz.pinned (OpenSpec.ofChange fnExactComparisonFunctorSpec)

/-- ITS FALSE NEIGHBOUR: 'it returns false'. Refute it at one input. -/
def fnExactComparisonFunctorWrong : ChangeSpec := { name := "fnExactComparisonFunctor", fn := fun _ => fun
  | [d] => { results := [.lit (.bool false)], args := [d] }
  | _ => none }
def FnExactComparisonFunctorWrongFalsely : Prop := fnExactComparisonFunctorRow.holds Tryz.pinned (OpenSpec.ofChange fnExactComparisonFunctorWrong)

/-- 'laws.FnExactAlgebrasAlong': WHATEVER THE INPUT: true; the input reads as it did. -/
def fnExactAlgebrasAlongSpec : ChangeSpec := { name := "fnExactAlgebrasAlong", fn := fun _ => fun
  | [d1, d2, d3] => { results := [.lit (.bool true)], args := [d1, d2, d3] }
  | _ => none }
def fnExactAlgebrasAlongRow : OpenClaim := { program := "ytfinipknacaojaagreat", sum := "2a35502bb14f19d573c85504c57baf20d57a8fad7977cbd706ed652892eb50b9", func := "loop.example/g01083/laws.FnExactAlgebrasAlong", spec := "fnExactAlgebrasAlong", unfollowed := true, recurses := true, apart := false }
def FnExactAlgebrasAlongSaid : Prop := fnExactAlgebrasAlongRow.holds Tryz.pinned (OpenSpec.ofChange fnExactAlgebrasAlongSpec)

/-- ITS FALSE NEIGHBOUR: 'it returns false'. Refute it at one input. -/
def fnExactAlgebrasAlongWrong : ChangeSpec := { name := "fnExactAlgebrasAlong", fn := fun _ => fun
  | [d1, d2, d3] => { results := [.lit (.bool false)], args := [d1, d2, d3] }
  | _ => none }
def FnExactAlgebrasAlongWrongFalsely : Prop := fnExactAlgebrasAlongRow.holds Tryz.pinned (OpenSpec.ofChange fnExactAlgebrasAlongWrong)

/- THE SECOND FORM. 'bulk': how many values and letters a reading holds, each counted each time it is reached (what is shared counts as often as it is met; a slice's spare places count too). A statement '..UptoSaid' is the law's where the arguments, and the package variables that the reading takes, are together of bulk at most 1048576: NARROWER than '..Said'. Prove '..Said' where nothing that the law and all that it calls make is longer than what came in: it says more and counts as full. Else prove '..UptoSaid'. A law counts once. -/
mutual
def uptoBulk {H : Type} : DataW H → Nat
  | .lit (.string bytes) => bytes.length + 1
  | .lit _ => 1
  | .nil => 1
  | .ptr d => uptoBulk d + 1
  | .slice elems spare => uptoBulkAll elems + uptoBulkAll spare + 1
  | .agg parts => uptoBulkAll parts + 1
  | .iface _ d => uptoBulk d + 1
  | .map entries => uptoBulkEntries entries + 1
  | .held _ => 1
def uptoBulkAll {H : Type} : List (DataW H) → Nat
  | [] => 0
  | d :: r => uptoBulk d + uptoBulkAll r
def uptoBulkEntries {H : Type} : List (Lit × DataW H) → Nat
  | [] => 0
  | x :: r => uptoBulkEntry x + uptoBulkEntries r
def uptoBulkEntry {H : Type} : Lit × DataW H → Nat
  | (.string bytes, d) => bytes.length + uptoBulk d + 1
  | (_, d) => uptoBulk d + 1
 end
def uptoSmall : (H : Type) → List (DataW H) → Bool := fun _ ds => decide (uptoBulkAll ds ≤ 1048576)
def OpenSpec.upto (s : _root_.Go.ChangeSpec) : _root_.Go.OpenSpec := { _root_.Go.OpenSpec.ofChange s with cond := some uptoSmall }

/-- 'laws.FnExactKleisliAdjunction', WHERE WHAT IT READS IS OF BULK AT MOST 1048576: true; the input reads as it did. -/
def fnExactKleisliAdjunctionUptoRow : OpenClaim := { program := "ytfinipknacaojaagreat", sum := "2a35502bb14f19d573c85504c57baf20d57a8fad7977cbd706ed652892eb50b9", func := "loop.example/g01083/laws.FnExactKleisliAdjunction", spec := "fnExactKleisliAdjunction", unfollowed := true, recurses := true, apart := false, narrowed := true }
def FnExactKleisliAdjunctionUptoSaid : Prop := fnExactKleisliAdjunctionUptoRow.holds Tryz.pinned (OpenSpec.upto fnExactKleisliAdjunctionSpec)

/-- 'laws.FnExactAlgebraArrows', WHERE WHAT IT READS IS OF BULK AT MOST 1048576: true; the input reads as it did. -/
def fnExactAlgebraArrowsUptoRow : OpenClaim := { program := "ytfinipknacaojaagreat", sum := "2a35502bb14f19d573c85504c57baf20d57a8fad7977cbd706ed652892eb50b9", func := "loop.example/g01083/laws.FnExactAlgebraArrows", spec := "fnExactAlgebraArrows", unfollowed := true, recurses := true, apart := false, narrowed := true }
def FnExactAlgebraArrowsUptoSaid : Prop := fnExactAlgebraArrowsUptoRow.holds Tryz.pinned (OpenSpec.upto fnExactAlgebraArrowsSpec)

/-- 'laws.FnExactAlgebraCategory', WHERE WHAT IT READS IS OF BULK AT MOST 1048576: true; the input reads as it did. -/
def fnExactAlgebraCategoryUptoRow : OpenClaim := { program := "ytfinipknacaojaagreat", sum := "2a35502bb14f19d573c85504c57baf20d57a8fad7977cbd706ed652892eb50b9", func := "loop.example/g01083/laws.FnExactAlgebraCategory", spec := "fnExactAlgebraCategory", unfollowed := true, recurses := true, apart := false, narrowed := true }
def FnExactAlgebraCategoryUptoSaid : Prop := fnExactAlgebraCategoryUptoRow.holds Tryz.pinned (OpenSpec.upto fnExactAlgebraCategorySpec)

/-- 'laws.FnExactAlgebraAdjunction', WHERE WHAT IT READS IS OF BULK AT MOST 1048576: true; the input reads as it did. -/
def fnExactAlgebraAdjunctionUptoRow : OpenClaim := { program := "ytfinipknacaojaagreat", sum := "2a35502bb14f19d573c85504c57baf20d57a8fad7977cbd706ed652892eb50b9", func := "loop.example/g01083/laws.FnExactAlgebraAdjunction", spec := "fnExactAlgebraAdjunction", unfollowed := true, recurses := true, apart := false, narrowed := true }
def FnExactAlgebraAdjunctionUptoSaid : Prop := fnExactAlgebraAdjunctionUptoRow.holds Tryz.pinned (OpenSpec.upto fnExactAlgebraAdjunctionSpec)

/-- 'laws.FnExactComparisonFunctor', WHERE WHAT IT READS IS OF BULK AT MOST 1048576: true; the input reads as it did. -/
def fnExactComparisonFunctorUptoRow : OpenClaim := { program := "ytfinipknacaojaagreat", sum := "2a35502bb14f19d573c85504c57baf20d57a8fad7977cbd706ed652892eb50b9", func := "loop.example/g01083/laws.FnExactComparisonFunctor", spec := "fnExactComparisonFunctor", unfollowed := true, recurses := true, apart := false, narrowed := true }
def FnExactComparisonFunctorUptoSaid : Prop := fnExactComparisonFunctorUptoRow.holds Tryz.pinned (OpenSpec.upto fnExactComparisonFunctorSpec)

/-- 'laws.FnExactAlgebrasAlong', WHERE WHAT IT READS IS OF BULK AT MOST 1048576: true; the input reads as it did. -/
def fnExactAlgebrasAlongUptoRow : OpenClaim := { program := "ytfinipknacaojaagreat", sum := "2a35502bb14f19d573c85504c57baf20d57a8fad7977cbd706ed652892eb50b9", func := "loop.example/g01083/laws.FnExactAlgebrasAlong", spec := "fnExactAlgebrasAlong", unfollowed := true, recurses := true, apart := false, narrowed := true }
def FnExactAlgebrasAlongUptoSaid : Prop := fnExactAlgebrasAlongUptoRow.holds Tryz.pinned (OpenSpec.upto fnExactAlgebrasAlongSpec)

end Rows
end Go.Proofs.YtfinipknacaojaaGreat
