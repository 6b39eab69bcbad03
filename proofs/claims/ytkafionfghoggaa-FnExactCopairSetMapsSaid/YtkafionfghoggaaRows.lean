/-
  No cell of these rows narrows 'for every input' (looked for: loops, veiled, ifaces, maps, wideKeys, modest, calm, conditions, laid).
  DERIVED. THE GIVEN ROWS OF THIS SEAT. 12 by the template 'for every input the law returns true; each argument reads behind the call as it read before'; 0 by the template 'total and deterministic' (their statements: YtkafionfghoggaaTotals.lean).
  GIVEN WITH THE SEED: the statements are not yours to turn. If you find one false, say at which input.
  Laid BY PROGRAM, IN A SANDBOX (cutbox-rows.mjs): the forced cells as the released guide's own fill.sh prints them over the translation f14a51a07322f1dc… (all of the seat's roots in one cut). By AI agents, Wed Nov 11 2026. No macro, syntax, notation, axiom, sorry.
-/
import Derived.Test.YtkafionfghoggaaChecked
import GoSem.Claim
import GoSem.ClaimJoined
import GoSem.ClaimMapViews
import Derived.JoinedTies
import Derived.KernelRfl
namespace Go.Proofs.Ytkafionfghoggaa
/- THE CELL 'sum', in the pinned program and in every row, IS THE sha256 OF THE DUMP (.gsa) THAT YtkafionfghoggaaProg.lean LOADS. Nothing in Lean hashes anything: it is a label: what it is worth is what the hold of that sum in a sandbox is worth. -/
noncomputable def Try.pinned : Pinned := { name := "ytkafionfghoggaa", sum := "f14a51a07322f1dcc963d98862204c38cf4473d28731ea32c2d7c979d03852c1", checked := Try.checked }
namespace Rows
def none {H : Type} : Left H := { results := [], args := [] }

/-- 'laws.FnExactFixedObjects': WHATEVER THE INPUT: true; the input reads as it did. -/
def fnExactFixedObjectsSpec : ChangeSpec := { name := "fnExactFixedObjects", fn := fun _ => fun
  | [d] => { results := [.lit (.bool true)], args := [d] }
  | _ => none }
def fnExactFixedObjectsRow : OpenClaim := { program := "ytkafionfghoggaa", sum := "f14a51a07322f1dcc963d98862204c38cf4473d28731ea32c2d7c979d03852c1", func := "loop.example/g01083/laws.FnExactFixedObjects", spec := "fnExactFixedObjects", unfollowed := true, recurses := true, apart := false }
def FnExactFixedObjectsSaid : Prop := fnExactFixedObjectsRow.holds Try.pinned (OpenSpec.ofChange fnExactFixedObjectsSpec)

/-- ITS FALSE NEIGHBOUR: 'it returns false'. Refute it at one input. -/
def fnExactFixedObjectsWrong : ChangeSpec := { name := "fnExactFixedObjects", fn := fun _ => fun
  | [d] => { results := [.lit (.bool false)], args := [d] }
  | _ => none }
def FnExactFixedObjectsWrongFalsely : Prop := fnExactFixedObjectsRow.holds Try.pinned (OpenSpec.ofChange fnExactFixedObjectsWrong)

/-- 'laws.FnExactAllAlgebras': WHATEVER THE INPUT: true; the input reads as it did. -/
def fnExactAllAlgebrasSpec : ChangeSpec := { name := "fnExactAllAlgebras", fn := fun _ => fun
  | [d] => { results := [.lit (.bool true)], args := [d] }
  | _ => none }
def fnExactAllAlgebrasRow : OpenClaim := { program := "ytkafionfghoggaa", sum := "f14a51a07322f1dcc963d98862204c38cf4473d28731ea32c2d7c979d03852c1", func := "loop.example/g01083/laws.FnExactAllAlgebras", spec := "fnExactAllAlgebras", unfollowed := true, recurses := true, apart := false }
def FnExactAllAlgebrasSaid : Prop := fnExactAllAlgebrasRow.holds Try.pinned (OpenSpec.ofChange fnExactAllAlgebrasSpec)

/-- ITS FALSE NEIGHBOUR: 'it returns false'. Refute it at one input. -/
def fnExactAllAlgebrasWrong : ChangeSpec := { name := "fnExactAllAlgebras", fn := fun _ => fun
  | [d] => { results := [.lit (.bool false)], args := [d] }
  | _ => none }
def FnExactAllAlgebrasWrongFalsely : Prop := fnExactAllAlgebrasRow.holds Try.pinned (OpenSpec.ofChange fnExactAllAlgebrasWrong)

/-- 'laws.FnExactInverseTransformation': WHATEVER THE INPUT: true; the input reads as it did. -/
def fnExactInverseTransformationSpec : ChangeSpec := { name := "fnExactInverseTransformation", fn := fun _ => fun
  | [d] => { results := [.lit (.bool true)], args := [d] }
  | _ => none }
def fnExactInverseTransformationRow : OpenClaim := { program := "ytkafionfghoggaa", sum := "f14a51a07322f1dcc963d98862204c38cf4473d28731ea32c2d7c979d03852c1", func := "loop.example/g01083/laws.FnExactInverseTransformation", spec := "fnExactInverseTransformation", unfollowed := true, recurses := true, apart := false }
def FnExactInverseTransformationSaid : Prop := fnExactInverseTransformationRow.holds Try.pinned (OpenSpec.ofChange fnExactInverseTransformationSpec)

/-- ITS FALSE NEIGHBOUR: 'it returns false'. Refute it at one input. -/
def fnExactInverseTransformationWrong : ChangeSpec := { name := "fnExactInverseTransformation", fn := fun _ => fun
  | [d] => { results := [.lit (.bool false)], args := [d] }
  | _ => none }
def FnExactInverseTransformationWrongFalsely : Prop := fnExactInverseTransformationRow.holds Try.pinned (OpenSpec.ofChange fnExactInverseTransformationWrong)

/-- 'laws.FnExactAlgebraMaps': WHATEVER THE INPUT: true; the input reads as it did. -/
def fnExactAlgebraMapsSpec : ChangeSpec := { name := "fnExactAlgebraMaps", fn := fun _ => fun
  | [d1, d2, d3, d4, d5] => { results := [.lit (.bool true)], args := [d1, d2, d3, d4, d5] }
  | _ => none }
def fnExactAlgebraMapsRow : OpenClaim := { program := "ytkafionfghoggaa", sum := "f14a51a07322f1dcc963d98862204c38cf4473d28731ea32c2d7c979d03852c1", func := "loop.example/g01083/laws.FnExactAlgebraMaps", spec := "fnExactAlgebraMaps", unfollowed := true, recurses := true, apart := false }
def FnExactAlgebraMapsSaid : Prop := fnExactAlgebraMapsRow.holds Try.pinned (OpenSpec.ofChange fnExactAlgebraMapsSpec)

/-- ITS FALSE NEIGHBOUR: 'it returns false'. Refute it at one input. -/
def fnExactAlgebraMapsWrong : ChangeSpec := { name := "fnExactAlgebraMaps", fn := fun _ => fun
  | [d1, d2, d3, d4, d5] => { results := [.lit (.bool false)], args := [d1, d2, d3, d4, d5] }
  | _ => none }
def FnExactAlgebraMapsWrongFalsely : Prop := fnExactAlgebraMapsRow.holds Try.pinned (OpenSpec.ofChange fnExactAlgebraMapsWrong)

/-- 'laws.FnExactOppositeProfunctor': WHATEVER THE INPUT: true; the input reads as it did. -/
def fnExactOppositeProfunctorSpec : ChangeSpec := { name := "fnExactOppositeProfunctor", fn := fun _ => fun
  | [d] => { results := [.lit (.bool true)], args := [d] }
  | _ => none }
def fnExactOppositeProfunctorRow : OpenClaim := { program := "ytkafionfghoggaa", sum := "f14a51a07322f1dcc963d98862204c38cf4473d28731ea32c2d7c979d03852c1", func := "loop.example/g01083/laws.FnExactOppositeProfunctor", spec := "fnExactOppositeProfunctor", unfollowed := true, recurses := true, apart := false }
def FnExactOppositeProfunctorSaid : Prop := fnExactOppositeProfunctorRow.holds Try.pinned (OpenSpec.ofChange fnExactOppositeProfunctorSpec)

/-- ITS FALSE NEIGHBOUR: 'it returns false'. Refute it at one input. -/
def fnExactOppositeProfunctorWrong : ChangeSpec := { name := "fnExactOppositeProfunctor", fn := fun _ => fun
  | [d] => { results := [.lit (.bool false)], args := [d] }
  | _ => none }
def FnExactOppositeProfunctorWrongFalsely : Prop := fnExactOppositeProfunctorRow.holds Try.pinned (OpenSpec.ofChange fnExactOppositeProfunctorWrong)

/-- 'laws.FnExactThenAdjunctions': WHATEVER THE INPUT: true; the input reads as it did. -/
def fnExactThenAdjunctionsSpec : ChangeSpec := { name := "fnExactThenAdjunctions", fn := fun _ => fun
  | [d1, d2] => { results := [.lit (.bool true)], args := [d1, d2] }
  | _ => none }
def fnExactThenAdjunctionsRow : OpenClaim := { program := "ytkafionfghoggaa", sum := "f14a51a07322f1dcc963d98862204c38cf4473d28731ea32c2d7c979d03852c1", func := "loop.example/g01083/laws.FnExactThenAdjunctions", spec := "fnExactThenAdjunctions", unfollowed := true, recurses := true, apart := false }
def FnExactThenAdjunctionsSaid : Prop := fnExactThenAdjunctionsRow.holds Try.pinned (OpenSpec.ofChange fnExactThenAdjunctionsSpec)

/-- ITS FALSE NEIGHBOUR: 'it returns false'. Refute it at one input. -/
def fnExactThenAdjunctionsWrong : ChangeSpec := { name := "fnExactThenAdjunctions", fn := fun _ => fun
  | [d1, d2] => { results := [.lit (.bool false)], args := [d1, d2] }
  | _ => none }
def FnExactThenAdjunctionsWrongFalsely : Prop := fnExactThenAdjunctionsRow.holds Try.pinned (OpenSpec.ofChange fnExactThenAdjunctionsWrong)

/-- 'laws.FnExactMonadOf': WHATEVER THE INPUT: true; the input reads as it did. -/
def fnExactMonadOfSpec : ChangeSpec := { name := "fnExactMonadOf", fn := fun _ => fun
  | [d] => { results := [.lit (.bool true)], args := [d] }
  | _ => none }
def fnExactMonadOfRow : OpenClaim := { program := "ytkafionfghoggaa", sum := "f14a51a07322f1dcc963d98862204c38cf4473d28731ea32c2d7c979d03852c1", func := "loop.example/g01083/laws.FnExactMonadOf", spec := "fnExactMonadOf", unfollowed := true, recurses := true, apart := false }
def FnExactMonadOfSaid : Prop := fnExactMonadOfRow.holds Try.pinned (OpenSpec.ofChange fnExactMonadOfSpec)

/-- ITS FALSE NEIGHBOUR: 'it returns false'. Refute it at one input. -/
def fnExactMonadOfWrong : ChangeSpec := { name := "fnExactMonadOf", fn := fun _ => fun
  | [d] => { results := [.lit (.bool false)], args := [d] }
  | _ => none }
def FnExactMonadOfWrongFalsely : Prop := fnExactMonadOfRow.holds Try.pinned (OpenSpec.ofChange fnExactMonadOfWrong)

/-- 'laws.FnExactCopairSetMaps': WHATEVER THE INPUT: true; the input reads as it did. -/
def fnExactCopairSetMapsSpec : ChangeSpec := { name := "fnExactCopairSetMaps", fn := fun _ => fun
  | [d1, d2] => { results := [.lit (.bool true)], args := [d1, d2] }
  | _ => none }
def fnExactCopairSetMapsRow : OpenClaim := { program := "ytkafionfghoggaa", sum := "f14a51a07322f1dcc963d98862204c38cf4473d28731ea32c2d7c979d03852c1", func := "loop.example/g01083/laws.FnExactCopairSetMaps", spec := "fnExactCopairSetMaps", apart := false }
def FnExactCopairSetMapsSaid : Prop := fnExactCopairSetMapsRow.holds Try.pinned (OpenSpec.ofChange fnExactCopairSetMapsSpec)

/-- ITS FALSE NEIGHBOUR: 'it returns false'. Refute it at one input. -/
def fnExactCopairSetMapsWrong : ChangeSpec := { name := "fnExactCopairSetMaps", fn := fun _ => fun
  | [d1, d2] => { results := [.lit (.bool false)], args := [d1, d2] }
  | _ => none }
def FnExactCopairSetMapsWrongFalsely : Prop := fnExactCopairSetMapsRow.holds Try.pinned (OpenSpec.ofChange fnExactCopairSetMapsWrong)

/-- 'laws.FnExactOppositeAdjunction': WHATEVER THE INPUT: true; the input reads as it did. -/
def fnExactOppositeAdjunctionSpec : ChangeSpec := { name := "fnExactOppositeAdjunction", fn := fun _ => fun
  | [d] => { results := [.lit (.bool true)], args := [d] }
  | _ => none }
def fnExactOppositeAdjunctionRow : OpenClaim := { program := "ytkafionfghoggaa", sum := "f14a51a07322f1dcc963d98862204c38cf4473d28731ea32c2d7c979d03852c1", func := "loop.example/g01083/laws.FnExactOppositeAdjunction", spec := "fnExactOppositeAdjunction", unfollowed := true, recurses := true, apart := false }
def FnExactOppositeAdjunctionSaid : Prop := fnExactOppositeAdjunctionRow.holds Try.pinned (OpenSpec.ofChange fnExactOppositeAdjunctionSpec)

/-- ITS FALSE NEIGHBOUR: 'it returns false'. Refute it at one input. -/
def fnExactOppositeAdjunctionWrong : ChangeSpec := { name := "fnExactOppositeAdjunction", fn := fun _ => fun
  | [d] => { results := [.lit (.bool false)], args := [d] }
  | _ => none }
def FnExactOppositeAdjunctionWrongFalsely : Prop := fnExactOppositeAdjunctionRow.holds Try.pinned (OpenSpec.ofChange fnExactOppositeAdjunctionWrong)

/-- 'laws.FnExactComposeMonads': WHATEVER THE INPUT: true; the input reads as it did. -/
def fnExactComposeMonadsSpec : ChangeSpec := { name := "fnExactComposeMonads", fn := fun _ => fun
  | [d1, d2, d3] => { results := [.lit (.bool true)], args := [d1, d2, d3] }
  | _ => none }
def fnExactComposeMonadsRow : OpenClaim := { program := "ytkafionfghoggaa", sum := "f14a51a07322f1dcc963d98862204c38cf4473d28731ea32c2d7c979d03852c1", func := "loop.example/g01083/laws.FnExactComposeMonads", spec := "fnExactComposeMonads", unfollowed := true, recurses := true, apart := false }
def FnExactComposeMonadsSaid : Prop := fnExactComposeMonadsRow.holds Try.pinned (OpenSpec.ofChange fnExactComposeMonadsSpec)

/-- ITS FALSE NEIGHBOUR: 'it returns false'. Refute it at one input. -/
def fnExactComposeMonadsWrong : ChangeSpec := { name := "fnExactComposeMonads", fn := fun _ => fun
  | [d1, d2, d3] => { results := [.lit (.bool false)], args := [d1, d2, d3] }
  | _ => none }
def FnExactComposeMonadsWrongFalsely : Prop := fnExactComposeMonadsRow.holds Try.pinned (OpenSpec.ofChange fnExactComposeMonadsWrong)

/-- 'laws.FnExactMapAlong': WHATEVER THE INPUT: true; the input reads as it did. -/
def fnExactMapAlongSpec : ChangeSpec := { name := "fnExactMapAlong", fn := fun _ => fun
  | [d1, d2] => { results := [.lit (.bool true)], args := [d1, d2] }
  | _ => none }
def fnExactMapAlongRow : OpenClaim := { program := "ytkafionfghoggaa", sum := "f14a51a07322f1dcc963d98862204c38cf4473d28731ea32c2d7c979d03852c1", func := "loop.example/g01083/laws.FnExactMapAlong", spec := "fnExactMapAlong", apart := false }
def FnExactMapAlongSaid : Prop := fnExactMapAlongRow.holds Try.pinned (OpenSpec.ofChange fnExactMapAlongSpec)

/-- ITS FALSE NEIGHBOUR: 'it returns false'. Refute it at one input. -/
def fnExactMapAlongWrong : ChangeSpec := { name := "fnExactMapAlong", fn := fun _ => fun
  | [d1, d2] => { results := [.lit (.bool false)], args := [d1, d2] }
  | _ => none }
def FnExactMapAlongWrongFalsely : Prop := fnExactMapAlongRow.holds Try.pinned (OpenSpec.ofChange fnExactMapAlongWrong)

/-- 'laws.FnExactRepresentingFunctor': WHATEVER THE INPUT: true; the input reads as it did. -/
def fnExactRepresentingFunctorSpec : ChangeSpec := { name := "fnExactRepresentingFunctor", fn := fun _ => fun
  | [d] => { results := [.lit (.bool true)], args := [d] }
  | _ => none }
def fnExactRepresentingFunctorRow : OpenClaim := { program := "ytkafionfghoggaa", sum := "f14a51a07322f1dcc963d98862204c38cf4473d28731ea32c2d7c979d03852c1", func := "loop.example/g01083/laws.FnExactRepresentingFunctor", spec := "fnExactRepresentingFunctor", apart := false }
def FnExactRepresentingFunctorSaid : Prop := fnExactRepresentingFunctorRow.holds Try.pinned (OpenSpec.ofChange fnExactRepresentingFunctorSpec)

/-- ITS FALSE NEIGHBOUR: 'it returns false'. Refute it at one input. -/
def fnExactRepresentingFunctorWrong : ChangeSpec := { name := "fnExactRepresentingFunctor", fn := fun _ => fun
  | [d] => { results := [.lit (.bool false)], args := [d] }
  | _ => none }
def FnExactRepresentingFunctorWrongFalsely : Prop := fnExactRepresentingFunctorRow.holds Try.pinned (OpenSpec.ofChange fnExactRepresentingFunctorWrong)

/- THE SECOND FORM. 'bulk': how many values and letters a reading holds, each counted each time it is reached (what is shared counts as often as it is met; a slice's spare places count too). A statement '..UptoSaid' is the law's where the arguments, and the package variables that the reading takes, are together of bulk at most 1048576: NARROWER than '..Said'. Prove '..Said' where nothing that the law and all that it calls make is longer than what came in: it says more and counts as full. Else prove '..UptoSaid'. A law counts once. -/
mutual
def uptoBulk {H : Type} : DataW H → Nat
  | .lit (.string bytes) => bytes.length + 1
  | .lit _ => 1
  | .nil => 1
  | .ptr d => uptoBulk d + 1
  | .slice elems spare => uptoBulkAll elems + uptoBulkAll spare + 1
  | .agg parts => uptoBulkAll parts + 1
  | .iface _ d => uptoBulk d + 1
  | .map entries => uptoBulkEntries entries + 1
  | .held _ => 1
def uptoBulkAll {H : Type} : List (DataW H) → Nat
  | [] => 0
  | d :: r => uptoBulk d + uptoBulkAll r
def uptoBulkEntries {H : Type} : List (Lit × DataW H) → Nat
  | [] => 0
  | x :: r => uptoBulkEntry x + uptoBulkEntries r
def uptoBulkEntry {H : Type} : Lit × DataW H → Nat
  | (.string bytes, d) => bytes.length + uptoBulk d + 1
  | (_, d) => uptoBulk d + 1
 end
def uptoSmall : (H : Type) → List (DataW H) → Bool := fun _ ds => decide (uptoBulkAll ds ≤ 1048576)
def OpenSpec.upto (s : _root_.Go.ChangeSpec) : _root_.Go.OpenSpec := { _root_.Go.OpenSpec.ofChange s with cond := some uptoSmall }

/-- 'laws.FnExactFixedObjects', WHERE WHAT IT READS IS OF BULK AT MOST 1048576: true; the input reads as it did. -/
def fnExactFixedObjectsUptoRow : OpenClaim := { program := "ytkafionfghoggaa", sum := "f14a51a07322f1dcc963d98862204c38cf4473d28731ea32c2d7c979d03852c1", func := "loop.example/g01083/laws.FnExactFixedObjects", spec := "fnExactFixedObjects", unfollowed := true, recurses := true, apart := false, narrowed := true }
def FnExactFixedObjectsUptoSaid : Prop := fnExactFixedObjectsUptoRow.holds Try.pinned (OpenSpec.upto fnExactFixedObjectsSpec)

/-- 'laws.FnExactAllAlgebras', WHERE WHAT IT READS IS OF BULK AT MOST 1048576: true; the input reads as it did. -/
def fnExactAllAlgebrasUptoRow : OpenClaim := { program := "ytkafionfghoggaa", sum := "f14a51a07322f1dcc963d98862204c38cf4473d28731ea32c2d7c979d03852c1", func := "loop.example/g01083/laws.FnExactAllAlgebras", spec := "fnExactAllAlgebras", unfollowed := true, recurses := true, apart := false, narrowed := true }
def FnExactAllAlgebrasUptoSaid : Prop := fnExactAllAlgebrasUptoRow.holds Try.pinned (OpenSpec.upto fnExactAllAlgebrasSpec)

/-- 'laws.FnExactInverseTransformation', WHERE WHAT IT READS IS OF BULK AT MOST 1048576: true; the input reads as it did. -/
def fnExactInverseTransformationUptoRow : OpenClaim := { program := "ytkafionfghoggaa", sum := "f14a51a07322f1dcc963d98862204c38cf4473d28731ea32c2d7c979d03852c1", func := "loop.example/g01083/laws.FnExactInverseTransformation", spec := "fnExactInverseTransformation", unfollowed := true, recurses := true, apart := false, narrowed := true }
def FnExactInverseTransformationUptoSaid : Prop := fnExactInverseTransformationUptoRow.holds Try.pinned (OpenSpec.upto fnExactInverseTransformationSpec)

/-- 'laws.FnExactAlgebraMaps', WHERE WHAT IT READS IS OF BULK AT MOST 1048576: true; the input reads as it did. -/
def fnExactAlgebraMapsUptoRow : OpenClaim := { program := "ytkafionfghoggaa", sum := "f14a51a07322f1dcc963d98862204c38cf4473d28731ea32c2d7c979d03852c1", func := "loop.example/g01083/laws.FnExactAlgebraMaps", spec := "fnExactAlgebraMaps", unfollowed := true, recurses := true, apart := false, narrowed := true }
def FnExactAlgebraMapsUptoSaid : Prop := fnExactAlgebraMapsUptoRow.holds Try.pinned (OpenSpec.upto fnExactAlgebraMapsSpec)

/-- 'laws.FnExactOppositeProfunctor', WHERE WHAT IT READS IS OF BULK AT MOST 1048576: true; the input reads as it did. -/
def fnExactOppositeProfunctorUptoRow : OpenClaim := { program := "ytkafionfghoggaa", sum := "f14a51a07322f1dcc963d98862204c38cf4473d28731ea32c2d7c979d03852c1", func := "loop.example/g01083/laws.FnExactOppositeProfunctor", spec := "fnExactOppositeProfunctor", unfollowed := true, recurses := true, apart := false, narrowed := true }
def FnExactOppositeProfunctorUptoSaid : Prop := fnExactOppositeProfunctorUptoRow.holds Try.pinned (OpenSpec.upto fnExactOppositeProfunctorSpec)

/-- 'laws.FnExactThenAdjunctions', WHERE WHAT IT READS IS OF BULK AT MOST 1048576: true; the input reads as it did. -/
def fnExactThenAdjunctionsUptoRow : OpenClaim := { program := "ytkafionfghoggaa", sum := "f14a51a07322f1dcc963d98862204c38cf4473d28731ea32c2d7c979d03852c1", func := "loop.example/g01083/laws.FnExactThenAdjunctions", spec := "fnExactThenAdjunctions", unfollowed := true, recurses := true, apart := false, narrowed := true }
def FnExactThenAdjunctionsUptoSaid : Prop := fnExactThenAdjunctionsUptoRow.holds Try.pinned (OpenSpec.upto fnExactThenAdjunctionsSpec)

/-- 'laws.FnExactMonadOf', WHERE WHAT IT READS IS OF BULK AT MOST 1048576: true; the input reads as it did. -/
def fnExactMonadOfUptoRow : OpenClaim := { program := "ytkafionfghoggaa", sum := "f14a51a07322f1dcc963d98862204c38cf4473d28731ea32c2d7c979d03852c1", func := "loop.example/g01083/laws.FnExactMonadOf", spec := "fnExactMonadOf", unfollowed := true, recurses := true, apart := false, narrowed := true }
def FnExactMonadOfUptoSaid : Prop := fnExactMonadOfUptoRow.holds Try.pinned (OpenSpec.upto fnExactMonadOfSpec)

/-- 'laws.FnExactCopairSetMaps', WHERE WHAT IT READS IS OF BULK AT MOST 1048576: true; the input reads as it did. -/
def fnExactCopairSetMapsUptoRow : OpenClaim := { program := "ytkafionfghoggaa", sum := "f14a51a07322f1dcc963d98862204c38cf4473d28731ea32c2d7c979d03852c1", func := "loop.example/g01083/laws.FnExactCopairSetMaps", spec := "fnExactCopairSetMaps", apart := false, narrowed := true }
def FnExactCopairSetMapsUptoSaid : Prop := fnExactCopairSetMapsUptoRow.holds Try.pinned (OpenSpec.upto fnExactCopairSetMapsSpec)

/-- 'laws.FnExactOppositeAdjunction', WHERE WHAT IT READS IS OF BULK AT MOST 1048576: true; the input reads as it did. -/
def fnExactOppositeAdjunctionUptoRow : OpenClaim := { program := "ytkafionfghoggaa", sum := "f14a51a07322f1dcc963d98862204c38cf4473d28731ea32c2d7c979d03852c1", func := "loop.example/g01083/laws.FnExactOppositeAdjunction", spec := "fnExactOppositeAdjunction", unfollowed := true, recurses := true, apart := false, narrowed := true }
def FnExactOppositeAdjunctionUptoSaid : Prop := fnExactOppositeAdjunctionUptoRow.holds Try.pinned (OpenSpec.upto fnExactOppositeAdjunctionSpec)

/-- 'laws.FnExactComposeMonads', WHERE WHAT IT READS IS OF BULK AT MOST 1048576: true; the input reads as it did. -/
def fnExactComposeMonadsUptoRow : OpenClaim := { program := "ytkafionfghoggaa", sum := "f14a51a07322f1dcc963d98862204c38cf4473d28731ea32c2d7c979d03852c1", func := "loop.example/g01083/laws.FnExactComposeMonads", spec := "fnExactComposeMonads", unfollowed := true, recurses := true, apart := false, narrowed := true }
def FnExactComposeMonadsUptoSaid : Prop := fnExactComposeMonadsUptoRow.holds Try.pinned (OpenSpec.upto fnExactComposeMonadsSpec)

/-- 'laws.FnExactMapAlong', WHERE WHAT IT READS IS OF BULK AT MOST 1048576: true; the input reads as it did. -/
def fnExactMapAlongUptoRow : OpenClaim := { program := "ytkafionfghoggaa", sum := "f14a51a07322f1dcc963d98862204c38cf4473d28731ea32c2d7c979d03852c1", func := "loop.example/g01083/laws.FnExactMapAlong", spec := "fnExactMapAlong", apart := false, narrowed := true }
def FnExactMapAlongUptoSaid : Prop := fnExactMapAlongUptoRow.holds Try.pinned (OpenSpec.upto fnExactMapAlongSpec)

/-- 'laws.FnExactRepresentingFunctor', WHERE WHAT IT READS IS OF BULK AT MOST 1048576: true; the input reads as it did. -/
def fnExactRepresentingFunctorUptoRow : OpenClaim := { program := "ytkafionfghoggaa", sum := "f14a51a07322f1dcc963d98862204c38cf4473d28731ea32c2d7c979d03852c1", func := "loop.example/g01083/laws.FnExactRepresentingFunctor", spec := "fnExactRepresentingFunctor", apart := false, narrowed := true }
def FnExactRepresentingFunctorUptoSaid : Prop := fnExactRepresentingFunctorUptoRow.holds Try.pinned (OpenSpec.upto fnExactRepresentingFunctorSpec)

end Rows
end Go.Proofs.Ytkafionfghoggaa
