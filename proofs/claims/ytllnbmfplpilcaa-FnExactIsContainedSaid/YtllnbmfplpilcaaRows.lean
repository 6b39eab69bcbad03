/-
  No cell of these rows narrows 'for every input' (looked for: loops, veiled, ifaces, maps, wideKeys, modest, calm, conditions, laid).
  DERIVED. THE GIVEN ROWS OF THIS SEAT. 3 by the template 'for every input the law returns true; each argument reads behind the call as it read before'; 0 by the template 'total and deterministic' (their statements: YtllnbmfplpilcaaTotals.lean).
  GIVEN WITH THE SEED: the statements are not yours to turn. If you find one false, say at which input.
  Laid BY PROGRAM, IN A SANDBOX (cutbox-rows.mjs): the forced cells as the released guide's own fill.sh prints them over the translation f0addbc4f63f5778… (all of the seat's roots in one cut). By AI agents, Wed Nov 11 2026. No macro, syntax, notation, axiom, sorry.
-/
import Derived.Test.YtllnbmfplpilcaaChecked
import GoSem.Claim
import GoSem.ClaimJoined
import GoSem.ClaimMapViews
import Derived.JoinedTies
import Derived.KernelRfl
namespace Go.Proofs.Ytllnbmfplpilcaa
/- THE CELL 'sum', in the pinned program and in every row, IS THE sha256 OF THE DUMP (.gsa) THAT YtllnbmfplpilcaaProg.lean LOADS. Nothing in Lean hashes anything: it is a label: what it is worth is what the hold of that sum in a sandbox is worth. -/
noncomputable def Try.pinned : Pinned := { name := "ytllnbmfplpilcaa", sum := "f0addbc4f63f577854ed6fc02f23ec3be481dc90335fbfd52b8ad31b56599436", checked := Try.checked }
namespace Rows
def none {H : Type} : Left H := { results := [], args := [] }

/-- 'laws.FnExactCanonicalSets': WHATEVER THE INPUT: true; the input reads as it did. -/
def fnExactCanonicalSetsSpec : ChangeSpec := { name := "fnExactCanonicalSets", fn := fun _ => fun
  | [d1, d2] => { results := [.lit (.bool true)], args := [d1, d2] }
  | _ => none }
def fnExactCanonicalSetsRow : OpenClaim := { program := "ytllnbmfplpilcaa", sum := "f0addbc4f63f577854ed6fc02f23ec3be481dc90335fbfd52b8ad31b56599436", func := "loop.example/g01083/laws.FnExactCanonicalSets", spec := "fnExactCanonicalSets", plainKeys := false, apart := false }
def FnExactCanonicalSetsSaid : Prop := fnExactCanonicalSetsRow.holds Try.pinned (OpenSpec.ofChange fnExactCanonicalSetsSpec)

/-- ITS FALSE NEIGHBOUR: 'it returns false'. Refute it at one input. -/
def fnExactCanonicalSetsWrong : ChangeSpec := { name := "fnExactCanonicalSets", fn := fun _ => fun
  | [d1, d2] => { results := [.lit (.bool false)], args := [d1, d2] }
  | _ => none }
def FnExactCanonicalSetsWrongFalsely : Prop := fnExactCanonicalSetsRow.holds Try.pinned (OpenSpec.ofChange fnExactCanonicalSetsWrong)

/-- 'laws.FnExactReduceQuery': WHATEVER THE INPUT: true; the input reads as it did. -/
def fnExactReduceQuerySpec : ChangeSpec := { name := "fnExactReduceQuery", fn := fun _ => fun
  | [d1, d2] => { results := [.lit (.bool true)], args := [d1, d2] }
  | _ => none }
def fnExactReduceQueryRow : OpenClaim := { program := "ytllnbmfplpilcaa", sum := "f0addbc4f63f577854ed6fc02f23ec3be481dc90335fbfd52b8ad31b56599436", func := "loop.example/g01083/laws.FnExactReduceQuery", spec := "fnExactReduceQuery", plainKeys := false, apart := false }
def FnExactReduceQuerySaid : Prop := fnExactReduceQueryRow.holds Try.pinned (OpenSpec.ofChange fnExactReduceQuerySpec)

/-- ITS FALSE NEIGHBOUR: 'it returns false'. Refute it at one input. -/
def fnExactReduceQueryWrong : ChangeSpec := { name := "fnExactReduceQuery", fn := fun _ => fun
  | [d1, d2] => { results := [.lit (.bool false)], args := [d1, d2] }
  | _ => none }
def FnExactReduceQueryWrongFalsely : Prop := fnExactReduceQueryRow.holds Try.pinned (OpenSpec.ofChange fnExactReduceQueryWrong)

/-- 'laws.FnExactIsContained': WHATEVER THE INPUT: true; the input reads as it did. -/
def fnExactIsContainedSpec : ChangeSpec := { name := "fnExactIsContained", fn := fun _ => fun
  | [d1, d2, d3] => { results := [.lit (.bool true)], args := [d1, d2, d3] }
  | _ => none }
def fnExactIsContainedRow : OpenClaim := { program := "ytllnbmfplpilcaa", sum := "f0addbc4f63f577854ed6fc02f23ec3be481dc90335fbfd52b8ad31b56599436", func := "loop.example/g01083/laws.FnExactIsContained", spec := "fnExactIsContained", unfollowed := true, recurses := true, plainKeys := false, apart := false }
def FnExactIsContainedSaid : Prop := fnExactIsContainedRow.holds Try.pinned (OpenSpec.ofChange fnExactIsContainedSpec)

/-- ITS FALSE NEIGHBOUR: 'it returns false'. Refute it at one input. -/
def fnExactIsContainedWrong : ChangeSpec := { name := "fnExactIsContained", fn := fun _ => fun
  | [d1, d2, d3] => { results := [.lit (.bool false)], args := [d1, d2, d3] }
  | _ => none }
def FnExactIsContainedWrongFalsely : Prop := fnExactIsContainedRow.holds Try.pinned (OpenSpec.ofChange fnExactIsContainedWrong)

/- THE SECOND FORM. 'bulk': how many values and letters a reading holds, each counted each time it is reached (what is shared counts as often as it is met; a slice's spare places count too). A statement '..UptoSaid' is the law's where the arguments, and the package variables that the reading takes, are together of bulk at most 1048576: NARROWER than '..Said'. Prove '..Said' where nothing that the law and all that it calls make is longer than what came in: it says more and counts as full. Else prove '..UptoSaid'. A law counts once. -/
mutual
def uptoBulk {H : Type} : DataW H → Nat
  | .lit (.string bytes) => bytes.length + 1
  | .lit _ => 1
  | .nil => 1
  | .ptr d => uptoBulk d + 1
  | .slice elems spare => uptoBulkAll elems + uptoBulkAll spare + 1
  | .agg parts => uptoBulkAll parts + 1
  | .iface _ d => uptoBulk d + 1
  | .map entries => uptoBulkEntries entries + 1
  | .held _ => 1
def uptoBulkAll {H : Type} : List (DataW H) → Nat
  | [] => 0
  | d :: r => uptoBulk d + uptoBulkAll r
def uptoBulkEntries {H : Type} : List (Lit × DataW H) → Nat
  | [] => 0
  | x :: r => uptoBulkEntry x + uptoBulkEntries r
def uptoBulkEntry {H : Type} : Lit × DataW H → Nat
  | (.string bytes, d) => bytes.length + uptoBulk d + 1
  | (_, d) => uptoBulk d + 1
 end
def uptoSmall : (H : Type) → List (DataW H) → Bool := fun _ ds => decide (uptoBulkAll ds ≤ 1048576)
def OpenSpec.upto (s : _root_.Go.ChangeSpec) : _root_.Go.OpenSpec := { _root_.Go.OpenSpec.ofChange s with cond := some uptoSmall }

/-- 'laws.FnExactCanonicalSets', WHERE WHAT IT READS IS OF BULK AT MOST 1048576: true; the input reads as it did. -/
def fnExactCanonicalSetsUptoRow : OpenClaim := { program := "ytllnbmfplpilcaa", sum := "f0addbc4f63f577854ed6fc02f23ec3be481dc90335fbfd52b8ad31b56599436", func := "loop.example/g01083/laws.FnExactCanonicalSets", spec := "fnExactCanonicalSets", plainKeys := false, apart := false, narrowed := true }
def FnExactCanonicalSetsUptoSaid : Prop := fnExactCanonicalSetsUptoRow.holds Try.pinned (OpenSpec.upto fnExactCanonicalSetsSpec)

/-- 'laws.FnExactReduceQuery', WHERE WHAT IT READS IS OF BULK AT MOST 1048576: true; the input reads as it did. -/
def fnExactReduceQueryUptoRow : OpenClaim := { program := "ytllnbmfplpilcaa", sum := "f0addbc4f63f577854ed6fc02f23ec3be481dc90335fbfd52b8ad31b56599436", func := "loop.example/g01083/laws.FnExactReduceQuery", spec := "fnExactReduceQuery", plainKeys := false, apart := false, narrowed := true }
def FnExactReduceQueryUptoSaid : Prop := fnExactReduceQueryUptoRow.holds Try.pinned (OpenSpec.upto fnExactReduceQuerySpec)

/-- 'laws.FnExactIsContained', WHERE WHAT IT READS IS OF BULK AT MOST 1048576: true; the input reads as it did. -/
def fnExactIsContainedUptoRow : OpenClaim := { program := "ytllnbmfplpilcaa", sum := "f0addbc4f63f577854ed6fc02f23ec3be481dc90335fbfd52b8ad31b56599436", func := "loop.example/g01083/laws.FnExactIsContained", spec := "fnExactIsContained", unfollowed := true, recurses := true, plainKeys := false, apart := false, narrowed := true }
def FnExactIsContainedUptoSaid : Prop := fnExactIsContainedUptoRow.holds Try.pinned (OpenSpec.upto fnExactIsContainedSpec)

end Rows
end Go.Proofs.Ytllnbmfplpilcaa
