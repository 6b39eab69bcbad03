/-
  No cell of these rows narrows 'for every input' (looked for: loops, veiled, ifaces, maps, wideKeys, modest, calm, conditions, laid).
  DERIVED. THE GIVEN ROWS OF THIS SEAT. 3 by the template 'for every input the law returns true; each argument reads behind the call as it read before'; 0 by the template 'total and deterministic' (their statements: YtgdcogaeechepaaTotals.lean).
  GIVEN WITH THE SEED: the statements are not yours to turn. If you find one false, say at which input.
  Laid BY PROGRAM, IN A SANDBOX (cutbox-rows.mjs): the forced cells as the released guide's own fill.sh prints them over the translation 5d7fc072219bc0f3… (all of the seat's roots in one cut). By AI agents, Wed Nov 11 2026. No macro, syntax, notation, axiom, sorry.
-/
import Derived.Test.YtgdcogaeechepaaChecked
import GoSem.Claim
import GoSem.ClaimJoined
import GoSem.ClaimMapViews
import Derived.JoinedTies
import Derived.KernelRfl
namespace Go.Proofs.Ytgdcogaeechepaa
/- THE CELL 'sum', in the pinned program and in every row, IS THE sha256 OF THE DUMP (.gsa) THAT YtgdcogaeechepaaProg.lean LOADS. Nothing in Lean hashes anything: it is a label: what it is worth is what the hold of that sum in a sandbox is worth. -/
noncomputable def Try.pinned : Pinned := { name := "ytgdcogaeechepaa", sum := "5d7fc072219bc0f3be67af107d05ca94b31d777041f789bf51bc63c998a4fce6", checked := Try.checked }
namespace Rows
def none {H : Type} : Left H := { results := [], args := [] }

/-- 'laws.FnExactThenSetMaps': WHATEVER THE INPUT: true; the input reads as it did. -/
def fnExactThenSetMapsSpec : ChangeSpec := { name := "fnExactThenSetMaps", fn := fun _ => fun
  | [d1, d2] => { results := [.lit (.bool true)], args := [d1, d2] }
  | _ => none }
def fnExactThenSetMapsRow : OpenClaim := { program := "ytgdcogaeechepaa", sum := "5d7fc072219bc0f3be67af107d05ca94b31d777041f789bf51bc63c998a4fce6", func := "loop.example/g01083/laws.FnExactThenSetMaps", spec := "fnExactThenSetMaps", apart := false }
def FnExactThenSetMapsSaid : Prop := fnExactThenSetMapsRow.holds Try.pinned (OpenSpec.ofChange fnExactThenSetMapsSpec)

/-- ITS FALSE NEIGHBOUR: 'it returns false'. Refute it at one input. -/
def fnExactThenSetMapsWrong : ChangeSpec := { name := "fnExactThenSetMaps", fn := fun _ => fun
  | [d1, d2] => { results := [.lit (.bool false)], args := [d1, d2] }
  | _ => none }
def FnExactThenSetMapsWrongFalsely : Prop := fnExactThenSetMapsRow.holds Try.pinned (OpenSpec.ofChange fnExactThenSetMapsWrong)

/-- 'laws.FnExactInverseSetMap': WHATEVER THE INPUT: true; the input reads as it did. -/
def fnExactInverseSetMapSpec : ChangeSpec := { name := "fnExactInverseSetMap", fn := fun _ => fun
  | [d] => { results := [.lit (.bool true)], args := [d] }
  | _ => none }
def fnExactInverseSetMapRow : OpenClaim := { program := "ytgdcogaeechepaa", sum := "5d7fc072219bc0f3be67af107d05ca94b31d777041f789bf51bc63c998a4fce6", func := "loop.example/g01083/laws.FnExactInverseSetMap", spec := "fnExactInverseSetMap", apart := false }
def FnExactInverseSetMapSaid : Prop := fnExactInverseSetMapRow.holds Try.pinned (OpenSpec.ofChange fnExactInverseSetMapSpec)

/-- ITS FALSE NEIGHBOUR: 'it returns false'. Refute it at one input. -/
def fnExactInverseSetMapWrong : ChangeSpec := { name := "fnExactInverseSetMap", fn := fun _ => fun
  | [d] => { results := [.lit (.bool false)], args := [d] }
  | _ => none }
def FnExactInverseSetMapWrongFalsely : Prop := fnExactInverseSetMapRow.holds Try.pinned (OpenSpec.ofChange fnExactInverseSetMapWrong)

/-- 'laws.FnExactCopairSetMaps': WHATEVER THE INPUT: true; the input reads as it did. -/
def fnExactCopairSetMapsSpec : ChangeSpec := { name := "fnExactCopairSetMaps", fn := fun _ => fun
  | [d1, d2] => { results := [.lit (.bool true)], args := [d1, d2] }
  | _ => none }
def fnExactCopairSetMapsRow : OpenClaim := { program := "ytgdcogaeechepaa", sum := "5d7fc072219bc0f3be67af107d05ca94b31d777041f789bf51bc63c998a4fce6", func := "loop.example/g01083/laws.FnExactCopairSetMaps", spec := "fnExactCopairSetMaps", apart := false }
def FnExactCopairSetMapsSaid : Prop := fnExactCopairSetMapsRow.holds Try.pinned (OpenSpec.ofChange fnExactCopairSetMapsSpec)

/-- ITS FALSE NEIGHBOUR: 'it returns false'. Refute it at one input. -/
def fnExactCopairSetMapsWrong : ChangeSpec := { name := "fnExactCopairSetMaps", fn := fun _ => fun
  | [d1, d2] => { results := [.lit (.bool false)], args := [d1, d2] }
  | _ => none }
def FnExactCopairSetMapsWrongFalsely : Prop := fnExactCopairSetMapsRow.holds Try.pinned (OpenSpec.ofChange fnExactCopairSetMapsWrong)

/- THE SECOND FORM. 'bulk': how many values and letters a reading holds, each counted each time it is reached (what is shared counts as often as it is met; a slice's spare places count too). A statement '..UptoSaid' is the law's where the arguments, and the package variables that the reading takes, are together of bulk at most 1048576: NARROWER than '..Said'. Prove '..Said' where nothing that the law and all that it calls make is longer than what came in: it says more and counts as full. Else prove '..UptoSaid'. A law counts once. -/
mutual
def uptoBulk {H : Type} : DataW H → Nat
  | .lit (.string bytes) => bytes.length + 1
  | .lit _ => 1
  | .nil => 1
  | .ptr d => uptoBulk d + 1
  | .slice elems spare => uptoBulkAll elems + uptoBulkAll spare + 1
  | .agg parts => uptoBulkAll parts + 1
  | .iface _ d => uptoBulk d + 1
  | .map entries => uptoBulkEntries entries + 1
  | .held _ => 1
def uptoBulkAll {H : Type} : List (DataW H) → Nat
  | [] => 0
  | d :: r => uptoBulk d + uptoBulkAll r
def uptoBulkEntries {H : Type} : List (Lit × DataW H) → Nat
  | [] => 0
  | x :: r => uptoBulkEntry x + uptoBulkEntries r
def uptoBulkEntry {H : Type} : Lit × DataW H → Nat
  | (.string bytes, d) => bytes.length + uptoBulk d + 1
  | (_, d) => uptoBulk d + 1
 end
def uptoSmall : (H : Type) → List (DataW H) → Bool := fun _ ds => decide (uptoBulkAll ds ≤ 1048576)
def OpenSpec.upto (s : _root_.Go.ChangeSpec) : _root_.Go.OpenSpec := { _root_.Go.OpenSpec.ofChange s with cond := some uptoSmall }

/-- 'laws.FnExactThenSetMaps', WHERE WHAT IT READS IS OF BULK AT MOST 1048576: true; the input reads as it did. -/
def fnExactThenSetMapsUptoRow : OpenClaim := { program := "ytgdcogaeechepaa", sum := "5d7fc072219bc0f3be67af107d05ca94b31d777041f789bf51bc63c998a4fce6", func := "loop.example/g01083/laws.FnExactThenSetMaps", spec := "fnExactThenSetMaps", apart := false, narrowed := true }
def FnExactThenSetMapsUptoSaid : Prop := fnExactThenSetMapsUptoRow.holds Try.pinned (OpenSpec.upto fnExactThenSetMapsSpec)

/-- 'laws.FnExactInverseSetMap', WHERE WHAT IT READS IS OF BULK AT MOST 1048576: true; the input reads as it did. -/
def fnExactInverseSetMapUptoRow : OpenClaim := { program := "ytgdcogaeechepaa", sum := "5d7fc072219bc0f3be67af107d05ca94b31d777041f789bf51bc63c998a4fce6", func := "loop.example/g01083/laws.FnExactInverseSetMap", spec := "fnExactInverseSetMap", apart := false, narrowed := true }
def FnExactInverseSetMapUptoSaid : Prop := fnExactInverseSetMapUptoRow.holds Try.pinned (OpenSpec.upto fnExactInverseSetMapSpec)

/-- 'laws.FnExactCopairSetMaps', WHERE WHAT IT READS IS OF BULK AT MOST 1048576: true; the input reads as it did. -/
def fnExactCopairSetMapsUptoRow : OpenClaim := { program := "ytgdcogaeechepaa", sum := "5d7fc072219bc0f3be67af107d05ca94b31d777041f789bf51bc63c998a4fce6", func := "loop.example/g01083/laws.FnExactCopairSetMaps", spec := "fnExactCopairSetMaps", apart := false, narrowed := true }
def FnExactCopairSetMapsUptoSaid : Prop := fnExactCopairSetMapsUptoRow.holds Try.pinned (OpenSpec.upto fnExactCopairSetMapsSpec)

end Rows
end Go.Proofs.Ytgdcogaeechepaa
