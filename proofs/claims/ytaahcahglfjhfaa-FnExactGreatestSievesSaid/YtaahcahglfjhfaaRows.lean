/-
  No cell of these rows narrows 'for every input' (looked for: loops, veiled, ifaces, maps, wideKeys, modest, calm, conditions, laid).
  DERIVED. THE GIVEN ROWS OF THIS SEAT. 3 by the template 'for every input the law returns true; each argument reads behind the call as it read before'; 0 by the template 'total and deterministic' (their statements: YtaahcahglfjhfaaTotals.lean).
  GIVEN WITH THE SEED: the statements are not yours to turn. If you find one false, say at which input.
  Laid BY PROGRAM, IN A SANDBOX (cutbox-rows.mjs): the forced cells as the released guide's own fill.sh prints them over the translation c4f7c17234b6b7a4… (all of the seat's roots in one cut). By AI agents, Wed Nov 11 2026. No macro, syntax, notation, axiom, sorry.
-/
import Derived.Test.YtaahcahglfjhfaaChecked
import GoSem.Claim
import GoSem.ClaimJoined
import GoSem.ClaimMapViews
import Derived.JoinedTies
import Derived.KernelRfl
namespace Go.Proofs.Ytaahcahglfjhfaa
/- THE CELL 'sum', in the pinned program and in every row, IS THE sha256 OF THE DUMP (.gsa) THAT YtaahcahglfjhfaaProg.lean LOADS. Nothing in Lean hashes anything: it is a label: what it is worth is what the hold of that sum in a sandbox is worth. -/
noncomputable def Try.pinned : Pinned := { name := "ytaahcahglfjhfaa", sum := "c4f7c17234b6b7a495b49c813b3730008b7203c1f84d82938bfa491273ac2578", checked := Try.checked }
namespace Rows
def none {H : Type} : Left H := { results := [], args := [] }

/-- 'laws.FnExactDayProduct': WHATEVER THE INPUT: true; the input reads as it did. -/
def fnExactDayProductSpec : ChangeSpec := { name := "fnExactDayProduct", fn := fun _ => fun
  | [d1, d2, d3] => { results := [.lit (.bool true)], args := [d1, d2, d3] }
  | _ => none }
def fnExactDayProductRow : OpenClaim := { program := "ytaahcahglfjhfaa", sum := "c4f7c17234b6b7a495b49c813b3730008b7203c1f84d82938bfa491273ac2578", func := "loop.example/g01083/laws.FnExactDayProduct", spec := "fnExactDayProduct", apart := false }
def FnExactDayProductSaid : Prop := fnExactDayProductRow.holds Try.pinned (OpenSpec.ofChange fnExactDayProductSpec)

/-- ITS FALSE NEIGHBOUR: 'it returns false'. Refute it at one input. -/
def fnExactDayProductWrong : ChangeSpec := { name := "fnExactDayProduct", fn := fun _ => fun
  | [d1, d2, d3] => { results := [.lit (.bool false)], args := [d1, d2, d3] }
  | _ => none }
def FnExactDayProductWrongFalsely : Prop := fnExactDayProductRow.holds Try.pinned (OpenSpec.ofChange fnExactDayProductWrong)

/-- 'laws.FnExactClassifier': WHATEVER THE INPUT: true; the input reads as it did. -/
def fnExactClassifierSpec : ChangeSpec := { name := "fnExactClassifier", fn := fun _ => fun
  | [d] => { results := [.lit (.bool true)], args := [d] }
  | _ => none }
def fnExactClassifierRow : OpenClaim := { program := "ytaahcahglfjhfaa", sum := "c4f7c17234b6b7a495b49c813b3730008b7203c1f84d82938bfa491273ac2578", func := "loop.example/g01083/laws.FnExactClassifier", spec := "fnExactClassifier", unfollowed := true, recurses := true, apart := false }
def FnExactClassifierSaid : Prop := fnExactClassifierRow.holds Try.pinned (OpenSpec.ofChange fnExactClassifierSpec)

/-- ITS FALSE NEIGHBOUR: 'it returns false'. Refute it at one input. -/
def fnExactClassifierWrong : ChangeSpec := { name := "fnExactClassifier", fn := fun _ => fun
  | [d] => { results := [.lit (.bool false)], args := [d] }
  | _ => none }
def FnExactClassifierWrongFalsely : Prop := fnExactClassifierRow.holds Try.pinned (OpenSpec.ofChange fnExactClassifierWrong)

/-- 'laws.FnExactGreatestSieves': WHATEVER THE INPUT: true; the input reads as it did. -/
def fnExactGreatestSievesSpec : ChangeSpec := { name := "fnExactGreatestSieves", fn := fun _ => fun
  | [d] => { results := [.lit (.bool true)], args := [d] }
  | _ => none }
def fnExactGreatestSievesRow : OpenClaim := { program := "ytaahcahglfjhfaa", sum := "c4f7c17234b6b7a495b49c813b3730008b7203c1f84d82938bfa491273ac2578", func := "loop.example/g01083/laws.FnExactGreatestSieves", spec := "fnExactGreatestSieves", unfollowed := true, recurses := true, apart := false }
def FnExactGreatestSievesSaid : Prop := fnExactGreatestSievesRow.holds Try.pinned (OpenSpec.ofChange fnExactGreatestSievesSpec)

/-- ITS FALSE NEIGHBOUR: 'it returns false'. Refute it at one input. -/
def fnExactGreatestSievesWrong : ChangeSpec := { name := "fnExactGreatestSieves", fn := fun _ => fun
  | [d] => { results := [.lit (.bool false)], args := [d] }
  | _ => none }
def FnExactGreatestSievesWrongFalsely : Prop := fnExactGreatestSievesRow.holds Try.pinned (OpenSpec.ofChange fnExactGreatestSievesWrong)

/- THE SECOND FORM. 'bulk': how many values and letters a reading holds, each counted each time it is reached (what is shared counts as often as it is met; a slice's spare places count too). A statement '..UptoSaid' is the law's where the arguments, and the package variables that the reading takes, are together of bulk at most 1048576: NARROWER than '..Said'. Prove '..Said' where nothing that the law and all that it calls make is longer than what came in: it says more and counts as full. Else prove '..UptoSaid'. A law counts once. -/
mutual
def uptoBulk {H : Type} : DataW H → Nat
  | .lit (.string bytes) => bytes.length + 1
  | .lit _ => 1
  | .nil => 1
  | .ptr d => uptoBulk d + 1
  | .slice elems spare => uptoBulkAll elems + uptoBulkAll spare + 1
  | .agg parts => uptoBulkAll parts + 1
  | .iface _ d => uptoBulk d + 1
  | .map entries => uptoBulkEntries entries + 1
  | .held _ => 1
def uptoBulkAll {H : Type} : List (DataW H) → Nat
  | [] => 0
  | d :: r => uptoBulk d + uptoBulkAll r
def uptoBulkEntries {H : Type} : List (Lit × DataW H) → Nat
  | [] => 0
  | x :: r => uptoBulkEntry x + uptoBulkEntries r
def uptoBulkEntry {H : Type} : Lit × DataW H → Nat
  | (.string bytes, d) => bytes.length + uptoBulk d + 1
  | (_, d) => uptoBulk d + 1
 end
def uptoSmall : (H : Type) → List (DataW H) → Bool := fun _ ds => decide (uptoBulkAll ds ≤ 1048576)
def OpenSpec.upto (s : _root_.Go.ChangeSpec) : _root_.Go.OpenSpec := { _root_.Go.OpenSpec.ofChange s with cond := some uptoSmall }

/-- 'laws.FnExactDayProduct', WHERE WHAT IT READS IS OF BULK AT MOST 1048576: true; the input reads as it did. -/
def fnExactDayProductUptoRow : OpenClaim := { program := "ytaahcahglfjhfaa", sum := "c4f7c17234b6b7a495b49c813b3730008b7203c1f84d82938bfa491273ac2578", func := "loop.example/g01083/laws.FnExactDayProduct", spec := "fnExactDayProduct", apart := false, narrowed := true }
def FnExactDayProductUptoSaid : Prop := fnExactDayProductUptoRow.holds Try.pinned (OpenSpec.upto fnExactDayProductSpec)

/-- 'laws.FnExactClassifier', WHERE WHAT IT READS IS OF BULK AT MOST 1048576: true; the input reads as it did. -/
def fnExactClassifierUptoRow : OpenClaim := { program := "ytaahcahglfjhfaa", sum := "c4f7c17234b6b7a495b49c813b3730008b7203c1f84d82938bfa491273ac2578", func := "loop.example/g01083/laws.FnExactClassifier", spec := "fnExactClassifier", unfollowed := true, recurses := true, apart := false, narrowed := true }
def FnExactClassifierUptoSaid : Prop := fnExactClassifierUptoRow.holds Try.pinned (OpenSpec.upto fnExactClassifierSpec)

/-- 'laws.FnExactGreatestSieves', WHERE WHAT IT READS IS OF BULK AT MOST 1048576: true; the input reads as it did. -/
def fnExactGreatestSievesUptoRow : OpenClaim := { program := "ytaahcahglfjhfaa", sum := "c4f7c17234b6b7a495b49c813b3730008b7203c1f84d82938bfa491273ac2578", func := "loop.example/g01083/laws.FnExactGreatestSieves", spec := "fnExactGreatestSieves", unfollowed := true, recurses := true, apart := false, narrowed := true }
def FnExactGreatestSievesUptoSaid : Prop := fnExactGreatestSievesUptoRow.holds Try.pinned (OpenSpec.upto fnExactGreatestSievesSpec)

end Rows
end Go.Proofs.Ytaahcahglfjhfaa
