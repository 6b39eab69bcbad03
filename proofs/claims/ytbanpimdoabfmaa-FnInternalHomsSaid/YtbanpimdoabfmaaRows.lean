/-
  No cell of these rows narrows 'for every input' (looked for: loops, veiled, ifaces, maps, wideKeys, modest, calm, conditions, laid).
  DERIVED. THE GIVEN ROWS OF THIS SEAT. 3 by the template 'for every input the law returns true; each argument reads behind the call as it read before'; 0 by the template 'total and deterministic' (their statements: YtbanpimdoabfmaaTotals.lean).
  GIVEN WITH THE SEED: the statements are not yours to turn. If you find one false, say at which input.
  Laid BY PROGRAM, IN A SANDBOX (cutbox-rows.mjs): the forced cells as the released guide's own fill.sh prints them over the translation e7e6f860b4cebbcf… (all of the seat's roots in one cut). By AI agents, Wed Nov 11 2026. No macro, syntax, notation, axiom, sorry.
-/
import Derived.Test.YtbanpimdoabfmaaChecked
import GoSem.Claim
import GoSem.ClaimJoined
import GoSem.ClaimMapViews
import Derived.JoinedTies
import Derived.KernelRfl
namespace Go.Proofs.Ytbanpimdoabfmaa
/- THE CELL 'sum', in the pinned program and in every row, IS THE sha256 OF THE DUMP (.gsa) THAT YtbanpimdoabfmaaProg.lean LOADS. Nothing in Lean hashes anything: it is a label: what it is worth is what the hold of that sum in a sandbox is worth. -/
noncomputable def Try.pinned : Pinned := { name := "ytbanpimdoabfmaa", sum := "e7e6f860b4cebbcf9fa8ecd64e67d1d2d85ef91b246fbe7144d853676833b9fc", checked := Try.checked }
namespace Rows
def none {H : Type} : Left H := { results := [], args := [] }

/-- 'laws.FnGenerated': WHATEVER THE INPUT: true; the input reads as it did. -/
def fnGeneratedSpec : ChangeSpec := { name := "fnGenerated", fn := fun _ => fun
  | [d] => { results := [.lit (.bool true)], args := [d] }
  | _ => none }
def fnGeneratedRow : OpenClaim := { program := "ytbanpimdoabfmaa", sum := "e7e6f860b4cebbcf9fa8ecd64e67d1d2d85ef91b246fbe7144d853676833b9fc", func := "loop.example/g01083/laws.FnGenerated", spec := "fnGenerated", unfollowed := true, recurses := true, apart := false }
def FnGeneratedSaid : Prop := fnGeneratedRow.holds Try.pinned (OpenSpec.ofChange fnGeneratedSpec)

/-- ITS FALSE NEIGHBOUR: 'it returns false'. Refute it at one input. -/
def fnGeneratedWrong : ChangeSpec := { name := "fnGenerated", fn := fun _ => fun
  | [d] => { results := [.lit (.bool false)], args := [d] }
  | _ => none }
def FnGeneratedWrongFalsely : Prop := fnGeneratedRow.holds Try.pinned (OpenSpec.ofChange fnGeneratedWrong)

/-- 'laws.FnInternalHoms': WHATEVER THE INPUT: true; the input reads as it did. -/
def fnInternalHomsSpec : ChangeSpec := { name := "fnInternalHoms", fn := fun _ => fun
  | [d] => { results := [.lit (.bool true)], args := [d] }
  | _ => none }
def fnInternalHomsRow : OpenClaim := { program := "ytbanpimdoabfmaa", sum := "e7e6f860b4cebbcf9fa8ecd64e67d1d2d85ef91b246fbe7144d853676833b9fc", func := "loop.example/g01083/laws.FnInternalHoms", spec := "fnInternalHoms", apart := false }
def FnInternalHomsSaid : Prop := fnInternalHomsRow.holds Try.pinned (OpenSpec.ofChange fnInternalHomsSpec)

/-- ITS FALSE NEIGHBOUR: 'it returns false'. Refute it at one input. -/
def fnInternalHomsWrong : ChangeSpec := { name := "fnInternalHoms", fn := fun _ => fun
  | [d] => { results := [.lit (.bool false)], args := [d] }
  | _ => none }
def FnInternalHomsWrongFalsely : Prop := fnInternalHomsRow.holds Try.pinned (OpenSpec.ofChange fnInternalHomsWrong)

/-- 'laws.FnCompletions': WHATEVER THE INPUT: true; the input reads as it did. -/
def fnCompletionsSpec : ChangeSpec := { name := "fnCompletions", fn := fun _ => fun
  | [d] => { results := [.lit (.bool true)], args := [d] }
  | _ => none }
def fnCompletionsRow : OpenClaim := { program := "ytbanpimdoabfmaa", sum := "e7e6f860b4cebbcf9fa8ecd64e67d1d2d85ef91b246fbe7144d853676833b9fc", func := "loop.example/g01083/laws.FnCompletions", spec := "fnCompletions", unfollowed := true, recurses := true, apart := false }
def FnCompletionsSaid : Prop := fnCompletionsRow.holds Try.pinned (OpenSpec.ofChange fnCompletionsSpec)

/-- ITS FALSE NEIGHBOUR: 'it returns false'. Refute it at one input. -/
def fnCompletionsWrong : ChangeSpec := { name := "fnCompletions", fn := fun _ => fun
  | [d] => { results := [.lit (.bool false)], args := [d] }
  | _ => none }
def FnCompletionsWrongFalsely : Prop := fnCompletionsRow.holds Try.pinned (OpenSpec.ofChange fnCompletionsWrong)

/- THE SECOND FORM. 'bulk': how many values and letters a reading holds, each counted each time it is reached (what is shared counts as often as it is met; a slice's spare places count too). A statement '..UptoSaid' is the law's where the arguments, and the package variables that the reading takes, are together of bulk at most 1048576: NARROWER than '..Said'. Prove '..Said' where nothing that the law and all that it calls make is longer than what came in: it says more and counts as full. Else prove '..UptoSaid'. A law counts once. -/
mutual
def uptoBulk {H : Type} : DataW H → Nat
  | .lit (.string bytes) => bytes.length + 1
  | .lit _ => 1
  | .nil => 1
  | .ptr d => uptoBulk d + 1
  | .slice elems spare => uptoBulkAll elems + uptoBulkAll spare + 1
  | .agg parts => uptoBulkAll parts + 1
  | .iface _ d => uptoBulk d + 1
  | .map entries => uptoBulkEntries entries + 1
  | .held _ => 1
def uptoBulkAll {H : Type} : List (DataW H) → Nat
  | [] => 0
  | d :: r => uptoBulk d + uptoBulkAll r
def uptoBulkEntries {H : Type} : List (Lit × DataW H) → Nat
  | [] => 0
  | x :: r => uptoBulkEntry x + uptoBulkEntries r
def uptoBulkEntry {H : Type} : Lit × DataW H → Nat
  | (.string bytes, d) => bytes.length + uptoBulk d + 1
  | (_, d) => uptoBulk d + 1
 end
def uptoSmall : (H : Type) → List (DataW H) → Bool := fun _ ds => decide (uptoBulkAll ds ≤ 1048576)
def OpenSpec.upto (s : _root_.Go.ChangeSpec) : _root_.Go.OpenSpec := { _root_.Go.OpenSpec.ofChange s with cond := some uptoSmall }

/-- 'laws.FnGenerated', WHERE WHAT IT READS IS OF BULK AT MOST 1048576: true; the input reads as it did. -/
def fnGeneratedUptoRow : OpenClaim := { program := "ytbanpimdoabfmaa", sum := "e7e6f860b4cebbcf9fa8ecd64e67d1d2d85ef91b246fbe7144d853676833b9fc", func := "loop.example/g01083/laws.FnGenerated", spec := "fnGenerated", unfollowed := true, recurses := true, apart := false, narrowed := true }
def FnGeneratedUptoSaid : Prop := fnGeneratedUptoRow.holds Try.pinned (OpenSpec.upto fnGeneratedSpec)

/-- 'laws.FnInternalHoms', WHERE WHAT IT READS IS OF BULK AT MOST 1048576: true; the input reads as it did. -/
def fnInternalHomsUptoRow : OpenClaim := { program := "ytbanpimdoabfmaa", sum := "e7e6f860b4cebbcf9fa8ecd64e67d1d2d85ef91b246fbe7144d853676833b9fc", func := "loop.example/g01083/laws.FnInternalHoms", spec := "fnInternalHoms", apart := false, narrowed := true }
def FnInternalHomsUptoSaid : Prop := fnInternalHomsUptoRow.holds Try.pinned (OpenSpec.upto fnInternalHomsSpec)

/-- 'laws.FnCompletions', WHERE WHAT IT READS IS OF BULK AT MOST 1048576: true; the input reads as it did. -/
def fnCompletionsUptoRow : OpenClaim := { program := "ytbanpimdoabfmaa", sum := "e7e6f860b4cebbcf9fa8ecd64e67d1d2d85ef91b246fbe7144d853676833b9fc", func := "loop.example/g01083/laws.FnCompletions", spec := "fnCompletions", unfollowed := true, recurses := true, apart := false, narrowed := true }
def FnCompletionsUptoSaid : Prop := fnCompletionsUptoRow.holds Try.pinned (OpenSpec.upto fnCompletionsSpec)

end Rows
end Go.Proofs.Ytbanpimdoabfmaa
