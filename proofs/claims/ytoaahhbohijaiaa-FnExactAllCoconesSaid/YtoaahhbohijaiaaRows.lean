/-
  No cell of these rows narrows 'for every input' (looked for: loops, veiled, ifaces, maps, wideKeys, modest, calm, conditions, laid).
  DERIVED. THE GIVEN ROWS OF THIS SEAT. 9 by the template 'for every input the law returns true; each argument reads behind the call as it read before'; 0 by the template 'total and deterministic' (their statements: YtoaahhbohijaiaaTotals.lean).
  GIVEN WITH THE SEED: the statements are not yours to turn. If you find one false, say at which input.
  Laid BY PROGRAM, IN A SANDBOX (cutbox-rows.mjs): the forced cells as the released guide's own fill.sh prints them over the translation 1bd6070facf94386… (all of the seat's roots in one cut). By AI agents, Wed Nov 11 2026. No macro, syntax, notation, axiom, sorry.
-/
import Derived.Test.YtoaahhbohijaiaaChecked
import GoSem.Claim
import GoSem.ClaimJoined
import GoSem.ClaimMapViews
import Derived.JoinedTies
import Derived.KernelRfl
namespace Go.Proofs.Ytoaahhbohijaiaa
/- THE CELL 'sum', in the pinned program and in every row, IS THE sha256 OF THE DUMP (.gsa) THAT YtoaahhbohijaiaaProg.lean LOADS. Nothing in Lean hashes anything: it is a label: what it is worth is what the hold of that sum in a sandbox is worth. -/
noncomputable def Try.pinned : Pinned := { name := "ytoaahhbohijaiaa", sum := "1bd6070facf94386e5c01bf6992e480138a1223e3f3c6ae5ef223bbf19aa3687", checked := Try.checked }
namespace Rows
def none {H : Type} : Left H := { results := [], args := [] }

/-- 'laws.FnExactMapOnElements': WHATEVER THE INPUT: true; the input reads as it did. -/
def fnExactMapOnElementsSpec : ChangeSpec := { name := "fnExactMapOnElements", fn := fun _ => fun
  | [d] => { results := [.lit (.bool true)], args := [d] }
  | _ => none }
def fnExactMapOnElementsRow : OpenClaim := { program := "ytoaahhbohijaiaa", sum := "1bd6070facf94386e5c01bf6992e480138a1223e3f3c6ae5ef223bbf19aa3687", func := "loop.example/g01083/laws.FnExactMapOnElements", spec := "fnExactMapOnElements", unfollowed := true, recurses := true, apart := false }
def FnExactMapOnElementsSaid : Prop := fnExactMapOnElementsRow.holds Try.pinned (OpenSpec.ofChange fnExactMapOnElementsSpec)

/-- ITS FALSE NEIGHBOUR: 'it returns false'. Refute it at one input. -/
def fnExactMapOnElementsWrong : ChangeSpec := { name := "fnExactMapOnElements", fn := fun _ => fun
  | [d] => { results := [.lit (.bool false)], args := [d] }
  | _ => none }
def FnExactMapOnElementsWrongFalsely : Prop := fnExactMapOnElementsRow.holds Try.pinned (OpenSpec.ofChange fnExactMapOnElementsWrong)

/-- 'laws.FnExactReflectsLimits': WHATEVER THE INPUT: true; the input reads as it did. -/
def fnExactReflectsLimitsSpec : ChangeSpec := { name := "fnExactReflectsLimits", fn := fun _ => fun
  | [d1, d2] => { results := [.lit (.bool true)], args := [d1, d2] }
  | _ => none }
def fnExactReflectsLimitsRow : OpenClaim := { program := "ytoaahhbohijaiaa", sum := "1bd6070facf94386e5c01bf6992e480138a1223e3f3c6ae5ef223bbf19aa3687", func := "loop.example/g01083/laws.FnExactReflectsLimits", spec := "fnExactReflectsLimits", unfollowed := true, recurses := true, apart := false }
def FnExactReflectsLimitsSaid : Prop := fnExactReflectsLimitsRow.holds Try.pinned (OpenSpec.ofChange fnExactReflectsLimitsSpec)

/-- ITS FALSE NEIGHBOUR: 'it returns false'. Refute it at one input. -/
def fnExactReflectsLimitsWrong : ChangeSpec := { name := "fnExactReflectsLimits", fn := fun _ => fun
  | [d1, d2] => { results := [.lit (.bool false)], args := [d1, d2] }
  | _ => none }
def FnExactReflectsLimitsWrongFalsely : Prop := fnExactReflectsLimitsRow.holds Try.pinned (OpenSpec.ofChange fnExactReflectsLimitsWrong)

/-- 'laws.FnExactKeepsLimit': WHATEVER THE INPUT: true; the input reads as it did. -/
def fnExactKeepsLimitSpec : ChangeSpec := { name := "fnExactKeepsLimit", fn := fun _ => fun
  | [d1, d2] => { results := [.lit (.bool true)], args := [d1, d2] }
  | _ => none }
def fnExactKeepsLimitRow : OpenClaim := { program := "ytoaahhbohijaiaa", sum := "1bd6070facf94386e5c01bf6992e480138a1223e3f3c6ae5ef223bbf19aa3687", func := "loop.example/g01083/laws.FnExactKeepsLimit", spec := "fnExactKeepsLimit", unfollowed := true, recurses := true, apart := false }
def FnExactKeepsLimitSaid : Prop := fnExactKeepsLimitRow.holds Try.pinned (OpenSpec.ofChange fnExactKeepsLimitSpec)

/-- ITS FALSE NEIGHBOUR: 'it returns false'. Refute it at one input. -/
def fnExactKeepsLimitWrong : ChangeSpec := { name := "fnExactKeepsLimit", fn := fun _ => fun
  | [d1, d2] => { results := [.lit (.bool false)], args := [d1, d2] }
  | _ => none }
def FnExactKeepsLimitWrongFalsely : Prop := fnExactKeepsLimitRow.holds Try.pinned (OpenSpec.ofChange fnExactKeepsLimitWrong)

/-- 'laws.FnExactReflectsColimits': WHATEVER THE INPUT: true; the input reads as it did. -/
def fnExactReflectsColimitsSpec : ChangeSpec := { name := "fnExactReflectsColimits", fn := fun _ => fun
  | [d1, d2] => { results := [.lit (.bool true)], args := [d1, d2] }
  | _ => none }
def fnExactReflectsColimitsRow : OpenClaim := { program := "ytoaahhbohijaiaa", sum := "1bd6070facf94386e5c01bf6992e480138a1223e3f3c6ae5ef223bbf19aa3687", func := "loop.example/g01083/laws.FnExactReflectsColimits", spec := "fnExactReflectsColimits", unfollowed := true, recurses := true, apart := false }
def FnExactReflectsColimitsSaid : Prop := fnExactReflectsColimitsRow.holds Try.pinned (OpenSpec.ofChange fnExactReflectsColimitsSpec)

/-- ITS FALSE NEIGHBOUR: 'it returns false'. Refute it at one input. -/
def fnExactReflectsColimitsWrong : ChangeSpec := { name := "fnExactReflectsColimits", fn := fun _ => fun
  | [d1, d2] => { results := [.lit (.bool false)], args := [d1, d2] }
  | _ => none }
def FnExactReflectsColimitsWrongFalsely : Prop := fnExactReflectsColimitsRow.holds Try.pinned (OpenSpec.ofChange fnExactReflectsColimitsWrong)

/-- 'laws.FnExactKeepsColimit': WHATEVER THE INPUT: true; the input reads as it did. -/
def fnExactKeepsColimitSpec : ChangeSpec := { name := "fnExactKeepsColimit", fn := fun _ => fun
  | [d1, d2] => { results := [.lit (.bool true)], args := [d1, d2] }
  | _ => none }
def fnExactKeepsColimitRow : OpenClaim := { program := "ytoaahhbohijaiaa", sum := "1bd6070facf94386e5c01bf6992e480138a1223e3f3c6ae5ef223bbf19aa3687", func := "loop.example/g01083/laws.FnExactKeepsColimit", spec := "fnExactKeepsColimit", unfollowed := true, recurses := true, apart := false }
def FnExactKeepsColimitSaid : Prop := fnExactKeepsColimitRow.holds Try.pinned (OpenSpec.ofChange fnExactKeepsColimitSpec)

/-- ITS FALSE NEIGHBOUR: 'it returns false'. Refute it at one input. -/
def fnExactKeepsColimitWrong : ChangeSpec := { name := "fnExactKeepsColimit", fn := fun _ => fun
  | [d1, d2] => { results := [.lit (.bool false)], args := [d1, d2] }
  | _ => none }
def FnExactKeepsColimitWrongFalsely : Prop := fnExactKeepsColimitRow.holds Try.pinned (OpenSpec.ofChange fnExactKeepsColimitWrong)

/-- 'laws.FnExactIsColimit': WHATEVER THE INPUT: true; the input reads as it did. -/
def fnExactIsColimitSpec : ChangeSpec := { name := "fnExactIsColimit", fn := fun _ => fun
  | [d1, d2] => { results := [.lit (.bool true)], args := [d1, d2] }
  | _ => none }
def fnExactIsColimitRow : OpenClaim := { program := "ytoaahhbohijaiaa", sum := "1bd6070facf94386e5c01bf6992e480138a1223e3f3c6ae5ef223bbf19aa3687", func := "loop.example/g01083/laws.FnExactIsColimit", spec := "fnExactIsColimit", unfollowed := true, recurses := true, apart := false }
def FnExactIsColimitSaid : Prop := fnExactIsColimitRow.holds Try.pinned (OpenSpec.ofChange fnExactIsColimitSpec)

/-- ITS FALSE NEIGHBOUR: 'it returns false'. Refute it at one input. -/
def fnExactIsColimitWrong : ChangeSpec := { name := "fnExactIsColimit", fn := fun _ => fun
  | [d1, d2] => { results := [.lit (.bool false)], args := [d1, d2] }
  | _ => none }
def FnExactIsColimitWrongFalsely : Prop := fnExactIsColimitRow.holds Try.pinned (OpenSpec.ofChange fnExactIsColimitWrong)

/-- 'laws.FnExactColimitOf': WHATEVER THE INPUT: true; the input reads as it did. -/
def fnExactColimitOfSpec : ChangeSpec := { name := "fnExactColimitOf", fn := fun _ => fun
  | [d] => { results := [.lit (.bool true)], args := [d] }
  | _ => none }
def fnExactColimitOfRow : OpenClaim := { program := "ytoaahhbohijaiaa", sum := "1bd6070facf94386e5c01bf6992e480138a1223e3f3c6ae5ef223bbf19aa3687", func := "loop.example/g01083/laws.FnExactColimitOf", spec := "fnExactColimitOf", unfollowed := true, recurses := true, apart := false }
def FnExactColimitOfSaid : Prop := fnExactColimitOfRow.holds Try.pinned (OpenSpec.ofChange fnExactColimitOfSpec)

/-- ITS FALSE NEIGHBOUR: 'it returns false'. Refute it at one input. -/
def fnExactColimitOfWrong : ChangeSpec := { name := "fnExactColimitOf", fn := fun _ => fun
  | [d] => { results := [.lit (.bool false)], args := [d] }
  | _ => none }
def FnExactColimitOfWrongFalsely : Prop := fnExactColimitOfRow.holds Try.pinned (OpenSpec.ofChange fnExactColimitOfWrong)

/-- 'laws.FnExactComediatingArrow': WHATEVER THE INPUT: true; the input reads as it did. -/
def fnExactComediatingArrowSpec : ChangeSpec := { name := "fnExactComediatingArrow", fn := fun _ => fun
  | [d1, d2, d3] => { results := [.lit (.bool true)], args := [d1, d2, d3] }
  | _ => none }
def fnExactComediatingArrowRow : OpenClaim := { program := "ytoaahhbohijaiaa", sum := "1bd6070facf94386e5c01bf6992e480138a1223e3f3c6ae5ef223bbf19aa3687", func := "loop.example/g01083/laws.FnExactComediatingArrow", spec := "fnExactComediatingArrow", unfollowed := true, recurses := true, apart := false }
def FnExactComediatingArrowSaid : Prop := fnExactComediatingArrowRow.holds Try.pinned (OpenSpec.ofChange fnExactComediatingArrowSpec)

/-- ITS FALSE NEIGHBOUR: 'it returns false'. Refute it at one input. -/
def fnExactComediatingArrowWrong : ChangeSpec := { name := "fnExactComediatingArrow", fn := fun _ => fun
  | [d1, d2, d3] => { results := [.lit (.bool false)], args := [d1, d2, d3] }
  | _ => none }
def FnExactComediatingArrowWrongFalsely : Prop := fnExactComediatingArrowRow.holds Try.pinned (OpenSpec.ofChange fnExactComediatingArrowWrong)

/-- 'laws.FnExactAllCocones': WHATEVER THE INPUT: true; the input reads as it did. -/
def fnExactAllCoconesSpec : ChangeSpec := { name := "fnExactAllCocones", fn := fun _ => fun
  | [d] => { results := [.lit (.bool true)], args := [d] }
  | _ => none }
def fnExactAllCoconesRow : OpenClaim := { program := "ytoaahhbohijaiaa", sum := "1bd6070facf94386e5c01bf6992e480138a1223e3f3c6ae5ef223bbf19aa3687", func := "loop.example/g01083/laws.FnExactAllCocones", spec := "fnExactAllCocones", unfollowed := true, recurses := true, apart := false }
def FnExactAllCoconesSaid : Prop := fnExactAllCoconesRow.holds Try.pinned (OpenSpec.ofChange fnExactAllCoconesSpec)

/-- ITS FALSE NEIGHBOUR: 'it returns false'. Refute it at one input. -/
def fnExactAllCoconesWrong : ChangeSpec := { name := "fnExactAllCocones", fn := fun _ => fun
  | [d] => { results := [.lit (.bool false)], args := [d] }
  | _ => none }
def FnExactAllCoconesWrongFalsely : Prop := fnExactAllCoconesRow.holds Try.pinned (OpenSpec.ofChange fnExactAllCoconesWrong)

/- THE SECOND FORM. 'bulk': how many values and letters a reading holds, each counted each time it is reached (what is shared counts as often as it is met; a slice's spare places count too). A statement '..UptoSaid' is the law's where the arguments, and the package variables that the reading takes, are together of bulk at most 1048576: NARROWER than '..Said'. Prove '..Said' where nothing that the law and all that it calls make is longer than what came in: it says more and counts as full. Else prove '..UptoSaid'. A law counts once. -/
mutual
def uptoBulk {H : Type} : DataW H → Nat
  | .lit (.string bytes) => bytes.length + 1
  | .lit _ => 1
  | .nil => 1
  | .ptr d => uptoBulk d + 1
  | .slice elems spare => uptoBulkAll elems + uptoBulkAll spare + 1
  | .agg parts => uptoBulkAll parts + 1
  | .iface _ d => uptoBulk d + 1
  | .map entries => uptoBulkEntries entries + 1
  | .held _ => 1
def uptoBulkAll {H : Type} : List (DataW H) → Nat
  | [] => 0
  | d :: r => uptoBulk d + uptoBulkAll r
def uptoBulkEntries {H : Type} : List (Lit × DataW H) → Nat
  | [] => 0
  | x :: r => uptoBulkEntry x + uptoBulkEntries r
def uptoBulkEntry {H : Type} : Lit × DataW H → Nat
  | (.string bytes, d) => bytes.length + uptoBulk d + 1
  | (_, d) => uptoBulk d + 1
 end
def uptoSmall : (H : Type) → List (DataW H) → Bool := fun _ ds => decide (uptoBulkAll ds ≤ 1048576)
def OpenSpec.upto (s : _root_.Go.ChangeSpec) : _root_.Go.OpenSpec := { _root_.Go.OpenSpec.ofChange s with cond := some uptoSmall }

/-- 'laws.FnExactMapOnElements', WHERE WHAT IT READS IS OF BULK AT MOST 1048576: true; the input reads as it did. -/
def fnExactMapOnElementsUptoRow : OpenClaim := { program := "ytoaahhbohijaiaa", sum := "1bd6070facf94386e5c01bf6992e480138a1223e3f3c6ae5ef223bbf19aa3687", func := "loop.example/g01083/laws.FnExactMapOnElements", spec := "fnExactMapOnElements", unfollowed := true, recurses := true, apart := false, narrowed := true }
def FnExactMapOnElementsUptoSaid : Prop := fnExactMapOnElementsUptoRow.holds Try.pinned (OpenSpec.upto fnExactMapOnElementsSpec)

/-- 'laws.FnExactReflectsLimits', WHERE WHAT IT READS IS OF BULK AT MOST 1048576: true; the input reads as it did. -/
def fnExactReflectsLimitsUptoRow : OpenClaim := { program := "ytoaahhbohijaiaa", sum := "1bd6070facf94386e5c01bf6992e480138a1223e3f3c6ae5ef223bbf19aa3687", func := "loop.example/g01083/laws.FnExactReflectsLimits", spec := "fnExactReflectsLimits", unfollowed := true, recurses := true, apart := false, narrowed := true }
def FnExactReflectsLimitsUptoSaid : Prop := fnExactReflectsLimitsUptoRow.holds Try.pinned (OpenSpec.upto fnExactReflectsLimitsSpec)

/-- 'laws.FnExactKeepsLimit', WHERE WHAT IT READS IS OF BULK AT MOST 1048576: true; the input reads as it did. -/
def fnExactKeepsLimitUptoRow : OpenClaim := { program := "ytoaahhbohijaiaa", sum := "1bd6070facf94386e5c01bf6992e480138a1223e3f3c6ae5ef223bbf19aa3687", func := "loop.example/g01083/laws.FnExactKeepsLimit", spec := "fnExactKeepsLimit", unfollowed := true, recurses := true, apart := false, narrowed := true }
def FnExactKeepsLimitUptoSaid : Prop := fnExactKeepsLimitUptoRow.holds Try.pinned (OpenSpec.upto fnExactKeepsLimitSpec)

/-- 'laws.FnExactReflectsColimits', WHERE WHAT IT READS IS OF BULK AT MOST 1048576: true; the input reads as it did. -/
def fnExactReflectsColimitsUptoRow : OpenClaim := { program := "ytoaahhbohijaiaa", sum := "1bd6070facf94386e5c01bf6992e480138a1223e3f3c6ae5ef223bbf19aa3687", func := "loop.example/g01083/laws.FnExactReflectsColimits", spec := "fnExactReflectsColimits", unfollowed := true, recurses := true, apart := false, narrowed := true }
def FnExactReflectsColimitsUptoSaid : Prop := fnExactReflectsColimitsUptoRow.holds Try.pinned (OpenSpec.upto fnExactReflectsColimitsSpec)

/-- 'laws.FnExactKeepsColimit', WHERE WHAT IT READS IS OF BULK AT MOST 1048576: true; the input reads as it did. -/
def fnExactKeepsColimitUptoRow : OpenClaim := { program := "ytoaahhbohijaiaa", sum := "1bd6070facf94386e5c01bf6992e480138a1223e3f3c6ae5ef223bbf19aa3687", func := "loop.example/g01083/laws.FnExactKeepsColimit", spec := "fnExactKeepsColimit", unfollowed := true, recurses := true, apart := false, narrowed := true }
def FnExactKeepsColimitUptoSaid : Prop := fnExactKeepsColimitUptoRow.holds Try.pinned (OpenSpec.upto fnExactKeepsColimitSpec)

/-- 'laws.FnExactIsColimit', WHERE WHAT IT READS IS OF BULK AT MOST 1048576: true; the input reads as it did. -/
def fnExactIsColimitUptoRow : OpenClaim := { program := "ytoaahhbohijaiaa", sum := "1bd6070facf94386e5c01bf6992e480138a1223e3f3c6ae5ef223bbf19aa3687", func := "loop.example/g01083/laws.FnExactIsColimit", spec := "fnExactIsColimit", unfollowed := true, recurses := true, apart := false, narrowed := true }
def FnExactIsColimitUptoSaid : Prop := fnExactIsColimitUptoRow.holds Try.pinned (OpenSpec.upto fnExactIsColimitSpec)

/-- 'laws.FnExactColimitOf', WHERE WHAT IT READS IS OF BULK AT MOST 1048576: true; the input reads as it did. -/
def fnExactColimitOfUptoRow : OpenClaim := { program := "ytoaahhbohijaiaa", sum := "1bd6070facf94386e5c01bf6992e480138a1223e3f3c6ae5ef223bbf19aa3687", func := "loop.example/g01083/laws.FnExactColimitOf", spec := "fnExactColimitOf", unfollowed := true, recurses := true, apart := false, narrowed := true }
def FnExactColimitOfUptoSaid : Prop := fnExactColimitOfUptoRow.holds Try.pinned (OpenSpec.upto fnExactColimitOfSpec)

/-- 'laws.FnExactComediatingArrow', WHERE WHAT IT READS IS OF BULK AT MOST 1048576: true; the input reads as it did. -/
def fnExactComediatingArrowUptoRow : OpenClaim := { program := "ytoaahhbohijaiaa", sum := "1bd6070facf94386e5c01bf6992e480138a1223e3f3c6ae5ef223bbf19aa3687", func := "loop.example/g01083/laws.FnExactComediatingArrow", spec := "fnExactComediatingArrow", unfollowed := true, recurses := true, apart := false, narrowed := true }
def FnExactComediatingArrowUptoSaid : Prop := fnExactComediatingArrowUptoRow.holds Try.pinned (OpenSpec.upto fnExactComediatingArrowSpec)

/-- 'laws.FnExactAllCocones', WHERE WHAT IT READS IS OF BULK AT MOST 1048576: true; the input reads as it did. -/
def fnExactAllCoconesUptoRow : OpenClaim := { program := "ytoaahhbohijaiaa", sum := "1bd6070facf94386e5c01bf6992e480138a1223e3f3c6ae5ef223bbf19aa3687", func := "loop.example/g01083/laws.FnExactAllCocones", spec := "fnExactAllCocones", unfollowed := true, recurses := true, apart := false, narrowed := true }
def FnExactAllCoconesUptoSaid : Prop := fnExactAllCoconesUptoRow.holds Try.pinned (OpenSpec.upto fnExactAllCoconesSpec)

end Rows
end Go.Proofs.Ytoaahhbohijaiaa
