/- A part of the proof: a verified generator of conditions, and what each function of the program does. -/
import Derived.Test.YtbdkkdmlhmpffaaC11
import Derived.Conc.CrowdRun
set_option maxRecDepth 100000
set_option maxHeartbeats 4000000
set_option linter.unusedSimpArgs false
set_option linter.unusedVariables false
set_option linter.unusedSectionVars false
set_option linter.unnecessarySimpa false

namespace Go.Vc.Ph
open Go Go.Conc Go.Vc.Wg
open Go.ConcN (WD CTag phi pend isOpen isW3 isFin Vc Ssum Fsum cnt WSit WgLive PayAt Has RW AtR0 sumTo upd upd_same upd_ne OpenSt AllQuit)
open Go.ConcR (KK WgAt wgBlock stA smA rd wr mk Payload DC0 g_of_ofEvents)
open Go.ConcX (OfWg)
variable [PS]
section
variable {P:Program} {ty:TypeId} {Wg C n:Nat} {K:Nat→Nat→Value→World→Prop} {Anch:Goroutine→World→Prop} {E1:Goroutine→Prop} {c Be:Nat} {we:World} {Shun:Loc→Prop} {Post:Value→World→Prop}
 {gs:Array Goroutine} {w w' we':World} {sl:Option (Nat × Nat)} {t:Trace} {j:Nat} {D:Nat→WD} {PH:Nat→Nat} {TR:Nat→Tree} {val:Nat→Value} {V:Nat→World} {q β:Nat→Nat}
structure Brought (K:Nat→Nat→Value→World→Prop) (C n:Nat) (v₁ v₂:World):Prop where
 size:v₁.heap.size<v₂.heap.size
 old:∀ b,b<v₁.heap.size→b ≠ C→v₂.heap[b]? = v₁.heap[b]?
 rest:v₂.tape=v₁.tape∧v₂.os=v₁.os∧v₂.output=v₁.output∧v₁.drawn≤v₂.drawn
 vals:∃ (val:Nat→Value) (β:Nat→Nat) (U:Nat→World),(∃ cs:Array Value,v₂.heap[C]? = some (.cells cs Payload.ety)∧cs.size=PS.z∧∀ k,k<n→cs[k]? = some (val k)) ∧
  (∀ k,k<n→K (β k) k (val k) (U k)∧v₁.heap.size<β k∧∀ b,β k≤b→b<v₂.heap.size→¬ Blk (U k) b→v₂.heap[b]? = (U k).heap[b]?) ∧
  (∀ k k',k<n→k' < n→k ≠ k'→∀ b,β k≤b→b<v₂.heap.size→Blk (U k) b∨Blk (U k') b)∧(∀ k,k<n→(U k).heap.size=v₂.heap.size)
section
variable {v₁:World}
end
end
end Go.Vc.Ph
