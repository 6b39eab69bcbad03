/- A part of the proof: a verified generator of conditions, and what each function of the program does. -/
import Derived.Test.YtbdkkdmlhmpffaaC0
import Derived.Conc.WgGenN3
set_option maxRecDepth 100000
set_option maxHeartbeats 4000000
set_option linter.unusedSimpArgs false
set_option linter.unusedVariables false
set_option linter.unusedSectionVars false
set_option linter.unnecessarySimpa false

namespace Go.Vc.Wg
open Go Go.Conc Go.ConcN
open Go.ConcR (KK wgBlock WgAt stA smA rd wr mk Payload DC0)
class PS extends Payload where
 z:Nat
variable [Payload]
def RL (ty:TypeId) (Wg:Nat) (w w₁:World):Prop:=WgLive ty Wg w→WgLive ty Wg w₁
theorem RL.trans {ty:TypeId} {Wg:Nat} (a b c:World) (h:RL ty Wg a b) (k:RL ty Wg b c):RL ty Wg a c:=k ∘ h
section
variable (P:Program) (ty:TypeId) (Wg:Nat)
abbrev GP:=Goes P true (RL ty Wg) DC0
def AtMk (e:Event) (Next:Goroutine→World→Prop) (g:Goroutine) (w:World):Prop :=
 g.status = .running∧∃ g',stepG P true g w = .go g' w #[e]∧∃ m,GP P ty Wg Next m g' w
def saidR (Wg:Nat):Event:=mk (.read ⟨Wg,1,none⟩)
def saidW (Wg:Nat):Event:=mk (.write ⟨Wg,1,none⟩)
def AtAdd (Next:Goroutine→World→Prop) (g:Goroutine) (w:World):Prop :=
 g.status = .running∧∀ v:Nat,v<2147483647→WgAt ty Wg w (v * KK) 0 →
  ∃ g',stepG P true g w = .go g' (w.setCell (stA Wg) (.int .u64 ((v+1) * KK))) #[rd (stA Wg),Go.ConcR.wr (stA Wg)] ∧
   (v=0→∃ m,GP P ty Wg (AtMk P ty Wg (saidR Wg) (AtMk P ty Wg (mk .enable) Next)) m g' (w.setCell (stA Wg) (.int .u64 ((v+1) * KK)))) ∧
   (v ≠ 0→∃ m,GP P ty Wg (AtMk P ty Wg (mk .enable) Next) m g' (w.setCell (stA Wg) (.int .u64 ((v+1) * KK))))
def AtW4 (Next:Goroutine→World→Prop) (g:Goroutine) (w:World):Prop :=
 g.status = .running∧(WgAt ty Wg w 0 0→∃ g',stepG P true g w = .go g' w #[rd (stA Wg)]∧∃ m,GP P ty Wg (AtMk P ty Wg (mk .enable) (AtMk P ty Wg (mk (.acquire (stA Wg))) Next)) m g' w)
def AtW3 (Next:Goroutine→World→Prop) (g:Goroutine) (w:World):Prop :=
 g.status = .running∧g.offers=none ∧
  ((∃ st,WgAt ty Wg w st 0)→stepG P true g w = .go { g with status:=.blocked } w #[]) ∧
  (WgAt ty Wg w 0 1→∃ g',stepG P true g w = .go g' (w.setCell (smA Wg) (.int .u32 0)) (semEvents (smA Wg))∧∃ m,GP P ty Wg (AtW4 P ty Wg Next) m g' (w.setCell (smA Wg) (.int .u32 0)))
def AtW2 (Anch Next:Goroutine→World→Prop) (vs:Nat) (g:Goroutine) (w:World):Prop :=
 g.status = .running∧∀ v:Nat,v<2147483648→WgAt ty Wg w (v * KK) 0 →
  (v=vs→∃ g',stepG P true g w = .go g' (w.setCell (stA Wg) (.int .u64 (v * KK+1))) #[rd (stA Wg),Go.ConcR.wr (stA Wg)]∧∃ m,GP P ty Wg (AtMk P ty Wg (saidW Wg) (AtW3 P ty Wg Next)) m g' (w.setCell (stA Wg) (.int .u64 (v * KK+1)))) ∧
  (v ≠ vs→∃ g',stepG P true g w = .go g' w #[rd (stA Wg)]∧∃ m,GP P ty Wg Anch m g' w)
def AtW1 (Anch Next:Goroutine→World→Prop) (g:Goroutine) (w:World):Prop :=
 g.status = .running∧∀ v:Nat,v<2147483648→WgAt ty Wg w (v * KK) 0→∃ g',stepG P true g w = .go g' w #[rd (stA Wg)] ∧
  (v=0→∃ m,GP P ty Wg (AtMk P ty Wg (mk .enable) (AtMk P ty Wg (mk (.acquire (stA Wg))) Next)) m g' w)∧(v ≠ 0→∃ m,GP P ty Wg (AtW2 P ty Wg Anch Next v) m g' w)
end
end Go.Vc.Wg
